/-
  The plain law behind ValueOrder.
  Conditions: none but those of the given statement.
-/
import Derived.Test.YteicflbjhcddoaaValueMore
import Derived.Test.YteicflbjhcddoaaValueOrd
import Derived.Test.YteicflbjhcddoaaPAllx10
namespace Go.Proofs.Yteicflbjhcddoaa.Pure
open Go.RowKit Go.Proofs.Yteicflbjhcddoaa.PAll Go.Proofs.YteicflbjhcddoaaW.PrintWords Go.Proofs.YteicflbjhcddoaaW.PrintLast Go.Proofs.YteicflbjhcddoaaW.PrintMore Go.Proofs.Yteicflbjhcddoaa.Plain
set_option linter.unusedVariables false
set_option linter.unusedSimpArgs false
theorem ValueOrder : raddlelaw03_ValueOrder.Pure := by
  intro a b c wa wb wc
  refine ⟨200, ?_⟩
  unfold raddlelaw03_ValueOrder.f
  rw [long_eq _ _ (by simp) (by simp), Option.bind_some]
  by_cases hl : ([(⟨a.f0, a.f1, a.f2⟩ : S23), ⟨b.f0, b.f1, b.f2⟩, ⟨c.f0, c.f1, c.f2⟩].any isLong) = true
  · rw [if_pos hl]
  rw [if_neg hl]
  simp only [vcompare_eq 200 _ _ _ _ _ _ (by omega), Option.bind_some, keepValue_eq, sCmp_self, if_true]
  have h1 := sCmp_swap a.f0 a.f1 a.f2 b.f0 b.f1 b.f2
  have h2 := sCmp_bd a.f0 a.f1 a.f2 b.f0 b.f1 b.f2
  have h3 := sCmp_trans a.f0 a.f1 a.f2 b.f0 b.f1 b.f2 c.f0 c.f1 c.f2
  have h4 := sCmp_zero a.f0 a.f1 a.f2 b.f0 b.f1 b.f2
  have h5 := sCmp_trans' a.f0 a.f1 a.f2 b.f0 b.f1 b.f2 c.f0 c.f1 c.f2
  have h6 := sCmp_bd b.f0 b.f1 b.f2 a.f0 a.f1 a.f2
  rw [w64 (by omega) (by omega), if_pos (by omega)]
  have h7 : ((sCmp a.f0 a.f1 a.f2 b.f0 b.f1 b.f2 == 0) != decide (a.f0 = b.f0 ∧ a.f1 = b.f1 ∧ a.f2 = b.f2)) = false := by
    by_cases h : sCmp a.f0 a.f1 a.f2 b.f0 b.f1 b.f2 = 0
    · rw [decide_eq_true (h4.1 h), h]; rfl
    · rw [decide_eq_false (fun x => h (h4.2 x)), beq_eq_false_iff_ne.2 h]; rfl
  rw [h7, if_neg (by decide), if_neg (by omega), decide_eq_false (by omega)]
  simp only [raddlelaw03_ValueOrder.j0, wakes3_eq 199 (by omega), Option.bind_some]
  repeat' split
  all_goals first | rfl | contradiction | omega
end Go.Proofs.Yteicflbjhcddoaa.Pure
