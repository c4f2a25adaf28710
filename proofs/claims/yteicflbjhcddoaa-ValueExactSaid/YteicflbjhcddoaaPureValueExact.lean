/-
  The plain law behind ValueExact.
  Conditions: none but those of the given statement.
-/
import Derived.Test.YteicflbjhcddoaaValueMore
import Derived.Test.YteicflbjhcddoaaPAllx7
namespace Go.Proofs.Yteicflbjhcddoaa.Pure
open Go.RowKit Go.Proofs.Yteicflbjhcddoaa.PAll Go.Proofs.YteicflbjhcddoaaW.PrintWords Go.Proofs.YteicflbjhcddoaaW.PrintLast Go.Proofs.YteicflbjhcddoaaW.PrintMore Go.Proofs.Yteicflbjhcddoaa.Plain
set_option linter.unusedVariables false
set_option linter.unusedSimpArgs false
theorem ValueExact : raddlelaw03_ValueExact.Pure := by
  intro a b t wa wb wt
  refine ⟨200, ?_⟩
  unfold raddlelaw03_ValueExact.f
  rw [long_eq _ _ (by simp) (by simp), Option.bind_some]
  by_cases hl : ([(⟨a.f0, a.f1, a.f2⟩ : S23), ⟨b.f0, b.f1, b.f2⟩].any isLong) = true
  · rw [if_pos hl]
  rw [if_neg hl, rvalue_eq, Option.bind_some, vbytes_eq _ _ _ _ (by omega), Option.bind_some, check_eq, Option.bind_some, vcompare_eq _ _ _ _ _ _ _ (by omega), rcompare_eq, fits_eq, rfits_eq, small_eq, rsmall_eq, Option.bind_some, Option.bind_some, Option.bind_some, Option.bind_some, Option.bind_some, Option.bind_some, Option.bind_some]
  by_cases ho : vOk a.f0 a.f1 a.f2
  · have hs : (sVB a.f0 a.f1 a.f2).length ≤ 100 := by
      rw [sVB_length ho]; unfold vOk at ho; repeat' split
      all_goals omega
    simp only [ho, if_true, decide_true, bne_self_eq_false, BEq.rfl, Bool.false_eq_true, if_false, raddlelaw03_ValueExact.j0]
    rw [vread_back _ _ _ _ ho (by omega), Option.bind_some, rvbytes_eq _ _ _ _ ho (by omega), Option.bind_some, same_eq _ _ _ (by omega) (by omega), Option.bind_some, keepValue_eq, wakes3_eq _ (by omega)]
    simp
  · simp only [ho, if_false, decide_false, bne_self_eq_false, Bool.false_eq_true, if_true, raddlelaw03_ValueExact.j0, show (((1 : Int) == 0) != false) = false from rfl]
    rw [wakes3_eq _ (by omega)]
    simp
end Go.Proofs.Yteicflbjhcddoaa.Pure
