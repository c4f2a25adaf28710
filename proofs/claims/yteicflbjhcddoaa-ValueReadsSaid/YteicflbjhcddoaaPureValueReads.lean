/-
  The plain law behind ValueReads.
  Conditions: none but those of the given statement.
-/
import Derived.Test.YteicflbjhcddoaaValueMore
import Derived.Test.YteicflbjhcddoaaValueRef
import Derived.Test.YteicflbjhcddoaaValueOrd
import Derived.Test.YteicflbjhcddoaaPAllx9
namespace Go.Proofs.Yteicflbjhcddoaa.Pure
open Go.RowKit Go.Proofs.Yteicflbjhcddoaa.PAll Go.Proofs.YteicflbjhcddoaaW.PrintWords Go.Proofs.YteicflbjhcddoaaW.PrintLast Go.Proofs.YteicflbjhcddoaaW.PrintMore Go.Proofs.Yteicflbjhcddoaa.Plain
set_option linter.unusedVariables false
set_option linter.unusedSimpArgs false
theorem ValueReads : raddlelaw03_ValueReads.Pure := by
  intro l at_ w1 w2 wl wa
  have hb : Bytes l := Bytes.of_wf wl
  have ha := wf_i64 wa
  refine ⟨1000, ?_⟩
  unfold raddlelaw03_ValueReads.f
  by_cases hl : (l.length : Int) > 300
  · rw [if_pos hl]
  rw [if_neg hl, twin_eq _ (by omega), Option.bind_some, vread_eq _ _ _ hb (by omega) (by omega) (by omega), Option.bind_some, rvread_eq _ _ _ hb (by omega) (by omega) (by omega), Option.bind_some, if_pos rfl, if_pos rfl, keepValue_eq, Option.bind_some, if_pos (by simp), same_eq _ _ _ (by omega) (by omega), Option.bind_some]
  simp only [decide_true, Bool.not_true, raddlelaw03_ValueReads.j0]
  rw [if_neg (by decide), wakes3_eq _ (by omega)]
  by_cases hz : (sVRead l at_).2.2.2.2 = 0
  · obtain ⟨ho, h0, h1, h2, h3⟩ := vread_sub hb hz
    rw [if_pos hz, vbytes_eq _ _ _ _ (by omega), if_pos ho, Option.bind_some]
    simp only
    rw [if_pos trivial, if_pos h2, if_pos (by omega), if_pos h1, if_pos h0]
    have hs : (sVB (sVRead l at_).1 (sVRead l at_).2.1 (sVRead l at_).2.2.1).length ≤ 900 := by
      rw [h3, sub_length (by omega)]; omega
    have h3' := h3
    unfold sub at h3'
    rw [same_eq _ _ _ (by omega) (by omega), Option.bind_some, h3', decide_eq_true rfl, if_pos rfl]
    rfl
  · rw [if_neg hz]; rfl
end Go.Proofs.Yteicflbjhcddoaa.Pure
