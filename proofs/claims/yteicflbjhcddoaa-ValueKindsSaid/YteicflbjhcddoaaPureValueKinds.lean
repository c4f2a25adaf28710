/-
  The plain law behind ValueKinds.
  Conditions: none but those of the given statement.
-/
import Derived.Test.YteicflbjhcddoaaValueMore
import Derived.Test.YteicflbjhcddoaaPAllx11
namespace Go.Proofs.Yteicflbjhcddoaa.Pure
open Go.RowKit Go.Proofs.Yteicflbjhcddoaa.PAll Go.Proofs.YteicflbjhcddoaaW.PrintWords Go.Proofs.YteicflbjhcddoaaW.PrintLast Go.Proofs.YteicflbjhcddoaaW.PrintMore Go.Proofs.Yteicflbjhcddoaa.Plain
set_option linter.unusedVariables false
set_option linter.unusedSimpArgs false
theorem kinds_l0 (fuel : Nat) (t n x k i : Int) (s : ByteArray) (hx : 2 ≤ x) (hx4 : x ≤ 4) (hn : 0 ≤ n) (hn3 : n ≤ 100) :
    raddlelaw03_ValueKinds.l0 (fuel + 1) t n x k i s = raddlelaw03_ValueKinds.l0 fuel t (n + if vFits k i s x then 1 else 0) (x + 1) k i s := by
  simp only [raddlelaw03_ValueKinds.l0]
  rw [if_pos hx4, fits_eq, Option.bind_some, w64 (x := x + 1) (by omega) (by omega)]
  by_cases h : vFits k i s x
  · rw [decide_eq_true h, if_pos rfl, if_pos h, w64 (by omega) (by omega)]
  · rw [decide_eq_false h, if_neg (by decide), if_neg h, Int.add_zero]
theorem kinds_end (fuel : Nat) (t n k i : Int) (s : ByteArray) :
    raddlelaw03_ValueKinds.l0 (fuel + 1) t n 5 k i s = raddlelaw03_ValueKinds.j1 fuel t n (if vOk k i s then (if k = 1 then 3 else 1) else 0) k i s := by
  simp only [raddlelaw03_ValueKinds.l0]
  rw [if_neg (by decide), rvalue_eq, Option.bind_some]
  by_cases h : vOk k i s
  · rw [decide_eq_true h, if_pos rfl, if_pos h]
    by_cases h1 : k = 1
    · rw [if_pos h1, if_pos h1]
    · rw [if_neg h1, if_neg h1]
  · rw [decide_eq_false h, if_neg (by decide), if_neg h]
theorem kinds_j2 (fuel : Nat) (t n want k i : Int) (s : ByteArray) (b : Bool) (hk : 60 ≤ fuel) (hw : n = want) (hown : want = 1 → vFits k i s k) (hout : b = true → ¬ vFits k i s t) :
    raddlelaw03_ValueKinds.j2 (fuel + 1) t n want b k i s = some true := by
  simp only [raddlelaw03_ValueKinds.j2]
  rw [if_pos hw, fits_eq, fits_eq, Option.bind_some, Option.bind_some, wakes3_eq _ hk]
  have hr : (if want = 1 then (if decide (vFits k i s k) = true then ((some true).bind fun t => some t) else some false) else ((some true).bind fun t => some t)) = some true := by
    by_cases h1 : want = 1
    · rw [if_pos h1, decide_eq_true (hown h1), if_pos rfl]; rfl
    · rw [if_neg h1]; rfl
  by_cases hb : b = true
  · rw [if_pos hb, decide_eq_false (hout hb), if_neg (by decide)]
    exact hr
  · rw [if_neg hb]
    exact hr
theorem kinds_j (fuel : Nat) (t n want k i : Int) (s : ByteArray) (hk : 60 ≤ fuel) (hw : n = want) (hown : want = 1 → vFits k i s k) (hout : t < 2 ∨ t > 4 → ¬ vFits k i s t) :
    raddlelaw03_ValueKinds.j1 (fuel + 2) t n want k i s = some true := by
  simp only [raddlelaw03_ValueKinds.j1]
  by_cases h : t < 2
  · rw [if_pos h]; exact kinds_j2 _ _ _ _ _ _ _ _ hk hw hown (fun _ => hout (.inl h))
  · rw [if_neg h]; exact kinds_j2 _ _ _ _ _ _ _ _ hk hw hown (fun hb => hout (.inr (of_decide_eq_true hb)))
theorem ValueKinds : raddlelaw03_ValueKinds.Pure := by
  intro a t wa wt
  refine ⟨200, ?_⟩
  unfold raddlelaw03_ValueKinds.f
  rw [long_eq _ _ (by simp) (by simp), Option.bind_some]
  by_cases hl : ([(⟨a.f0, a.f1, a.f2⟩ : S23)].any isLong) = true
  · rw [if_pos hl]
  rw [if_neg hl, kinds_l0 199 t 0 2 _ _ _ (by omega) (by omega) (by omega) (by omega)]
  show raddlelaw03_ValueKinds.l0 (198 + 1) t _ 3 _ _ _ = _
  rw [kinds_l0 198 t _ 3 _ _ _ (by omega) (by omega) (by split <;> omega) (by split <;> omega)]
  show raddlelaw03_ValueKinds.l0 (197 + 1) t _ 4 _ _ _ = _
  rw [kinds_l0 197 t _ 4 _ _ _ (by omega) (by omega) (by split <;> split <;> omega) (by split <;> split <;> omega)]
  show raddlelaw03_ValueKinds.l0 (196 + 1) t _ 5 _ _ _ = _
  rw [kinds_end]
  refine kinds_j 194 t _ _ _ _ _ (by omega) ?_ ?_ ?_
  · by_cases ho : vOk a.f0 a.f1 a.f2
    · have h' := ho
      unfold vOk at h'
      unfold vFits
      simp only [ho, true_and, if_true]
      repeat' split
      all_goals omega
    · unfold vFits
      simp only [ho, false_and, and_false, if_false]
      rfl
  · intro h1
    by_cases ho : vOk a.f0 a.f1 a.f2
    · rw [if_pos ho] at h1
      have h' := ho
      unfold vOk at h'
      refine ⟨?_, ho, .inl rfl⟩
      by_cases h2 : a.f0 = 1
      · rw [if_pos h2] at h1; omega
      · omega
    · rw [if_neg ho] at h1; omega
  · intro h h2
    have := h2.1
    omega
end Go.Proofs.Yteicflbjhcddoaa.Pure
