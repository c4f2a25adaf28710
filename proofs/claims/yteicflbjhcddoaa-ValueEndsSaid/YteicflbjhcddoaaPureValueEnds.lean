/-
  The plain law behind ValueEnds.
  Conditions: none but those of the given statement.
-/
import Derived.Test.YteicflbjhcddoaaValueMore
import Derived.Test.YteicflbjhcddoaaPAllx13
namespace Go.Proofs.Yteicflbjhcddoaa.Pure
open Go.RowKit Go.Proofs.Yteicflbjhcddoaa.PAll Go.Proofs.YteicflbjhcddoaaW.PrintWords Go.Proofs.YteicflbjhcddoaaW.PrintLast Go.Proofs.YteicflbjhcddoaaW.PrintMore Go.Proofs.Yteicflbjhcddoaa.Plain
set_option linter.unusedVariables false
set_option linter.unusedSimpArgs false
theorem ends_j0 (k : Nat) (o n m : Int) (hk : 60 ≤ k) (ho : o = 0 ∨ o = 1) (hn : vOk 3 n ⟨#[]⟩ ↔ o = 0) (hm : vOk 3 m ⟨#[]⟩) (hs : vSmall 3 m ⟨#[]⟩ ↔ o = 0) :
    raddlelaw03_ValueEnds.j0 (k + 1) o n m = some true := by
  simp only [raddlelaw03_ValueEnds.j0]
  rw [w64 (x := 24 + o) (by omega) (by omega), if_pos (by omega), if_pos (by omega), Option.bind_some]
  have hsz : (strOfNums (List.replicate (24 + o).toNat 0)).size = (24 + o).toNat := by rw [strOfNums_size, List.length_replicate]
  generalize strOfNums (List.replicate (24 + o).toNat 0) = s at hsz ⊢
  have h4 : vOk 4 0 s ↔ o = 0 := by unfold vOk; omega
  have h5 : vSmall 4 0 s ↔ o = 0 := by unfold vSmall; rw [h4]; omega
  have h6 : vFits 4 0 s 4 ↔ o = 0 := by unfold vFits; rw [h4]; omega
  rw [check_eq, Option.bind_some, check_eq, Option.bind_some, small_eq, Option.bind_some, check_eq, Option.bind_some, small_eq, Option.bind_some, fits_eq, Option.bind_some, wakes3_eq k hk, if_pos hm]
  rcases ho with rfl | rfl
  · rw [if_pos (hn.2 rfl), if_pos (h4.2 rfl), decide_eq_true (hs.2 rfl), decide_eq_true (h5.2 rfl), decide_eq_true (h6.2 rfl)]
    rfl
  · rw [if_neg (show ¬ vOk 3 n ⟨#[]⟩ from fun h => by have := hn.1 h; omega), if_neg (show ¬ vOk 4 0 s from fun h => by have := h4.1 h; omega), decide_eq_false (show ¬ vSmall 3 m ⟨#[]⟩ from fun h => by have := hs.1 h; omega), decide_eq_false (show ¬ vSmall 4 0 s from fun h => by have := h5.1 h; omega), decide_eq_false (show ¬ vFits 4 0 s 4 from fun h => by have := h6.1 h; omega)]
    rfl
theorem ValueEnds : raddlelaw03_ValueEnds.Pure := by
  intro over neg wo
  refine ⟨200, ?_⟩
  obtain ⟨o, ho, he⟩ : ∃ o : Int, (o = 0 ∨ o = 1) ∧ wrap64 (Int.tmod (IntKind.u64.wrap over) 2) = o := by
    have h0 : 0 ≤ IntKind.u64.wrap over := by rw [u64_mod]; exact Int.emod_nonneg _ (by decide)
    rw [Int.tmod_eq_emod_of_nonneg h0, w64 (by omega) (by omega)]
    exact ⟨_, by omega, rfl⟩
  unfold raddlelaw03_ValueEnds.f
  rw [he]
  have e0 : (⟨#[]⟩ : ByteArray).size = 0 := rfl
  by_cases hneg : neg = true
  · rw [if_pos hneg, w64 (x := 1152921504606846976 + o) (by omega) (by omega), w64 (x := 2147483648 + o) (by omega) (by omega), w64 (x := -(1152921504606846976 + o)) (by omega) (by omega), w64 (x := -(2147483648 + o)) (by omega) (by omega)]
    have hm : vOk 3 (-(2147483648 + o)) ⟨#[]⟩ := by unfold vOk; omega
    refine ends_j0 199 o _ _ (by omega) ho ?_ hm ?_
    · unfold vOk; omega
    · exact ⟨fun h => by have := h.2 rfl; omega, fun h => ⟨hm, fun _ => by omega⟩⟩
  · rw [if_neg hneg, w64 (x := 1152921504606846976 + o) (by omega) (by omega), w64 (x := 2147483648 + o) (by omega) (by omega)]
    have hm : vOk 3 (2147483648 + o) ⟨#[]⟩ := by unfold vOk; omega
    refine ends_j0 199 o _ _ (by omega) ho ?_ hm ?_
    · unfold vOk; omega
    · exact ⟨fun h => by have := h.2 rfl; omega, fun h => ⟨hm, fun _ => by omega⟩⟩
end Go.Proofs.Yteicflbjhcddoaa.Pure
