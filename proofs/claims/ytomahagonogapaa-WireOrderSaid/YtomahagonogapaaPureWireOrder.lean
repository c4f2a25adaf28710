/-
  The plain law behind WireOrder: numbers are ordered as their bytes are; unlike numbers have unlike bytes, with a sign, too.
  Conditions: none but those of the given statement.
-/
import Derived.Test.YtomahagonogapaaWireLaws
import Derived.Test.YtomahagonogapaaPAllx4
namespace Go.Proofs.Ytomahagonogapaa.Pure
open Go.RowKit Go.Proofs.Ytomahagonogapaa.PAll Go.Proofs.YtomahagonogapaaW.PrintWords Go.Proofs.YtomahagonogapaaW.PrintLast Go.Proofs.YtomahagonogapaaW.PrintMore Go.Proofs.Ytomahagonogapaa.Plain
set_option linter.unusedVariables false
set_option linter.unusedSimpArgs false

theorem WireOrder : raddlelaw01_WireOrder.Pure := by
  intro a b size ha hb hz
  obtain ⟨s, hs1, hs7, hs⟩ := size7 size (wf_i64 hz)
  have hp := pow_pos s
  have hl := pow256_le hs7
  refine ⟨1000, ?_⟩
  unfold raddlelaw01_WireOrder.f
  rw [hs, w64 (x := 8 * (s : Int)) (by omega) (by omega), wu64 (x := 8 * (s : Int)) (by omega) (by omega), if_pos (by omega), shl_bytes s hs7, w64 (x := (256 : Int) ^ s - 1) (by omega) (by omega), mask_and a s hs1 hs7, mask_and b s hs1 hs7]
  have a0 := Int.emod_nonneg a (show (256 : Int) ^ s ≠ 0 by omega)
  have a1 := Int.emod_lt_of_pos a hp
  have b0 := Int.emod_nonneg b (show (256 : Int) ^ s ≠ 0 by omega)
  have b1 := Int.emod_lt_of_pos b hp
  generalize a % 256 ^ s = m at *
  generalize b % 256 ^ s = n at *
  obtain ⟨p0, p1⟩ := within_bd a
  obtain ⟨q0, q1⟩ := within_bd b
  have hput : ∀ x : Int, 0 ≤ x → x < 256 ^ s → sPut [] x s = (big x s, 0) := fun x h0 h1 => by unfold sPut; rw [if_pos ⟨by omega, by omega, h0, by simpa using h1⟩]; simp
  have hint : ∀ x : Int, -1152921504606846976 ≤ x → x ≤ 1152921504606846976 → sPutInt [] x = (intB x, 0) := fun x h0 h1 => by unfold sPutInt; rw [if_pos ⟨h0, h1⟩]; simp
  rw [put_eq 1000 [] m s (by simp) (by omega), Option.bind_some, hput m a0 a1, put_eq 1000 [] n s (by simp) (by omega), Option.bind_some, hput n b0 b1, within_eq, Option.bind_some]
  rw [putInt_eq 1000 [] _ (by simp) (by omega), Option.bind_some, hint _ p0 p1, within_eq, Option.bind_some, putInt_eq 1000 [] _ (by simp) (by omega), Option.bind_some, hint _ q0 q1]
  have hless : Op.bytesLess ((strOfNums (big m s)).toList) ((strOfNums (big n s)).toList) = decide (m < n) := by
    have h := less_val (big m s) (big n s) 0 (by rw [big_length, big_length]) (big_bytes _ _) (big_bytes _ _) (by omega)
    rw [val_big, val_big, Int.emod_eq_of_lt a0 a1, Int.emod_eq_of_lt b0 b1] at h
    rw [bytes_u8, bytes_u8, Bool.eq_iff_iff, h]
    simp
  simp only [hless, if_true]
  rw [if_pos (by simp), same_eq 1000 _ _ (by simp [big_length]; omega) (by simp [big_length]; omega), Option.bind_some, if_pos (by rw [beq_iff_eq, Bool.eq_iff_iff]; simp [big_inj a0 a1 b0 b1])]
  rw [same_eq 1000 _ _ (by simp [intB_length]) (by simp [intB_length]), Option.bind_some, Option.bind_some, Option.bind_some, if_pos (by rw [beq_iff_eq, Bool.eq_iff_iff]; simp [intB_inj p0 p1 q0 q1]), wakes_eq 1000 (by omega), Option.bind_some]
end Go.Proofs.Ytomahagonogapaa.Pure
