/-
  The plain law behind WireEnds: the greatest that may be put is got; one beyond it is refused; cut short nothing is got.
  Conditions: none but those of the given statement.
-/
import Derived.Test.YtomahagonogapaaWireLaws
import Derived.Test.YtomahagonogapaaPAllx10
namespace Go.Proofs.Ytomahagonogapaa.Pure
open Go.RowKit Go.Proofs.Ytomahagonogapaa.PAll Go.Proofs.YtomahagonogapaaW.PrintWords Go.Proofs.YtomahagonogapaaW.PrintLast Go.Proofs.YtomahagonogapaaW.PrintMore Go.Proofs.Ytomahagonogapaa.Plain
set_option linter.unusedVariables false
set_option linter.unusedSimpArgs false

theorem tmod_u (n m : Int) (hm : 0 < m) (hm2 : m ≤ 100) : Int.tmod (IntKind.u64.wrap n) m = n % 18446744073709551616 % m := by
  rw [u64_mod, Int.tmod_eq_emod_of_nonneg (by omega)]
theorem mn_le (a b : Int) : mn a b ≤ a ∧ mn a b ≤ b := by unfold mn; split <;> omega
theorem mn_ge (a b : Int) (ha : 0 ≤ a) (hb : 0 ≤ b) : 0 ≤ mn a b := by unfold mn; split <;> omega
theorem cut_getInt (l : List Int) (h : l.length < 9) : sGetInt l 0 = (0, 0, 3) := by
  unfold sGetInt
  rw [if_pos (by omega), if_pos (Or.inl (by omega))]

theorem WireEnds : raddlelaw01_WireEnds.Pure := by
  intro over what cut wo ww wc
  refine ⟨1000, ?_⟩
  have hw := wakes_eq 1000 (by omega)
  have ho : over % 18446744073709551616 % 2 = 0 ∨ over % 18446744073709551616 % 2 = 1 := by omega
  have hwz : wrap64 (over % 18446744073709551616 % 2) = over % 18446744073709551616 % 2 := w64 (by omega) (by omega)
  obtain ⟨s, hs1, hs7, hs⟩ := size7 cut (wf_i64 wc)
  unfold raddlelaw01_WireEnds.f
  rw [hs]
  simp only [tmod_u _ 2 (by decide) (by decide), tmod_u _ 3 (by decide) (by decide), tmod_u _ 9 (by decide) (by decide), tmod_u _ 24 (by decide) (by decide), hwz]
  generalize over % 18446744073709551616 % 2 = o at *
  generalize what % 18446744073709551616 % 3 = q at *
  have c9 : 0 ≤ cut % 18446744073709551616 % 9 ∧ cut % 18446744073709551616 % 9 ≤ 8 := by omega
  have c24 : 0 ≤ cut % 18446744073709551616 % 24 ∧ cut % 18446744073709551616 % 24 ≤ 23 := by omega
  generalize cut % 18446744073709551616 % 9 = c at *
  generalize cut % 18446744073709551616 % 24 = d at *
  have hwc : wrap64 c = c := w64 (by omega) (by omega)
  have hwd : wrap64 d = d := w64 (by omega) (by omega)
  have hint : ∀ x : Int, -1152921504606846976 ≤ x → x ≤ 1152921504606846976 → sPutInt [] x = (intB x, 0) := fun x h0 h1 => by unfold sPutInt; rw [if_pos ⟨h0, h1⟩]; simp
  by_cases hq : q = 0
  · rw [if_pos hq]
    rcases ho with rfl | rfl
    · rw [w64 (x := 1152921504606846976 + 0) (by decide) (by decide), w64 (x := -(1152921504606846976 + 0)) (by decide) (by decide)]
      have l1 := intB_length (1152921504606846976 + 0)
      have l2 := intB_length (-(1152921504606846976 + 0))
      have b1 := intB_bytes (1152921504606846976 + 0)
      have b2 := intB_bytes (-(1152921504606846976 + 0))
      have g1 := getInt_put [] [] (1152921504606846976 + 0) (by decide) (by decide)
      have g2 := getInt_put [] [] (-(1152921504606846976 + 0)) (by decide) (by decide)
      simp only [List.nil_append, List.append_nil, List.length_nil, Int.natCast_zero] at g1 g2
      have m1 := mn_le (9 : Int) c
      have m2 := mn_ge (9 : Int) c (by decide) (by omega)
      rw [putInt_eq 1000 [] _ (by simp) (by omega), Option.bind_some, putInt_eq 1000 [] _ (by simp) (by omega), Option.bind_some, hint _ (by decide) (by decide), hint _ (by decide) (by decide)]
      simp only
      rw [if_neg (by decide)]
      have l1' : (((intB (1152921504606846976 + 0)).length : Nat) : Int) = 9 := by rw [l1]; rfl
      rw [getInt_eq 1000 _ 0 b1 (by omega) (by decide) (by omega), Option.bind_some, getInt_eq 1000 _ 0 b2 (by omega) (by decide) (by omega), Option.bind_some, hwc, l1', if_pos (by omega), if_pos (by omega)]
      have hc := cut_getInt ((intB (1152921504606846976 + 0)).take (mn 9 c).toNat) (by rw [List.length_take]; omega)
      rw [getInt_eq 1000 _ 0 (b1.take _) (by rw [List.length_take]; omega) (by decide) (by omega), Option.bind_some, hc, g1, g2, hw]
      simp
    · rw [w64 (x := 1152921504606846976 + 1) (by decide) (by decide), w64 (x := -(1152921504606846976 + 1)) (by decide) (by decide)]
      have e1 : sPutInt [] (1152921504606846976 + 1) = ([], 1) := by decide
      have e2 : sPutInt [] (-(1152921504606846976 + 1)) = ([], 1) := by decide
      rw [putInt_eq 1000 [] _ (by simp) (by omega), Option.bind_some, putInt_eq 1000 [] _ (by simp) (by omega), Option.bind_some, e1, e2, hw]
      rw [if_pos (by decide), if_pos (by decide), if_pos (by decide), if_pos (by unfold wrap64; decide)]
      rfl
  · rw [if_neg hq]
    by_cases hq1 : q = 1
    · rw [if_pos hq1]
      rcases ho with rfl | rfl
      · rw [w64 (x := 24 + 0) (by decide) (by decide), if_pos (by decide), if_pos (by decide), Option.bind_some]
        have e : (24 + 0 : Int).toNat = 24 := rfl
        rw [e]
        have hz : Bytes (List.replicate 24 0) := fun b hb => by rw [List.eq_of_mem_replicate hb]; exact ⟨by decide, by decide⟩
        have hsz : (strOfNums (List.replicate 24 0)).size = 24 := by rw [strOfNums_size]; simp
        have hp : sPutText [] (strOfNums (List.replicate 24 0)) = (24 :: List.replicate 24 0, 0) := by
          unfold sPutText
          rw [if_pos (by omega), bytesOf_strOfNums hz, hsz]
          rfl
        have hB : Bytes (24 :: List.replicate 24 0) := Bytes.cons ⟨by decide, by decide⟩ hz
        have hl : (24 :: List.replicate 24 (0 : Int)).length = 25 := by simp
        have g := getText_put [] [] (strOfNums (List.replicate 24 0)) (by omega)
        rw [bytesOf_strOfNums hz, hsz] at g
        have g' : sGetText (24 :: List.replicate 24 0) 0 = (strOfNums (List.replicate 24 0), 0 + 1 + 24, 0) := g
        have m1 := mn_le (25 : Int) d
        have m2 := mn_ge (25 : Int) d (by decide) (by omega)
        have hl' : (((24 :: List.replicate 24 (0 : Int)).length : Nat) : Int) = 25 := by rw [hl]; rfl
        rw [putText_eq [] _ (by simp), Option.bind_some, hp, if_neg (by decide)]
        simp only
        rw [getText_eq 1000 _ 0 hB (by omega) (by decide) (by omega), Option.bind_some, hwd, hl', if_pos (by omega), if_pos (by omega)]
        have hc : (sGetText ((24 :: List.replicate 24 (0 : Int)).take (mn 25 d).toNat) 0) = (⟨#[]⟩, 0, 3) := by
          obtain ⟨i, hi, hi2⟩ : ∃ i : Nat, (mn 25 d).toNat = i ∧ i ≤ 23 := ⟨_, rfl, by omega⟩
          rw [hi]
          have hli : ((24 :: List.replicate 24 (0 : Int)).take i).length = i := by rw [List.length_take]; omega
          unfold sGetText
          rw [if_pos (by omega)]
          cases i with
          | zero => rw [if_pos (by left; rfl)]
          | succ i =>
            have hr : rd ((24 :: List.replicate 24 (0 : Int)).take (i + 1)) 0 = 24 := rfl
            rw [if_pos (by right; right; rw [hr, hli]; omega)]
        rw [getText_eq 1000 _ 0 (hB.take _) (by rw [List.length_take]; omega) (by decide) (by omega), Option.bind_some, hc, g', hw]
        simp
      · rw [w64 (x := 24 + 1) (by decide) (by decide), if_pos (by decide), if_pos (by decide), Option.bind_some]
        have hp : sPutText [] (strOfNums (List.replicate (24 + 1 : Int).toNat 0)) = ([], 2) := by
          unfold sPutText
          rw [if_neg (by rw [strOfNums_size]; simp)]
        rw [putText_eq [] _ (by simp), Option.bind_some, hp, hw]
        rw [if_pos (by decide), if_pos (by decide), if_pos (by decide)]
        rfl
    · have hp := pow_pos s
      have hl := pow256_le hs7
      have g1 : (1 : Int) ≤ 256 ^ s := by omega
      rw [if_neg hq1, w64 (x := 8 * (s : Int)) (by omega) (by omega), wu64 (x := 8 * (s : Int)) (by omega) (by omega), if_pos (by omega), shl_bytes s hs7, w64 (x := (256 : Int) ^ s - 1) (by omega) (by omega)]
      rcases ho with rfl | rfl
      · have e1 : sPut [] (256 ^ s - 1) s = (big (256 ^ s - 1) s, 0) := by unfold sPut; rw [if_pos ⟨by omega, by omega, by omega, by simp; omega⟩]; simp
        have gp := get_put [] [] (256 ^ s - 1) s hs1 hs7 (by omega) (by omega)
        simp only [List.nil_append, List.append_nil, List.length_nil, Int.natCast_zero] at gp
        have hbl := big_length (256 ^ s - 1) s
        have gc : sGet (big (256 ^ s - 1) s) 1 s = (0, 0, 3) := by
          unfold sGet
          rw [if_pos (by rw [hbl]; omega), if_pos (by rw [hbl]; omega)]
        rw [Int.add_zero, w64 (x := (256 : Int) ^ s - 1) (by omega) (by omega), put_eq 1000 [] _ _ (by simp) (by omega), Option.bind_some, e1, if_neg (by decide)]
        simp only
        rw [get_eq 1000 _ 0 _ (big_bytes _ _) (by omega) (by decide) (by omega), Option.bind_some, get_eq 1000 _ 1 _ (big_bytes _ _) (by omega) (by decide) (by omega), Option.bind_some, gp, gc, hw]
        simp
      · have e1 : sPut [] (256 ^ s - 1 + 1) s = ([], 1) := by unfold sPut; rw [if_neg (by simp)]
        rw [w64 (x := (256 : Int) ^ s - 1 + 1) (by omega) (by omega), put_eq 1000 [] _ _ (by simp) (by omega), Option.bind_some, e1, hw]
        rw [if_pos (by decide), if_pos (by decide), if_pos (by decide)]
        rfl
end Go.Proofs.Ytomahagonogapaa.Pure
