/-
  The plain law behind WireNought: nought with the sign of a number below it is no number, nor is one beyond what may be, nor another byte for a sign.
  Conditions: none but those of the given statement.
-/
import Derived.Test.YtomahagonogapaaWireMore
import Derived.Test.YtomahagonogapaaPAllx3
namespace Go.Proofs.Ytomahagonogapaa.Pure
open Go.RowKit Go.Proofs.Ytomahagonogapaa.PAll Go.Proofs.YtomahagonogapaaW.PrintWords Go.Proofs.YtomahagonogapaaW.PrintLast Go.Proofs.Ytomahagonogapaa.Plain
set_option linter.unusedVariables false
set_option linter.unusedSimpArgs false

/-- The plain law: nought with the sign of a number below it is no number, nor is one beyond what may be, nor another byte for a sign. -/
theorem WireNought : raddlelaw01_WireNought.Pure := by
  intro sign n hs hn
  have hsb := wf_u8 hs
  refine ⟨100, ?_⟩
  obtain ⟨h0, h1⟩ := within_bd n
  unfold raddlelaw01_WireNought.f
  rw [within_eq, Option.bind_some]
  generalize hm : Int.tmod n 1152921504606846977 = m at *
  have hp : sPutInt [] m = (intB m, 0) := by unfold sPutInt; rw [if_pos ⟨h0, h1⟩]; simp
  have hl := intB_length m
  rw [putInt_eq 100 [] m (by simp) (by omega), Option.bind_some, hp]
  simp only
  rw [if_pos trivial]
  obtain ⟨v, b, hv, e, hv0, hv1⟩ : ∃ v b, intB m = b :: big v 8 ∧ v = (if m < 0 then -m else m) ∧ 0 ≤ v ∧ v ≤ 1152921504606846976 := by
    unfold intB
    by_cases h : m < 0
    · rw [if_pos h, if_pos h]; exact ⟨_, _, rfl, rfl, by omega, by omega⟩
    · rw [if_neg h, if_neg h]; exact ⟨_, _, rfl, rfl, by omega, by omega⟩
  have hb : Bytes (big v 8) := big_bytes _ _
  have hB : Bytes (sign :: big v 8) := Bytes.cons hsb hb
  have hne : ((((b :: big v 8).length : Nat) : Int) != 9) = false := by simp [big_length]
  rw [hv, hne]
  simp only [raddlelaw01_WireNought.j0]
  rw [if_neg (by simp), if_pos (by simp)]
  simp only [Int.toNat_zero, List.set_cons_zero, Option.bind_some]
  rw [getInt_eq 99 _ 0 hB (by simp [big_length]) (by decide) (by omega), Option.bind_some, within_eq, Option.bind_some, hm, getInt_sign sign v hv0 (by omega)]
  have hj : ∀ r : Int × Int × Int, (if m < 0 then raddlelaw01_WireNought.j1 99 sign (sign :: big v 8) r.1 r.2.1 r.2.2 (wrap64 (-m)) else raddlelaw01_WireNought.j1 99 sign (sign :: big v 8) r.1 r.2.1 r.2.2 m) = raddlelaw01_WireNought.j1 99 sign (sign :: big v 8) r.1 r.2.1 r.2.2 v := by
    intro r
    by_cases h : m < 0
    · rw [if_pos h, w64 (by omega) (by omega), e, if_pos h]
    · rw [if_neg h, e, if_neg h]
  rw [hj]
  have h255 : ∃ u, big v 8 = u ∧ u.set 0 255 = 255 :: big v 7 := ⟨_, rfl, rfl⟩
  have hb2 : Bytes (sign :: 255 :: big v 7) := Bytes.cons hsb (Bytes.cons ⟨by decide, by decide⟩ (big_bytes _ _))
  have hset : (sign :: big v 8).set (1 : Int).toNat 255 = sign :: 255 :: big v 7 := rfl
  have hv7 : val 0 (255 :: big v 7) = 255 * 256 ^ 7 + v % 256 ^ 7 := by rw [val, val_big]; simp
  have hp7 : (256 : Int) ^ 7 = 72057594037927936 := by decide
  have hbig : sGetInt (sign :: 255 :: big v 7) 0 = (0, 0, 3) := by
    unfold sGetInt
    have hl : (sign :: 255 :: big v 7).length = 9 := by simp [big_length]
    have hs : sub (sign :: 255 :: big v 7) ((0 : Int) + 1).toNat ((0 : Int) + 9).toNat = 255 :: big v 7 := by
      have := sub_mid [sign] (255 :: big v 7) [] (i := 1) (j := 9) rfl (by simp [big_length])
      simpa using this
    rw [if_pos ⟨by omega, by rw [hl]; omega⟩, hs, hv7, hp7, if_pos (by right; right; left; omega)]
  have hlen : 1 < (((sign :: big v 8).length : Nat) : Int) := by simp [big_length]
  simp only [raddlelaw01_WireNought.j1]
  by_cases c1 : sign > 1
  · rw [if_pos c1, if_pos (Or.inl c1)]
    simp [raddlelaw01_WireNought.j2, wakes_eq]
  · rw [if_neg c1]
    by_cases c2 : sign = 1
    · rw [if_pos c2]
      by_cases c3 : v = 0
      · rw [if_pos (by right; right; exact ⟨c2, c3⟩)]
        simp [raddlelaw01_WireNought.j2, wakes_eq, c3]
      · have c3' : (v == 0) = false := by simpa using c3
        rw [if_neg (by omega), if_pos c2, c3']
        simp only [raddlelaw01_WireNought.j2]
        rw [if_neg (by simp), if_pos c2, if_pos hlen, hset, getInt_eq 97 _ 0 hb2 (by simp [big_length]) (by decide) (by omega), Option.bind_some, hbig, w64 (by omega) (by omega)]
        simp [wakes_eq]
    · rw [if_neg c2, if_neg (by omega), if_neg c2]
      simp only [raddlelaw01_WireNought.j2]
      rw [if_neg (by simp), if_neg c2, if_pos hlen, hset, getInt_eq 97 _ 0 hb2 (by simp [big_length]) (by decide) (by omega), Option.bind_some, hbig]
      simp [wakes_eq]
end Go.Proofs.Ytomahagonogapaa.Pure
