/-
  PadRoom, as the machine walks it.
  Conditions: none.
-/
import Derived.Test.YtjpaaicgkdnalaaPadPlain
namespace Go.Proofs.Ytjpaaicgkdnalaa.Pads
open Go.RowKit Go.Proofs.YtjpaaicgkdnalaaW.PrintWords Go.Proofs.YtjpaaicgkdnalaaW.PrintLast Go.Proofs.YtjpaaicgkdnalaaW.PrintMore Go.Proofs.Ytjpaaicgkdnalaa.Sep
set_option linter.unusedVariables false
set_option linter.unusedSimpArgs false
def roA (i f : Nat) : Pd := ⟨List.replicate i ([], false), f, false, 0, none⟩
theorem roA_ok (i f : Nat) (hf : f ≤ i) (hi : i ≤ 4000) : (roA i f).Ok := plain_ok _ _ _ _ (by simpa using hf) (by simpa using hi) (fun s hs => by rw [(List.mem_replicate.1 hs).2]; simp)
theorem roA_step (i : Nat) (hi : i < 4000) : (roA i 0).append [] = (roA (i + 1) 0, 0) := by
  unfold roA
  rw [append_plain _ _ _ _ (by simp) (by simpa using hi), List.replicate_succ']
theorem roA_full : (roA 4000 0).append [] = (roA 4000 0, 6) := append_full _ _ _ (by rw [List.length_replicate]; exact Nat.le_refl _)
theorem roA_sync : (roA 4000 0).sync = (roA 4000 4000, 0) := by unfold roA; rw [sync_plain, List.length_replicate]
def roB (t i : Nat) : Pd := ⟨List.replicate (4000 - t) ([], false) ++ List.replicate i ([1], false), 4000 - t, false, 0, none⟩
theorem roA_trim (t : Nat) (ht : t ≤ 4000) : (roA 4000 4000).trim (t : Int) = (roB t 0, 0) := by
  unfold roA roB
  rw [trim_plain _ _ _ _ ht, List.drop_replicate, List.replicate_zero, List.append_nil]
theorem roB_ok (t i : Nat) (hi : i ≤ t) (ht : t ≤ 4000) : (roB t i).Ok := plain_ok _ _ _ _ (by simp) (by simp; omega) (fun s hs => by
  rcases List.mem_append.1 hs with hs | hs
  · rw [(List.mem_replicate.1 hs).2]; simp
  · rw [(List.mem_replicate.1 hs).2]; simp)
theorem roB_step (t i : Nat) (hi : i < t) (ht : t ≤ 4000) : (roB t i).append [1] = (roB t (i + 1), 0) := by
  unfold roB
  rw [append_plain _ _ _ _ (by simp) (by simp; omega), List.replicate_succ', List.append_assoc]
theorem roB_full (t : Nat) (ht : t ≤ 4000) : (roB t t).append [] = (roB t t, 6) := append_full _ _ _ (by simp; omega)
theorem roB_len (t : Nat) (ht : t ≤ 4000) : (roB t t).slots.length = 4000 := by simp [roB]; omega
set_option maxHeartbeats 8000000 in
set_option maxRecDepth 100000 in
theorem room_law (x : Int) (w : World) (_ : (Lit.int .i64 x).wf = true) :
    Calls Try.prog 6 #[.int .i64 x] w fun e w' => e = .returned (.bool true) ∧ Below w.heap.size w w' := by
  obtain ⟨s, hs, es, es2⟩ := Keep.umod x 50 (by decide) (by decide)
  replace es : wrap64 ((IntKind.u64.wrap x).tmod 50) = (s : Int) := es
  have HS := Aside0.mk (Sp.start w)
  have hs1 : (s : Int) ≤ 49 := by omega
  clear es2
  go_enter Try.func6, Try.ntmps6
  go_wp2_with (first
    | (go_at_call 11; refine (new_calls HS.out).mono ?_; rintro e w1 ⟨g, rfl, h1⟩; have H1 := Aside0.mk (show Sp w1 [PadP g (roA 0 0), Old w] from h1); clear h1))
  go_loopg [4] 4000 (fun kq v4 w' => ∃ i : Nat, v4 = .int .i64 (i : Int) ∧ Aside0 (i + kq = 4000) ∧ Aside0 (Sp w' [PadP g (roA i 0), Old w]))
  case atStart => exact ⟨0, rfl, ⟨by omega⟩, H1⟩
  case round =>
    obtain ⟨i, rfl, HK, HP⟩ := hrel
    clear H1
    have hi1 : (i : Int) ≤ 4000 := by have := HK.out; omega
    by_cases hlt : i < 4000
    · have hb1 : decide ((i : Int) < 4000) = true := decide_eq_true (by omega)
      cases gk with
      | zero => exact absurd HK.out (by omega)
      | succ k1 =>
      have HLT := Aside0.mk hlt
      clear hlt
      go_wp2_with (go_at_call 13; refine (append_to HP.out (roA_ok i 0 (by omega) (by omega)) none 0 [] (by simp) (by simp) (C_nil _ _) (roA_step i HLT.out)).mono ?_; rintro e w3 ⟨rfl, h3⟩; have H3 := Aside0.mk h3; clear h3)
      go_roundg k1
      case measure => exact Nat.lt_succ_self _
      case rel => exact ⟨i + 1, by first | rfl | simp, ⟨by have := HK.out; omega⟩, H3⟩
    · have hb1 : decide ((i : Int) < 4000) = false := decide_eq_false (by omega)
      obtain rfl : i = 4000 := by omega
      clear hlt hi1 HK
      have hsv : ((4000 - (1 + s) : Nat) : Int) = 4000 - (1 + (s : Int)) := by omega
      have HSV := Aside0.mk hsv
      have htr := roA_trim (1 + s) (by omega)
      rw [show ((1 + s : Nat) : Int) = 1 + (s : Int) from by omega] at htr
      have HTR := Aside0.mk htr
      clear hsv htr
      go_wp2_with (first
        | (go_at_call 13; refine (append_to HP.out (roA_ok 4000 0 (by omega) (by omega)) none 0 [] (by simp) (by simp) (C_nil _ _) roA_full).mono ?_; rintro e w3 ⟨rfl, h3⟩; have H3 := Aside0.mk h3; clear h3 HP)
        | (go_at_call 17; refine (len_calls H3.out).mono ?_; rw [show (roA 4000 0).slots.length = 4000 from List.length_replicate]; rintro e w7 ⟨rfl, rfl⟩)
        | (go_at_call 12; refine (sync_to H3.out (roA_ok 4000 0 (by omega) (by omega)) roA_sync).mono ?_; rintro e w4 ⟨rfl, h4⟩; have H4 := Aside0.mk h4; clear h4)
        | (go_at_call 25; refine (trim_to H4.out (roA_ok 4000 4000 (by omega) (by omega)) (1 + (s : Int)) HTR.out).mono ?_; rintro e w5 ⟨rfl, h5⟩; have H5 := Aside0.mk h5; clear h5 H4))
      go_loopg [5] (1 + s) (fun kq v5 w' => ∃ i : Nat, v5 = .int .i64 (i : Int) ∧ Aside0 (i + kq = 1 + s) ∧ Aside0 (Sp w' [PadP g (roB (1 + s) i), Old w]))
      case atStart => exact ⟨0, rfl, ⟨by omega⟩, H5⟩
      case round =>
        obtain ⟨i, rfl, HK, HP⟩ := hrel
        clear H5
        have hi1 : (i : Int) ≤ 4000 := by have := HK.out; omega
        by_cases hlt : i < 1 + s
        · have hb1 : decide ((i : Int) < 1 + (s : Int)) = true := decide_eq_true (by omega)
          cases gk with
          | zero => exact absurd HK.out (by omega)
          | succ k1 =>
          have HLT := Aside0.mk hlt
          have HL := Aside0.mk (lit_u8 1 HP.out)
          clear hlt
          go_wp2_with (go_at_call 13; refine (append_to HL.out.s1 (roB_ok _ i (by have := HLT.out; omega) (by omega)) (some ⟨wr.heap.size, 0, none⟩) 1 [1] (by simp) (by simp) (row_C HL.out).2.2 (roB_step _ i HLT.out (by omega))).mono ?_; rintro e w3 ⟨rfl, h3⟩; have H3 := Aside0.mk (Sp.tail h3.s1); clear h3)
          go_roundg k1
          case measure => exact Nat.lt_succ_self _
          case rel => exact ⟨i + 1, by first | rfl | simp, ⟨by have := HK.out; omega⟩, H3⟩
        · have hb1 : decide ((i : Int) < 1 + (s : Int)) = false := decide_eq_false (by omega)
          obtain rfl : i = 1 + s := by have := HK.out; omega
          clear hlt hi1 HK
          go_wp2_with (first
            | (go_at_call 13; refine (append_to HP.out (roB_ok _ _ (Nat.le_refl _) (by omega)) none 0 [] (by simp) (by simp) (C_nil _ _) (roB_full (1 + s) (by omega))).mono ?_; rintro e w3 ⟨rfl, h3⟩; have H3 := Aside0.mk h3; clear h3 HP)
            | (go_at_call 17; refine (len_calls H3.out).mono ?_; rw [roB_len _ (by omega)]; rintro e w7 ⟨rfl, rfl⟩)
            | (go_at_call 18; refine (safe_calls H3.out).mono ?_; rw [show ((roB (1 + s) (1 + s)).safe : Int) = 4000 - (1 + (s : Int)) from HSV.out]; rintro e w7 ⟨rfl, rfl⟩)
            | (go_at_call 20; refine (wakes_calls H3.out).mono ?_; rintro e w4 ⟨rfl, h4⟩; have H4 := Aside0.mk h4; clear h4))
          go_ret
          exact ⟨rfl, H4.out.s1.old⟩
end Go.Proofs.Ytjpaaicgkdnalaa.Pads
