/-
  PadEnds, as the machine walks it.
  Conditions: none.
-/
import Derived.Test.YtjpaaicgkdnalaaPadPlain
namespace Go.Proofs.Ytjpaaicgkdnalaa.Pads
open Go.RowKit Go.Proofs.YtjpaaicgkdnalaaW.PrintWords Go.Proofs.YtjpaaicgkdnalaaW.PrintLast Go.Proofs.YtjpaaicgkdnalaaW.PrintMore Go.Proofs.Ytjpaaicgkdnalaa.Sep
set_option linter.unusedVariables false
set_option linter.unusedSimpArgs false
def en (i sf : Nat) : Pd := ⟨nums i, sf, false, 0, none⟩
theorem en_ok (i sf : Nat) (hs : sf ≤ i) (hi : i ≤ 4000) : (en i sf).Ok := nums_ok i sf hs hi _ _
theorem en_step (i : Nat) (hi : i < 4000) : (en i 0).append [(i : Int)] = (en (i + 1) 0, 0) := by
  unfold en
  rw [append_plain _ _ _ _ (by simp) (by rw [nums_length]; exact hi), nums_succ]
theorem en_sync (i : Nat) : (en i 0).sync = (en i i, 0) := by unfold en; rw [sync_plain, nums_length]
theorem en_trim_bad (i sf : Nat) (n : Int) (hn : n < 0 ∨ n > sf) : (en i sf).trim n = (en i sf, 1) := trim_bad _ _ _ _ hn
theorem en_cut_bad (i sf : Nat) (n : Int) (hn : n < 0 ∨ n > i) : (en i sf).cut n = (en i sf, 1) := cut_bad _ _ _ _ (by rw [nums_length]; exact hn)
theorem nums_take (n c : Nat) (h : c ≤ n) : (nums n).take c = nums c := by
  apply List.ext_getElem?
  intro j
  rw [List.getElem?_take]
  split
  · rename_i hj
    rw [nums_get _ _ (by omega), nums_get _ _ hj]
  · rw [List.getElem?_eq_none (by rw [nums_length]; omega)]
theorem en_cut (i c : Nat) (h : c ≤ i) : (en i i).cut (c : Int) = (en c c, 0) := by
  unfold en
  rw [cut_plain _ _ _ _ (by rw [nums_length]; exact h), nums_take _ _ h, Nat.min_eq_right h]
def enT (c t : Nat) : Pd := ⟨(nums c).drop t, c - t, false, 0, none⟩
theorem en_trim (c t : Nat) (h : t ≤ c) : (en c c).trim (t : Int) = (enT c t, 0) := trim_plain _ _ _ _ h
theorem enT_len (c t : Nat) : (enT c t).slots.length = c - t := by simp [enT, nums_length]
theorem enT_ok (c t : Nat) (hc : c ≤ 4000) : (enT c t).Ok := by
  refine plain_ok _ _ _ _ (by simp [nums_length]) (by simp [nums_length]; omega) (fun s hs => ?_)
  obtain ⟨j, _, rfl⟩ := List.mem_map.1 (List.mem_of_mem_drop hs)
  simp
theorem enT_read (c t i : Nat) (h : i < c - t) : (enT c t).read (i : Int) = ([((t + i : Nat) : Int)], 0) := by
  unfold Pd.read
  rw [if_neg (by simp [enT]), if_neg (by rw [enT_len]; omega), Int.toNat_natCast]
  have : (enT c t).slots.getD i ([], false) = ([((t + i : Nat) : Int)], false) := by
    rw [List.getD_eq_getElem?_getD]
    show (((nums c).drop t)[i]?).getD _ = _
    rw [List.getElem?_drop, nums_get _ _ (by omega)]
    rfl
  rw [this]
  simp
theorem enT_none (c t : Nat) (h : t ≤ c) : (enT c t).read ((c : Int) - (t : Int)) = ([], 7) := by
  unfold Pd.read
  rw [if_neg (by simp [enT]), if_pos (by rw [enT_len]; omega)]
set_option maxHeartbeats 8000000 in
set_option maxRecDepth 100000 in
theorem ends_law (x y z : Int) (w : World) (_ : (Lit.int .i64 x).wf = true) (_ : (Lit.int .i64 y).wf = true) (_ : (Lit.int .i64 z).wf = true) :
    Calls Try.prog 7 #[.int .i64 x, .int .i64 y, .int .i64 z] w fun e w' => e = .returned (.bool true) ∧ Below w.heap.size w w' := by
  obtain ⟨s, hs, es, es2⟩ := Keep.umod x 40 (by decide) (by decide)
  replace es : wrap64 ((IntKind.u64.wrap x).tmod 40) = (s : Int) := es
  obtain ⟨c, hc, ec, ec2⟩ := Keep.umod z (s + 1) (by omega) (by omega)
  replace ec : wrap64 ((IntKind.u64.wrap z).tmod ((s : Int) + 1)) = (c : Int) := ec
  obtain ⟨t, ht, et, et2⟩ := Keep.umod y (c + 1) (by omega) (by omega)
  replace et : wrap64 ((IntKind.u64.wrap y).tmod ((c : Int) + 1)) = (t : Int) := et
  have HEC := Aside0.mk ec
  have HET := Aside0.mk et
  have HS := Aside0.mk (Sp.start w)
  have hs1 : (s : Int) ≤ 39 := by omega
  have hc1 : (c : Int) ≤ 39 := by omega
  have ht1 : (t : Int) ≤ 39 := by omega
  clear es2 ec2 et2 ec et
  go_enter Try.func7, Try.ntmps7
  go_wp2_with (first
    | (go_at_call 11; refine (new_calls HS.out).mono ?_; rintro e w1 ⟨g, rfl, h1⟩; have H1 := Aside0.mk (show Sp w1 [PadP g (en 0 0), Old w] from h1); clear h1))
  clear es
  go_loopg [8] s (fun kq v8 w' => ∃ i : Nat, v8 = .int .i64 (i : Int) ∧ Aside0 (i + kq = s) ∧ Aside0 (Sp w' [PadP g (en i 0), Old w]))
  case atStart => exact ⟨0, rfl, ⟨by omega⟩, H1⟩
  case round =>
    obtain ⟨i, rfl, HK, HP⟩ := hrel
    clear H1
    have hi1 : (i : Int) ≤ 39 := by have := HK.out; omega
    by_cases hlt : i < s
    · have hb1 : decide (i < s) = true := decide_eq_true hlt
      have hu : IntKind.u8.wrap (i : Int) = (i : Int) := IntWalk.u8_in _ (by omega)
      have hm8 : (i : Int) % 256 = (i : Int) := by omega
      cases gk with
      | zero => exact absurd HK.out (by omega)
      | succ k1 =>
      have HLT := Aside0.mk (show i < 4000 by omega)
      have HL := Aside0.mk (lit_u8 (i : Int) HP.out)
      clear hlt
      go_wp2_with (go_at_call 13; refine (append_to HL.out.s1 (en_ok i 0 (by omega) (by have := HLT.out; omega)) (some ⟨wr.heap.size, 0, none⟩) 1 [(i : Int)] (by simp) (by simp) (row_C HL.out).2.2 (en_step i HLT.out)).mono ?_; rintro e w3 ⟨rfl, h3⟩; have H3 := Aside0.mk (Sp.tail h3.s1); clear h3)
      go_roundg k1
      case measure => exact Nat.lt_succ_self _
      case rel => exact ⟨i + 1, by first | rfl | simp, ⟨by have := HK.out; omega⟩, H3⟩
    · have hb1 : decide (i < s) = false := decide_eq_false hlt
      obtain rfl : i = s := by have := HK.out; omega
      clear hlt hi1 HK
      have HCI := Aside0.mk (show c ≤ i by omega)
      have HTC := Aside0.mk (show t ≤ c by omega)
      have hx1 : ((i : Int) + 1 == 0) = false := beq_eq_false_iff_ne.mpr (by omega)
      have hx2 : ((c : Int) + 1 == 0) = false := beq_eq_false_iff_ne.mpr (by omega)
      have hu1 : IntKind.u64.wrap ((i : Int) + 1) = (i : Int) + 1 := IntWalk.u64_in _ (by omega)
      have hu2 : IntKind.u64.wrap ((c : Int) + 1) = (c : Int) + 1 := IntWalk.u64_in _ (by omega)
      have ec := HEC.out
      have et := HET.out
      by_cases hi0 : i = 0
      case' pos =>
        have hb3 : decide (0 < i) = false := decide_eq_false (by omega)
        have hb4 : decide ((0 : Int) < (i : Int)) = false := decide_eq_false (by omega)
        clear hi0
      case' neg =>
        have hb3 : decide (0 < i) = true := decide_eq_true (by omega)
        have hb4 : decide ((0 : Int) < (i : Int)) = true := decide_eq_true (by omega)
        clear hi0
      all_goals
        go_wp2_with (first
          | (go_at_call 25; (with_reducible show Calls _ _ #[_, .int .i64 1] _ _); refine (trim_to HP.out (en_ok i 0 (by omega) (by omega)) 1 (en_trim_bad i 0 1 (by omega))).mono ?_; rintro e w2 ⟨rfl, h2⟩; clear HP; have HP := Aside0.mk h2; clear h2)
          | (go_at_call 25; (with_reducible show Calls _ _ #[_, .int .i64 (-1)] _ _); refine (trim_to HP.out (en_ok i 0 (by omega) (by omega)) (-1) (en_trim_bad i 0 (-1) (by omega))).mono ?_; rintro e w3 ⟨rfl, h3⟩; have H3 := Aside0.mk h3; clear h3 HP)
          | (go_at_call 26; (with_reducible show Calls _ _ #[_, .int .i64 ((i : Int) + 1)] _ _); refine (cut_to H3.out (en_ok i 0 (by omega) (by omega)) ((i : Int) + 1) (en_cut_bad i 0 ((i : Int) + 1) (by omega))).mono ?_; rintro e w4 ⟨rfl, h4⟩; have H4 := Aside0.mk h4; clear h4 H3)
          | (go_at_call 12; refine (sync_to H4.out (en_ok i 0 (by omega) (by omega)) (en_sync i)).mono ?_; rintro e w5 ⟨rfl, h5⟩; have H5 := Aside0.mk h5; clear h5 H4)
          | (go_at_call 25; (with_reducible show Calls _ _ #[_, .int .i64 ((i : Int) + 1)] _ _); refine (trim_to H5.out (en_ok i i (by omega) (by omega)) ((i : Int) + 1) (en_trim_bad i i ((i : Int) + 1) (by omega))).mono ?_; rintro e w6 ⟨rfl, h6⟩; have H6 := Aside0.mk h6; clear h6 H5)
          | (go_at_call 26; (with_reducible show Calls _ _ #[_, .int .i64 (c : Int)] _ _); refine (cut_to H6.out (en_ok i i (by omega) (by omega)) (c : Int) (en_cut i c HCI.out)).mono ?_; rintro e w7 ⟨rfl, h7⟩; have H7 := Aside0.mk h7; clear h7 H6)
          | (go_at_call 17; refine (len_calls H7.out).mono ?_; rw [show (en c c).slots.length = c from nums_length c]; rintro e w8 ⟨rfl, rfl⟩)
          | (go_at_call 18; refine (safe_calls H7.out).mono ?_; rw [show (en c c).safe = c from rfl]; rintro e w8 ⟨rfl, rfl⟩)
          | (go_at_call 25; (with_reducible show Calls _ _ #[_, .int .i64 (t : Int)] _ _); refine (trim_to H7.out (en_ok c c (by omega) (by omega)) (t : Int) (en_trim c t HTC.out)).mono ?_; rintro e w9 ⟨rfl, h9⟩; have H9 := Aside0.mk h9; clear h9 H7)
          | (go_at_call 17; refine (len_calls H9.out).mono ?_; rw [enT_len, show ((c - t : Nat) : Int) = (c : Int) - (t : Int) from by have := HTC.out; omega]; rintro e w8 ⟨rfl, rfl⟩)
          | (go_at_call 18; refine (safe_calls H9.out).mono ?_; rw [show ((enT c t).safe : Int) = (c : Int) - (t : Int) from by show ((c - t : Nat) : Int) = _; have := HTC.out; omega]; rintro e w8 ⟨rfl, rfl⟩)
          | (go_at_call 26; refine Stop.go ?_) | (go_at_call 25; refine Stop.go ?_) | (go_at_call 17; refine Stop.go ?_))
        go_loopg [9] (c - t) (fun kq v9 w' => ∃ j : Nat, v9 = .int .i64 (j : Int) ∧ Aside0 (j + kq = c - t) ∧ Aside0 (Sp w' [PadP g (enT c t), Old w]))
        case atStart => exact ⟨0, rfl, ⟨by omega⟩, H9⟩
        case round =>
          obtain ⟨j, rfl, HK, HP2⟩ := hrel
          clear H9 ec et
          have hj1 : (j : Int) ≤ 39 := by have := HK.out; omega
          by_cases hlt : j < c - t
          · have hb6 : decide ((j : Int) < (c : Int) - (t : Int)) = true := decide_eq_true (by omega)
            have hu : IntKind.u8.wrap ((t : Int) + (j : Int)) = (t : Int) + (j : Int) := IntWalk.u8_in _ (by omega)
            have hm8 : ((t : Int) + (j : Int)) % 256 = (t : Int) + (j : Int) := by omega
            cases gk with
            | zero => exact absurd HK.out (by omega)
            | succ k1 =>
            have hread := enT_read c t j hlt
            rw [show ((t + j : Nat) : Int) = (t : Int) + (j : Int) from by omega] at hread
            have HREAD := Aside0.mk hread
            clear hlt hread
            go_wp2_with (first
              | (go_at_call 15; refine (read_to HP2.out (enT_ok c t (by omega)) j HREAD.out).mono ?_; rintro e w2 ⟨v, rfl, h2⟩; obtain ⟨va, vc, rfl⟩ : ∃ A c, v = .slice A 1 c := (h2.row).elim fun A h => h.elim fun c h => ⟨A, c, h.1⟩; have H2 := Aside0.mk (lit_u8 ((t : Int) + (j : Int)) h2); clear h2)
              | (go_at_call 19; refine (PAll.raddlekeep_Bytes.calls 10 _ _ [(t : Int) + (j : Int)] _ _ [(t : Int) + (j : Int)] true _ (row_C H2.out.s1).2.2 (row_C H2.out.s1).2.1 (row_C H2.out).2.2 (row_C H2.out).2.1 (by rw [Keep.same_eq 10 _ _ (by simp) (by simp)]; simp)).mono ?_; rintro e w3 ⟨rfl, ⟨nd, rfl⟩⟩; have H3 := Aside0.mk ((Sp.tail (Sp.tail H2.out)).drewN nd); clear H2))
            go_roundg k1
            case measure => exact Nat.lt_succ_self _
            case rel => exact ⟨j + 1, by first | rfl | simp, ⟨by have := HK.out; omega⟩, H3⟩
          · have hb6 : decide ((j : Int) < (c : Int) - (t : Int)) = false := decide_eq_false (by omega)
            clear hlt
            go_wp2_with (first
              | (go_at_call 15; refine (read_to HP2.out (enT_ok c t (by omega)) ((c : Int) - (t : Int)) (enT_none c t HTC.out)).mono ?_; rintro e w2 ⟨v, rfl, h2⟩; have H2 := Aside0.mk (Sp.tail h2); clear h2)
              | (go_at_call 20; refine (wakes_calls H2.out).mono ?_; rintro e w4 ⟨rfl, h4⟩; have H4 := Aside0.mk h4; clear h4))
            go_ret
            exact ⟨rfl, H4.out.s1.old⟩
end Go.Proofs.Ytjpaaicgkdnalaa.Pads
