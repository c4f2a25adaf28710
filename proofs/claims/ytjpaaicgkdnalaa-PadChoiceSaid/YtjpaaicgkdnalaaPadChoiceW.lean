/-
  PadChoice, as the machine walks it.
  Conditions: none.
-/
import Derived.Test.YtjpaaicgkdnalaaPadG
import Derived.Test.YtjpaaicgkdnalaaKeepBytes
namespace Go.Proofs.Ytjpaaicgkdnalaa.Pads
open Go.RowKit Go.Proofs.YtjpaaicgkdnalaaW.PrintWords Go.Proofs.YtjpaaicgkdnalaaW.PrintLast Go.Proofs.YtjpaaicgkdnalaaW.PrintMore Go.Proofs.Ytjpaaicgkdnalaa.Sep
set_option linter.unusedVariables false
set_option linter.unusedSimpArgs false
/-- i bytes, one a slot. -/
def nums (i : Nat) : List Sl := (List.range i).map (fun j : Nat => ([(j : Int)], false))
theorem nums_succ (i : Nat) : nums (i + 1) = nums i ++ [([(i : Int)], false)] := by simp [nums, List.range_succ]
theorem nums_length (i : Nat) : (nums i).length = i := by simp [nums]
theorem nums_get (n i : Nat) (h : i < n) : (nums n)[i]? = some ([(i : Int)], false) := by simp [nums, h]
theorem nums_ok (i s : Nat) (hs : s ≤ i) (hi : i ≤ 4000) (o : Bool) (l : Int) : Pd.Ok ⟨nums i, s, o, l, none⟩ :=
  ⟨by simp only [nums_length]; exact hs, by simp only [nums_length]; exact hi, (fun _ _ _ h => by cases h), (fun x hx => by
    obtain ⟨j, _, rfl⟩ := List.mem_map.1 hx
    simp)⟩
/-- The pad behind i rounds. -/
def chSt (s i : Nat) : Pd := ⟨nums i, if s < i then s else 0, false, 0, none⟩
theorem chSt_ok (s i : Nat) (hi : i ≤ 40) : (chSt s i).Ok := nums_ok i _ (by split <;> omega) (by omega) _ _
theorem append_plain (sl : List Sl) (sf : Nat) (li : Int) (b : List Int) (hb : b.length ≤ 65536) (hl : sl.length < 4000) : (⟨sl, sf, false, li, none⟩ : Pd).append b = (⟨sl ++ [(b, false)], sf, false, li, none⟩, 0) := by
  unfold Pd.append
  rw [if_neg (by simp), if_neg (by omega), if_neg (by dsimp only; omega), Pd.spend_none rfl]
  rfl
theorem sync_plain (sl : List Sl) (sf : Nat) (li : Int) : (⟨sl, sf, false, li, none⟩ : Pd).sync = (⟨sl, sl.length, false, li, none⟩, 0) := by
  unfold Pd.sync
  rw [if_neg (by simp), Pd.spend_none rfl]
  rfl
theorem chSt_step (s i : Nat) (hi : i ≤ 40) (h : i ≠ s) : (chSt s i).append [(i : Int)] = (chSt s (i + 1), 0) := by
  unfold chSt
  rw [append_plain _ _ _ _ (by simp) (by rw [nums_length]; omega), nums_succ]
  have : (if s < i then s else 0) = if s < i + 1 then s else 0 := by split <;> split <;> omega
  rw [this]
theorem chSt_sync (s : Nat) : (chSt s s).sync = (⟨nums s, s, false, 0, none⟩, 0) := by
  unfold chSt
  rw [sync_plain, nums_length]
theorem chSt_append (s : Nat) (hs : s ≤ 40) : (⟨nums s, s, false, 0, none⟩ : Pd).append [(s : Int)] = (chSt s (s + 1), 0) := by
  rw [append_plain _ _ _ _ (by simp) (by rw [nums_length]; omega), ← nums_succ]
  unfold chSt
  rw [if_pos (by omega)]
/-- Behind the loop, and the last Sync. -/
def chEnd (s l : Nat) : Pd := ⟨nums (s + l), s, false, 0, none⟩
theorem chEnd_ok (s l : Nat) (h : s + l ≤ 40) : (chEnd s l).Ok := nums_ok _ _ (by omega) (by omega) _ _
theorem chSt_end (s l : Nat) (hl : l ≠ 0) : chSt s (s + l) = chEnd s l := by unfold chSt chEnd; rw [if_pos (by omega)]
theorem chSt_end0 (s l : Nat) (hl : l = 0) : (chSt s (s + l)).sync = (chEnd s l, 0) := by subst hl; exact chSt_sync s
theorem chCrash (s l : Nat) (keep : List Bool) (torn : Int) : (chEnd s l).crash keep torn = ⟨nums s ++ spoil keep torn 0 ((nums (s + l)).drop s), s + l, true, 1, none⟩ := by
  rw [Pd.crash_on _ rfl]
  unfold chEnd
  dsimp only
  rw [nums_length]
  have h1 : (nums (s + l)).take s = nums s := by
    apply List.ext_getElem?
    intro j
    rw [List.getElem?_take]
    split
    · rename_i hj
      rw [nums_get _ _ (by omega), nums_get _ _ hj]
    · rw [List.getElem?_eq_none (by rw [nums_length]; omega)]
  rw [h1, show wrap64 (0 + 1) = 1 from by unfold wrap64; omega]
def chBack (s l : Nat) (keep : List Bool) (torn : Int) : Pd := ((chEnd s l).crash keep torn).start
theorem chBack_eq (s l : Nat) (keep : List Bool) (torn : Int) : chBack s l keep torn = ⟨nums s ++ spoil keep torn 0 ((nums (s + l)).drop s), s + l, false, 1, none⟩ := by
  unfold chBack; rw [chCrash]; rfl
theorem chBack_ok (s l : Nat) (h : s + l ≤ 40) (keep : List Bool) (torn : Int) : (chBack s l keep torn).Ok := Pd.start_ok (Pd.crash_ok (chEnd_ok s l h) keep torn)
theorem chBack_len (s l : Nat) (keep : List Bool) (torn : Int) : (chBack s l keep torn).slots.length = s + l := by
  rw [chBack_eq]; simp [nums_length, spoil_length]
theorem chBack_at (s l : Nat) (keep : List Bool) (torn : Int) (i : Nat) (hi : i < s + l) :
    (chBack s l keep torn).slots[i]? = some (if s ≤ i ∧ lost keep torn (i - s) then ([], true) else ([(i : Int)], false)) := by
  rw [chBack_eq]
  dsimp only
  by_cases h : i < s
  · rw [List.getElem?_append_left (by rw [nums_length]; exact h), nums_get _ _ h, if_neg (by omega)]
  · rw [List.getElem?_append_right (by rw [nums_length]; omega), nums_length, spoil_get, List.getElem?_drop, Nat.zero_add, show s + (i - s) = i by omega, nums_get _ _ hi]
    simp only [Option.map_some, Option.some.injEq]
    by_cases hl : lost keep torn (i - s)
    · rw [if_pos hl, if_pos ⟨by omega, hl⟩]
    · rw [if_neg hl, if_neg (fun e => hl e.2)]
theorem chBack_read (s l : Nat) (keep : List Bool) (torn : Int) (i : Nat) (hi : i < s + l) :
    (chBack s l keep torn).read (i : Int) = if s ≤ i ∧ lost keep torn (i - s) then ([], 13) else ([(i : Int)], 0) := by
  have h := chBack_at s l keep torn i hi
  have hg : (chBack s l keep torn).slots.getD i ([], false) = if s ≤ i ∧ lost keep torn (i - s) then ([], true) else ([(i : Int)], false) := by
    rw [List.getD_eq_getElem?_getD, h]; rfl
  unfold Pd.read
  rw [if_neg (by rw [chBack_eq]; simp), if_neg (by rw [chBack_len]; omega), Int.toNat_natCast, hg]
  by_cases hl : s ≤ i ∧ lost keep torn (i - s)
  · rw [if_pos hl, if_pos hl]; simp
  · rw [if_neg hl, if_neg hl]; simp
theorem chOff_read (s l : Nat) (keep : List Bool) (torn : Int) : ((chEnd s l).crash keep torn).read 0 = ([], 5) := by
  rw [chCrash]; unfold Pd.read; rw [if_pos rfl]
theorem chOff_append (s l : Nat) (keep : List Bool) (torn : Int) : ((chEnd s l).crash keep torn).append [] = ((chEnd s l).crash keep torn, 5) := by
  rw [chCrash]; unfold Pd.append; rw [if_pos rfl]
theorem C_nil {α : Type} (d : Kd α) (w : World) : d.C w none 0 [] := ⟨rfl, by decide, fun h => by omega⟩
section
variable {w : World}
set_option maxHeartbeats 8000000 in
set_option maxRecDepth 100000 in
theorem choice_calls (safe loose : Int) (A : Option Addr) (c : Nat) (keep : List Bool) (torn : Int) (w : World) (hr : Kd.C Kd.bool w A keep.length keep) (hc : keep.length ≤ c) :
    Calls Try.prog 3 #[.int .i64 safe, .int .i64 loose, .slice A keep.length c, .int .i64 torn] w fun e w' => e = .returned (.bool true) ∧ Below w.heap.size w w' := by
  by_cases hk : keep.length > 100
  · have hd : decide ((100 : Int) < (keep.length : Int)) = true := decide_eq_true (by omega)
    clear hr hc hk
    go_enter Try.func3, Try.ntmps3
    go_wp2
    go_ret
    exact ⟨rfl, Below.refl _ _⟩
  · have hd : decide ((100 : Int) < (keep.length : Int)) = false := decide_eq_false (by omega)
    obtain ⟨s, hs, es, es2⟩ := Keep.umod safe 20 (by decide) (by decide)
    obtain ⟨l, hl, el, el2⟩ := Keep.umod loose 20 (by decide) (by decide)
    replace es : wrap64 ((IntKind.u64.wrap safe).tmod 20) = (s : Int) := es
    replace el : wrap64 ((IntKind.u64.wrap loose).tmod 20) = (l : Int) := el
    have HS := Aside0.mk (Sp.start w)
    have HR := Aside0.mk hr
    have HC := Aside0.mk hc
    have HKL := Aside0.mk hk
    clear hr hc hk es2 el2
    go_enter Try.func3, Try.ntmps3
    go_wp2_with (first
      | (go_at_call 11; refine (new_calls HS.out).mono ?_; rintro e w1 ⟨g, rfl, h1⟩; have H1 := Aside0.mk h1; clear h1))
    clear es el
    have hs1 : (s : Int) ≤ 19 := by omega
    have hl1 : (l : Int) ≤ 19 := by omega
    go_loopg [10] (s + l) (fun kq v10 w' => ∃ i : Nat, v10 = .int .i64 (i : Int) ∧ Aside0 (i + kq = s + l) ∧ Aside0 (Sp w' [PadP g (chSt s i), Old w]))
    case atStart => exact ⟨0, rfl, ⟨by omega⟩, H1⟩
    case round =>
      obtain ⟨i, rfl, HK, HP⟩ := hrel
      clear H1
      have hi1 : (i : Int) ≤ 38 := by have := HK.out; omega
      by_cases hlt : i < s + l
      · have hb1 : decide ((i : Int) < (s : Int) + (l : Int)) = true := decide_eq_true (by omega)
        have hu : IntKind.u8.wrap (i : Int) = (i : Int) := IntWalk.u8_in _ (by omega)
        have hm8 : (i : Int) % 256 = (i : Int) := by omega
        cases gk with
        | zero => exact absurd HK.out (by omega)
        | succ k1 =>
        by_cases his : i = s
        · subst his
          have HLT := Aside0.mk hlt
          clear hlt
          go_wp2_with (first
            | (go_at_call 12; refine (sync_to HP.out (chSt_ok i i (by omega)) (chSt_sync i)).mono ?_; rintro e w2 ⟨rfl, h2⟩; have H2 := Aside0.mk (lit_u8 (i : Int) h2); clear h2)
            | (go_at_call 13; refine (append_to H2.out.s1 (nums_ok i i (Nat.le_refl _) (by omega) false 0) (some ⟨w2.heap.size, 0, none⟩) 1 [(i : Int)] (by simp) (by simp) (row_C H2.out).2.2 (chSt_append i (by omega))).mono ?_; rintro e w3 ⟨rfl, h3⟩; have H3 := Aside0.mk (Sp.tail h3.s1); clear h3)
            | (go_at_call 12; refine Stop.go ?_) | (go_at_call 13; refine Stop.go ?_))
          go_roundg k1
          case measure => exact Nat.lt_succ_self _
          case rel => exact ⟨i + 1, by first | rfl | simp, ⟨by have := HK.out; omega⟩, H3⟩
        · have hb2 : ((i : Int) == (s : Int)) = false := beq_eq_false_iff_ne.mpr (by omega)
          have hb3 : (i == s) = false := beq_eq_false_iff_ne.mpr his
          have hb4 : decide (i = s) = false := decide_eq_false his
          have HI := Aside0.mk his
          have HL := Aside0.mk (lit_u8 (i : Int) HP.out)
          have HLT := Aside0.mk hlt
          clear hlt his
          go_wp2_with (first
            | (go_at_call 13; refine (append_to HL.out.s1 (chSt_ok s i (by omega)) (some ⟨wr.heap.size, 0, none⟩) 1 [(i : Int)] (by simp) (by simp) (row_C HL.out).2.2 (chSt_step s i (by omega) HI.out)).mono ?_; rintro e w3 ⟨rfl, h3⟩; have H3 := Aside0.mk (Sp.tail h3.s1); clear h3)
            | (go_at_call 12; refine Stop.go ?_) | (go_at_call 13; refine Stop.go ?_))
          go_roundg k1
          case measure => exact Nat.lt_succ_self _
          case rel => exact ⟨i + 1, by first | rfl | simp, ⟨by have := HK.out; omega⟩, H3⟩
      · have hb1 : decide ((i : Int) < (s : Int) + (l : Int)) = false := decide_eq_false (by omega)
        have hil : i = s + l := by have := HK.out; omega
        subst hil
        clear hlt HK hi1
        have HOE := Aside0.mk (chEnd_ok s l (by omega))
        have hcut : ∃ b : Bool, ((l : Int) == 0) = b := ⟨_, rfl⟩
        by_cases hl0 : l = 0
        case' pos =>
          have hb5 : ((l : Int) == 0) = true := by rw [hl0]; rfl
          have hb6 : (l == 0) = true := by rw [hl0]; rfl
          have hb7 : decide (l = 0) = true := decide_eq_true hl0
          have HL0 := Aside0.mk hl0
          clear hl0 hcut
          go_wp2_with (first
            | (go_at_call 12; refine (sync_to HP.out (chSt_ok s (s + l) (by omega)) (chSt_end0 s l HL0.out)).mono ?_; rintro e w2 ⟨rfl, h2⟩; have H2 := Aside0.mk h2; clear h2 HP)
            | (go_at_call 14; refine Stop.go ?_))
          clear hb5 hb6 hb7 HL0
        case' neg =>
          have hb5 : ((l : Int) == 0) = false := beq_eq_false_iff_ne.mpr (by omega)
          have hb6 : (l == 0) = false := beq_eq_false_iff_ne.mpr hl0
          have hb7 : decide (l = 0) = false := decide_eq_false hl0
          have h2 := HP.out
          rw [chSt_end s l hl0] at h2
          have H2 := Aside0.mk h2
          clear HP h2 hl0 hcut
          go_wp2_with (first
            | (go_at_call 12; refine Stop.go ?_)
            | (go_at_call 14; refine Stop.go ?_))
          clear hb5 hb6 hb7
        all_goals
          constructor
          refine (crash_to (K := Old w) H2.out HOE.out A c keep torn (fun w' ok h => Kd.C_below HR.out h.2) rfl).mono ?_
          rintro e w3 ⟨⟨v, rfl⟩, h3⟩
          have H3 := Aside0.mk h3
          clear h3 H2
          go_wp2_with (first
            | (go_at_call 15; refine (read_to H3.out (Pd.crash_ok HOE.out keep torn) 0 (chOff_read s l keep torn)).mono ?_; rintro e w4 ⟨v4, rfl, h4⟩; have H4 := Aside0.mk (Sp.tail h4); clear h4 H3)
            | (go_at_call 13; refine (append_to H4.out (Pd.crash_ok HOE.out keep torn) none 0 [] (by simp) (by simp) (C_nil _ _) (chOff_append s l keep torn)).mono ?_; rintro e w5 ⟨rfl, h5⟩; have H5 := Aside0.mk h5; clear h5 H4)
            | (go_at_call 16; refine (start_calls H5.out).mono ?_; rintro e w6 ⟨⟨v6, rfl⟩, h6⟩; have H6 := Aside0.mk (show Sp w6 [PadP g (chBack s l keep torn), Old w] from h6); clear h6 H5)
            | (go_at_call 17; refine (len_calls H6.out).mono ?_; rw [chBack_len]; rintro e w7 ⟨rfl, rfl⟩)
            | (go_at_call 18; refine (safe_calls H6.out).mono ?_; rw [show (chBack s l keep torn).safe = s + l from by rw [chBack_eq]]; rintro e w7 ⟨rfl, rfl⟩))
          go_loopg [13] (s + l) (fun kq v13 w' => ∃ i : Nat, v13 = .int .i64 (i : Int) ∧ Aside0 (i + kq = s + l) ∧ Aside0 (Sp w' [PadP g (chBack s l keep torn), Old w]))
          case atStart => exact ⟨0, rfl, ⟨by omega⟩, H6⟩
          case round =>
            obtain ⟨i, rfl, HK, HP⟩ := hrel
            clear H6
            have hi1 : (i : Int) ≤ 38 := by have := HK.out; omega
            by_cases hlt : i < s + l
            · have hb1 : decide ((i : Int) < (s : Int) + (l : Int)) = true := decide_eq_true (by omega)
              have hu : IntKind.u8.wrap (i : Int) = (i : Int) := IntWalk.u8_in _ (by omega)
              have hm8 : (i : Int) % 256 = (i : Int) := by omega
              cases gk with
              | zero => exact absurd HK.out (by omega)
              | succ k1 =>
              have hread := chBack_read s l keep torn i hlt
              by_cases hsi : s ≤ i
              · obtain ⟨k, hk⟩ : ∃ k : Nat, k = i - s := ⟨_, rfl⟩
                rw [← hk] at hread
                have hik : (i : Int) - (s : Int) = (k : Int) := by omega
                have hb2 : decide (i < s) = false := decide_eq_false (by omega)
                have hb3 : decide ((i : Int) < (s : Int)) = false := decide_eq_false (by omega)
                have HLT := Aside0.mk hlt
                have hkb : (k : Int) ≤ 38 := by omega
                by_cases hkl : keep.length ≤ k
                · rw [if_pos ⟨hsi, .inr (by rw [List.getD_eq_getElem?_getD, List.getElem?_eq_none hkl]; rfl)⟩] at hread
                  have HREAD := Aside0.mk hread
                  have hb5 : decide (k < keep.length) = false := decide_eq_false (by omega)
                  clear hread hlt hsi hk hkl
                  go_wp2_with (first
                    | (go_at_call 15; refine (read_to HP.out (chBack_ok s l (by have := HLT.out; omega) keep torn) i HREAD.out).mono ?_; rintro e w2 ⟨v, rfl, h2⟩; have H2 := Aside0.mk (Sp.tail h2); clear h2))
                  go_roundg k1
                  case measure => exact Nat.lt_succ_self _
                  case rel => exact ⟨i + 1, by first | rfl | simp, ⟨by have := HK.out; omega⟩, H2⟩
                · obtain ⟨ad, hA, hck⟩ := Kd.at_bool HR.out (k : Int) (by omega) (by omega)
                  subst hA
                  rw [Int.toNat_natCast] at hck
                  have hb5 : decide (k < keep.length) = true := decide_eq_true (by omega)
                  have hb6 : (k : Int) < (keep.length : Int) := by omega
                  have hgd : rdOf false keep (k : Int) = keep.getD k false := rfl
                  rw [hgd] at hck
                  cases hkb2 : keep.getD k false
                  · rw [if_pos ⟨hsi, .inr hkb2⟩] at hread
                    rw [hkb2] at hck
                    have HREAD := Aside0.mk hread
                    have HCK := Aside0.mk hck
                    clear hread hlt hsi hk hkl hck hgd hkb2
                    go_wp2_with (first
                      | (go_at_call 15; refine (read_to HP.out (chBack_ok s l (by have := HLT.out; omega) keep torn) i HREAD.out).mono ?_; rintro e w2 ⟨v, rfl, h2⟩; have hck2 := ((Sp.old (Sp.tail (Sp.tail h2))).cell (World.block_lt_of_cell? w _ HCK.out)).trans HCK.out; have H2 := Aside0.mk (Sp.tail h2); clear h2))
                    go_roundg k1
                    case measure => exact Nat.lt_succ_self _
                    case rel => exact ⟨i + 1, by first | rfl | simp, ⟨by have := HK.out; omega⟩, H2⟩
                  · rw [hkb2] at hck
                    by_cases hkt : (k : Int) = torn
                    · rw [if_pos ⟨hsi, .inl hkt⟩] at hread
                      have HREAD := Aside0.mk hread
                      have HCK := Aside0.mk hck
                      have hb7 : ((k : Int) != torn) = false := by simpa using hkt
                      clear hread hlt hsi hk hkl hck hgd hkb2 hkt
                      go_wp2_with (first
                        | (go_at_call 15; refine (read_to HP.out (chBack_ok s l (by have := HLT.out; omega) keep torn) i HREAD.out).mono ?_; rintro e w2 ⟨v, rfl, h2⟩; have hck2 := ((Sp.old (Sp.tail (Sp.tail h2))).cell (World.block_lt_of_cell? w _ HCK.out)).trans HCK.out; have H2 := Aside0.mk (Sp.tail h2); clear h2))
                      go_roundg k1
                      case measure => exact Nat.lt_succ_self _
                      case rel => exact ⟨i + 1, by first | rfl | simp, ⟨by have := HK.out; omega⟩, H2⟩
                    · rw [if_neg (fun e => e.2.elim hkt (fun h => by rw [hkb2] at h; cases h))] at hread
                      have HREAD := Aside0.mk hread
                      have HCK := Aside0.mk hck
                      have hb7 : ((k : Int) != torn) = true := by simpa using hkt
                      clear hread hlt hsi hk hkl hck hgd hkb2 hkt
                      go_wp2_with (first
                        | (go_at_call 15; refine (read_to HP.out (chBack_ok s l (by have := HLT.out; omega) keep torn) i HREAD.out).mono ?_; rintro e w2 ⟨v, rfl, h2⟩; have hck2 := ((Sp.old (Sp.tail (Sp.tail h2))).cell (World.block_lt_of_cell? w _ HCK.out)).trans HCK.out; obtain ⟨va, vc, rfl⟩ : ∃ A c, v = .slice A 1 c := (h2.row).elim fun A h => h.elim fun c h => ⟨A, c, h.1⟩; have H2 := Aside0.mk (lit_u8 (i : Int) h2); clear h2)
                        | (go_at_call 19; refine (PAll.raddlekeep_Bytes.calls 10 _ _ [(i : Int)] _ _ [(i : Int)] true _ (row_C H2.out.s1).2.2 (row_C H2.out.s1).2.1 (row_C H2.out).2.2 (row_C H2.out).2.1 (by rw [Keep.same_eq 10 _ _ (by simp) (by simp)]; simp)).mono ?_; rintro e w3 ⟨rfl, ⟨nd, rfl⟩⟩; have H3 := Aside0.mk ((Sp.tail (Sp.tail H2.out)).drewN nd); clear H2))
                      go_roundg k1
                      case measure => exact Nat.lt_succ_self _
                      case rel => exact ⟨i + 1, by first | rfl | simp, ⟨by have := HK.out; omega⟩, H3⟩
              · rw [if_neg (fun e => hsi e.1)] at hread
                have HREAD := Aside0.mk hread
                have hb2 : decide (i < s) = true := decide_eq_true (by omega)
                have hb3 : decide ((i : Int) < (s : Int)) = true := decide_eq_true (by omega)
                have hb4 : decide ((i : Int) - (s : Int) < 0) = true := decide_eq_true (by omega)
                have HLT := Aside0.mk hlt
                have HSI := Aside0.mk hsi
                clear hread hlt hsi
                go_wp2_with (first
                  | (go_at_call 15; refine (read_to HP.out (chBack_ok s l (by have := HLT.out; omega) keep torn) i HREAD.out).mono ?_; rintro e w2 ⟨v, rfl, h2⟩; obtain ⟨va, vc, rfl⟩ : ∃ A c, v = .slice A 1 c := (h2.row).elim fun A h => h.elim fun c h => ⟨A, c, h.1⟩; have H2 := Aside0.mk (lit_u8 (i : Int) h2); clear h2)
                  | (go_at_call 19; refine (PAll.raddlekeep_Bytes.calls 10 _ _ [(i : Int)] _ _ [(i : Int)] true _ (row_C H2.out.s1).2.2 (row_C H2.out.s1).2.1 (row_C H2.out).2.2 (row_C H2.out).2.1 (by rw [Keep.same_eq 10 _ _ (by simp) (by simp)]; simp)).mono ?_; rintro e w3 ⟨rfl, ⟨nd, rfl⟩⟩; have H3 := Aside0.mk ((Sp.tail (Sp.tail H2.out)).drewN nd); clear H2))
                go_roundg k1
                case measure => exact Nat.lt_succ_self _
                case rel => exact ⟨i + 1, by first | rfl | simp, ⟨by have := HK.out; omega⟩, H3⟩
            · have hb1 : decide ((i : Int) < (s : Int) + (l : Int)) = false := decide_eq_false (by omega)
              clear hlt
              go_wp2_with (go_at_call 20; refine (wakes_calls HP.out).mono ?_; rintro e w4 ⟨rfl, h4⟩; have H4 := Aside0.mk h4; clear h4)
              go_ret
              exact ⟨rfl, (H4.out.s1).old⟩
end
end Go.Proofs.Ytjpaaicgkdnalaa.Pads
