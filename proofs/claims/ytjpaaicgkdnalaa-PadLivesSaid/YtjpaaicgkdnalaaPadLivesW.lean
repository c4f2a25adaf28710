/-
  PadLives, as the machine walks it.
  Conditions: none.
-/
import Derived.Test.YtjpaaicgkdnalaaPadPlain
namespace Go.Proofs.Ytjpaaicgkdnalaa.Pads
open Go.RowKit Go.Proofs.YtjpaaicgkdnalaaW.PrintWords Go.Proofs.YtjpaaicgkdnalaaW.PrintLast Go.Proofs.YtjpaaicgkdnalaaW.PrintMore Go.Proofs.Ytjpaaicgkdnalaa.Sep
set_option linter.unusedVariables false
set_option linter.unusedSimpArgs false
def lv (i sf : Nat) (o : Bool) (l : Nat) (a : Option (Int × List Bool × Int)) : Pd := ⟨nums i, sf, o, l, a⟩
theorem lv_ok (i sf : Nat) (o : Bool) (l : Nat) (hs : sf ≤ i) (hi : i ≤ 4000) : (lv i sf o l none).Ok := nums_ok i sf hs hi o l
theorem lv_ok' (i sf : Nat) (o : Bool) (l : Nat) (n : Int) (hn : 1 ≤ n) (hn2 : n ≤ 100) (hs : sf ≤ i) (hi : i ≤ 4000) : (lv i sf o l (some (n, [], -1))).Ok :=
  ⟨(nums_ok i sf hs hi o l).safe, (nums_ok i sf hs hi o l).len, (fun n' k t h => by
    simp only [lv, Option.some.injEq, Prod.mk.injEq] at h
    obtain ⟨rfl, rfl, rfl⟩ := h
    exact ⟨hn, by omega, by simp⟩), (nums_ok i sf hs hi o l).bytes⟩
theorem lv_trip (i : Nat) : (lv i i false i none).trip 3 [] (-1) = lv i i false i (some (3, [], -1)) := by
  unfold Pd.trip lv; simp
theorem lv_append (i : Nat) (hi : i < 4000) : (lv i i false i (some (3, [], -1))).append [(i : Int)] = (lv (i + 1) i false i (some (2, [], -1)), 0) := by
  unfold Pd.append lv
  dsimp only
  rw [if_neg (by simp), if_neg (by simp), if_neg (by rw [nums_length]; omega), Pd.spend_go (n := 3) (k := []) (t := -1) rfl (by decide), nums_succ]
  rfl
theorem lv_crash (i : Nat) (hi : i < 4000) : (lv (i + 1) i false i (some (2, [], -1))).crash [true] (-1) = lv (i + 1) (i + 1) true (i + 1) none := by
  rw [Pd.crash_on _ rfl]
  unfold lv
  dsimp only
  have h1 : (nums (i + 1)).take i = nums i := by rw [nums_succ, List.take_append_of_le_length (by rw [nums_length]; exact Nat.le_refl _), List.take_of_length_le (by rw [nums_length]; exact Nat.le_refl _)]
  have h2 : (nums (i + 1)).drop i = [([(i : Int)], false)] := by rw [nums_succ, List.drop_append_of_le_length (by rw [nums_length]; exact Nat.le_refl _), List.drop_eq_nil_iff.2 (by rw [nums_length]; exact Nat.le_refl _), List.nil_append]
  rw [h1, h2, nums_length, show wrap64 ((i : Int) + 1) = ((i + 1 : Nat) : Int) from by unfold wrap64; omega]
  have h3 : spoil [true] (-1) 0 [([(i : Int)], false)] = [([(i : Int)], false)] := by
    simp only [spoil]
    rw [if_neg (by unfold lost; simp)]
  rw [h3, ← nums_succ]
theorem lv_crash2 (i : Nat) : (lv (i + 1) (i + 1) true (i + 1) none).crash [] 0 = lv (i + 1) (i + 1) true (i + 1) none := Pd.crash_off _ rfl _ _
theorem lv_sync (i : Nat) : (lv (i + 1) (i + 1) false (i + 1) none).sync = (lv (i + 1) (i + 1) false (i + 1) none, 0) := by
  unfold lv
  rw [sync_plain, nums_length]
theorem lv_read (n i : Nat) (hi : i < n) : (lv n n false n none).read (i : Int) = ([(i : Int)], 0) := by
  unfold Pd.read lv
  dsimp only
  rw [if_neg (by simp), if_neg (by rw [nums_length]; omega), Int.toNat_natCast, List.getD_eq_getElem?_getD, nums_get _ _ hi]
  simp
set_option maxHeartbeats 8000000 in
set_option maxRecDepth 100000 in
theorem lives_law (x : Int) (twice : Bool) (w : World) (_ : (Lit.int .i64 x).wf = true) (_ : True) :
    Calls Try.prog 5 #[.int .i64 x, .bool twice] w fun e w' => e = .returned (.bool true) ∧ Below w.heap.size w w' := by
  obtain ⟨s, hs, es, es2⟩ := Keep.umod x 20 (by decide) (by decide)
  replace es : wrap64 ((IntKind.u64.wrap x).tmod 20) = (s : Int) := es
  have HS := Aside0.mk (Sp.start w)
  have hs1 : (s : Int) ≤ 19 := by omega
  clear es2
  go_enter Try.func5, Try.ntmps5
  go_wp2_with (first
    | (go_at_call 11; refine (new_calls HS.out).mono ?_; rintro e w1 ⟨g, rfl, h1⟩; have H1 := Aside0.mk (show Sp w1 [PadP g (lv 0 0 false 0 none), Old w] from h1); clear h1)
    | (go_at_call 23; refine (life_calls H1.out).mono ?_; rw [show (lv 0 0 false 0 none).life = 0 from rfl]; rintro e w2 ⟨rfl, rfl⟩)
    | (go_at_call 24; refine (off_calls H1.out).mono ?_; rw [show (lv 0 0 false 0 none).off = false from rfl]; rintro e w2 ⟨rfl, rfl⟩))
  clear es
  go_loopg [6] s (fun kq v6 w' => ∃ i : Nat, v6 = .int .i64 (i : Int) ∧ Aside0 (i + kq = s) ∧ Aside0 (Sp w' [PadP g (lv i i false i none), Old w]))
  case atStart => exact ⟨0, rfl, ⟨by omega⟩, H1⟩
  case round =>
    obtain ⟨i, rfl, HK, HP⟩ := hrel
    clear H1
    have hi1 : (i : Int) ≤ 19 := by have := HK.out; omega
    by_cases hlt : i < s
    · have hb1 : decide (i < s) = true := decide_eq_true hlt
      have hu : IntKind.u8.wrap (i : Int) = (i : Int) := IntWalk.u8_in _ (by omega)
      have hm8 : (i : Int) % 256 = (i : Int) := by omega
      cases gk with
      | zero => exact absurd HK.out (by omega)
      | succ k1 =>
      have HLT := Aside0.mk (show i < 4000 by omega)
      clear hlt
      cases twice
      all_goals
        go_wp2_with (first
          | (go_at_call 22; refine (trip_calls (K := Old w) HP.out 3 none 0 [] (-1) (by simp) (by simp) (fun _ _ _ => C_nil _ _)).mono ?_; rw [lv_trip]; rintro e w2 ⟨⟨v, rfl⟩, h2⟩; have H2 := Aside0.mk (lit_u8 (i : Int) h2); clear h2)
          | (go_at_call 13; refine (append_to H2.out.s1 (lv_ok' i i false i 3 (by decide) (by decide) (Nat.le_refl _) (by have := HLT.out; omega)) (some ⟨w2.heap.size, 0, none⟩) 1 [(i : Int)] (by simp) (by simp) (row_C H2.out).2.2 (lv_append i HLT.out)).mono ?_; rintro e w3 ⟨rfl, h3⟩; have H3 := Aside0.mk (lit_bool true (Sp.tail h3.s1)); clear h3 H2)
          | (go_at_call 14; refine (crash_to (K := Row Kd.bool 4 (.slice (some ⟨w3.heap.size, 0, none⟩) 1 1) [true]) H3.out.s1 (lv_ok' (i + 1) i false i 2 (by decide) (by decide) (by omega) (by have := HLT.out; omega)) (some ⟨w3.heap.size, 0, none⟩) 1 [true] (-1) (fun w ok h => (Kd.R_reads' h).2.2) (lv_crash i HLT.out)).mono ?_; rintro e w4 ⟨⟨v4, rfl⟩, h4⟩; have H4 := Aside0.mk (Sp.tail h4.s1); clear h4 H3)
          | (go_at_call 14; refine (crash_to (K := Old w) H4.out (lv_ok (i + 1) (i + 1) true (i + 1) (Nat.le_refl _) (by have := HLT.out; omega)) none 0 [] 0 (fun _ _ _ => C_nil _ _) (lv_crash2 i)).mono ?_; rintro e w5 ⟨⟨v5, rfl⟩, h5⟩; clear H4; have H4 := Aside0.mk h5; clear h5)
          | (go_at_call 23; refine (life_calls H4.out).mono ?_; rw [show (lv (i + 1) (i + 1) true (i + 1) none).life = (i : Int) + 1 from rfl]; rintro e w6 ⟨rfl, rfl⟩)
          | (go_at_call 24; refine (off_calls H4.out).mono ?_; rw [show (lv (i + 1) (i + 1) true (i + 1) none).off = true from rfl]; rintro e w6 ⟨rfl, rfl⟩)
          | (go_at_call 16; refine (start_calls H4.out).mono ?_; rintro e w7 ⟨⟨v7, rfl⟩, h7⟩; have H7 := Aside0.mk (show Sp w7 [PadP g (lv (i + 1) (i + 1) false (i + 1) none), Old w] from h7); clear h7 H4)
          | (go_at_call 16; refine (start_calls H7.out).mono ?_; rintro e w8 ⟨⟨v8, rfl⟩, h8⟩; have H8 := Aside0.mk (show Sp w8 [PadP g (lv (i + 1) (i + 1) false (i + 1) none), Old w] from h8); clear h8 H7))
        go_loopg [7] 4 (fun kq v7 w' => ∃ k : Nat, v7 = .int .i64 (k : Int) ∧ Aside0 (k + kq = 4) ∧ Aside0 (Sp w' [PadP g (lv (i + 1) (i + 1) false (i + 1) none), Old w]))
        case atStart => exact ⟨0, rfl, ⟨by omega⟩, H8⟩
        case round =>
          obtain ⟨k, rfl, HK2, HP2⟩ := hrel
          clear H8
          have hk1 : (k : Int) ≤ 4 := by have := HK2.out; omega
          by_cases hkt : k < 4
          · have hb2 : decide ((k : Int) < 4) = true := decide_eq_true (by omega)
            cases gk with
            | zero => exact absurd HK2.out (by omega)
            | succ k2 =>
            clear hkt
            go_wp2_with (go_at_call 12; refine (sync_to HP2.out (lv_ok (i + 1) (i + 1) false (i + 1) (Nat.le_refl _) (by have := HLT.out; omega)) (lv_sync i)).mono ?_; rintro e w9 ⟨rfl, h9⟩; have H9 := Aside0.mk h9; clear h9)
            go_roundg k2
            case measure => exact Nat.lt_succ_self _
            case rel => exact ⟨k + 1, by first | rfl | simp, ⟨by have := HK2.out; omega⟩, H9⟩
          · have hb2 : decide ((k : Int) < 4) = false := decide_eq_false (by omega)
            clear hkt
            go_wp2
            go_roundg k1
            case measure => exact Nat.lt_succ_self _
            case rel => exact ⟨i + 1, by first | rfl | simp, ⟨by have := HK.out; omega⟩, HP2⟩
    · have hb1 : decide (i < s) = false := decide_eq_false hlt
      obtain rfl : i = s := by have := HK.out; omega
      clear hlt hi1 HK
      go_wp2
      go_loopg [8] i (fun kq v8 w' => ∃ j : Nat, v8 = .int .i64 (j : Int) ∧ Aside0 (j + kq = i) ∧ Aside0 (Sp w' [PadP g (lv i i false i none), Old w]))
      case atStart => exact ⟨0, rfl, ⟨by omega⟩, HP⟩
      case round =>
        obtain ⟨j, rfl, HK, HP2⟩ := hrel
        clear HP
        have hi1 : (j : Int) ≤ 19 := by have := HK.out; omega
        by_cases hlt : j < i
        · have hb1 : decide (j < i) = true := decide_eq_true hlt
          have hu : IntKind.u8.wrap (j : Int) = (j : Int) := IntWalk.u8_in _ (by omega)
          have hm8 : (j : Int) % 256 = (j : Int) := by omega
          cases gk with
          | zero => exact absurd HK.out (by omega)
          | succ k1 =>
          have HLT := Aside0.mk hlt
          clear hlt
          go_wp2_with (first
            | (go_at_call 15; refine (read_to HP2.out (lv_ok i i false i (Nat.le_refl _) (by omega)) j (lv_read i j HLT.out)).mono ?_; rintro e w2 ⟨v, rfl, h2⟩; obtain ⟨va, vc, rfl⟩ : ∃ A c, v = .slice A 1 c := (h2.row).elim fun A h => h.elim fun c h => ⟨A, c, h.1⟩; have H2 := Aside0.mk (lit_u8 (j : Int) h2); clear h2)
            | (go_at_call 19; refine (PAll.raddlekeep_Bytes.calls 10 _ _ [(j : Int)] _ _ [(j : Int)] true _ (row_C H2.out.s1).2.2 (row_C H2.out.s1).2.1 (row_C H2.out).2.2 (row_C H2.out).2.1 (by rw [Keep.same_eq 10 _ _ (by simp) (by simp)]; simp)).mono ?_; rintro e w3 ⟨rfl, ⟨nd, rfl⟩⟩; have H3 := Aside0.mk ((Sp.tail (Sp.tail H2.out)).drewN nd); clear H2))
          go_roundg k1
          case measure => exact Nat.lt_succ_self _
          case rel => exact ⟨j + 1, by first | rfl | simp, ⟨by have := HK.out; omega⟩, H3⟩
        · have hb1 : decide (j < i) = false := decide_eq_false hlt
          clear hlt
          go_wp2_with (first
            | (go_at_call 17; refine (len_calls HP2.out).mono ?_; rw [show (lv i i false i none).slots.length = i from nums_length i]; rintro e w7 ⟨rfl, rfl⟩)
            | (go_at_call 20; refine (wakes_calls HP2.out).mono ?_; rintro e w4 ⟨rfl, h4⟩; have H4 := Aside0.mk h4; clear h4))
          go_ret
          exact ⟨rfl, H4.out.s1.old⟩
end Go.Proofs.Ytjpaaicgkdnalaa.Pads
