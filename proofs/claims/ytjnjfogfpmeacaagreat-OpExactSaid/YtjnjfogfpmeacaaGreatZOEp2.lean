-- Put together by a program of this session (wip/slice2.py) out of the seat's texts.
import Derived.Test.YtjnjfogfpmeacaaGreatZOEp1

set_option maxHeartbeats 8000000
set_option maxRecDepth 100000
open Go.Proofs.YtjnjfogfpmeacaaGreatW Go.Proofs.YtjnjfogfpmeacaaGreat
section
namespace Go.Proofs.YtjnjfogfpmeacaaGreat.PAll
open Go.RowKit PrintWords PrintLast PrintMore ZipT PrintWords.Kd PrintMore.Kd
attribute [local go_sem] eE eG eX eY dQ dP eF eC   -- for this text's walks alone
set_option linter.unusedVariables false
set_option linter.unusedSimpArgs false
def aM.l0 : Nat → List Int → Int → Int → Int → List Int → Int → Int → Int → Int → Int → ByteArray → Int → List (S102) → List (S24) → Option (List Int)
 | 0, _, _, _, _, _, _, _, _, _, _, _, _, _, _ => none
 | k + 1, x3, x4, x508000, x508001, x508002, x508003, x508004, x508005, x508006, x508007, x508008, x508009, x508010, x508011 => if x4 < (x508011.length : Int) then (if 0 ≤ x4 then ((bS.f k ((aT x508011 x4).f0) ((aT x508011 x4).f1)).bind fun t551 => (if x3.length + t551.length < 140737488355328 then (aM.l0 k (x3 ++ t551) (wrap64 (x4 + 1)) x508000 x508001 x508002 x508003 x508004 x508005 x508006 x508007 x508008 x508009 x508010 x508011) else (none))) else (none)) else (some x3)
def aM.f (k : Nat) (a0_0 : Int) (a0_1 : Int) (l0_2 : List Int) (a0_3 : Int) (a0_4 : Int) (a0_5 : Int) (a0_6 : Int) (a0_7 : Int) (a0_8 : ByteArray) (a0_9 : Int) (l0_10 : List (S102)) (l0_11 : List (S24)) : Option (List Int) := (some (([(a0_6) % 256] : List Int) : List Int)).bind fun y508 => ((bS.f k a0_0 a0_1).bind fun t511 => (if y508.length + t511.length < 140737488355328 then ((some (y508 ++ t511 : List Int)).bind fun y514 => ((bM.f k l0_2).bind fun t517 => (if y514.length + t517.length < 140737488355328 then ((some (y514 ++ t517 : List Int)).bind fun y520 => ((bO.f k a0_3 a0_4 a0_5).bind fun t523 => (if y520.length + t523.length < 140737488355328 then ((some (y520 ++ t523 : List Int)).bind fun y526 => ((some (([(a0_7) % 256, ((a0_8.size : Int)) % 256] : List Int) : List Int)).bind fun y529 => (if y526.length + y529.length < 140737488355328 then ((some (y526 ++ y529 : List Int)).bind fun y532 => (if y532.length + a0_8.size < 140737488355328 then ((some (y532 ++ bytesOf a0_8 : List Int)).bind fun y535 => (if y535.length < 140737488355328 then ((some (y535 ++ [(a0_9) % 256] : List Int)).bind fun y538 => ((bE.f k l0_10).bind fun t541 => (if y538.length + t541.length < 140737488355328 then ((some (y538 ++ t541 : List Int)).bind fun y544 => (if y544.length < 140737488355328 then (aM.l0 k (y544 ++ [((l0_11.length : Int)) % 256]) 0 a0_0 a0_1 l0_2 a0_3 a0_4 a0_5 a0_6 a0_7 a0_8 a0_9 l0_10 l0_11) else (none))) else (none)))) else (none))) else (none))) else (none)))) else (none)))) else (none)))) else (none)))
def aM.T1 : Bool × List (List Nat × List Nat) := (true, [([], []), ([0], [0]), ([1], [1]), ([2], [2]), ([], []), ([4], [4]), ([5], [5]), ([3, 6, 6], [3, 6]), ([7, 7, 0, 1, 2, 3, 4, 5, 6, 7], [7])])
def aM.B1 : List Nat := [0, 1, 3, 7, 0, 16, 48, 127, 255]
theorem aM.tab1 : rtab .any (opsOf Tryz.f21 1) = aM.T1 := by kernel_rfl
theorem aM.bits1 : waitsOk aM.T1.2 aM.B1 = true := by kernel_rfl
def aM.T2 : Bool × List (List Nat × List Nat) := (true, [([], []), ([], []), ([1], [1]), ([2], [2]), ([0, 3, 3], [0, 3]), ([], []), ([5], [5]), ([6, 4], [6]), ([4, 7, 7], [4, 7]), ([8, 8, 0, 1, 2, 3, 4, 5, 6, 7, 8], [0, 8])])
def aM.B2 : List Nat := [0, 0, 2, 6, 15, 0, 32, 127, 255, 511]
theorem aM.tab2 : rtab .any (opsOf Tryz.f21 2) = aM.T2 := by kernel_rfl
theorem aM.bits2 : waitsOk aM.T2.2 aM.B2 = true := by kernel_rfl
def aM.T3 : Bool × List (List Nat × List Nat) := (true, [([], []), ([], []), ([1], [1]), ([2], [2]), ([], []), ([4], [4]), ([5], [5]), ([6], [6]), ([3, 7], [3, 7]), ([0, 8], [0, 8]), ([], []), ([10], [10]), ([9, 11, 9], [9, 11]), ([12, 12, 0, 1, 2, 3, 4, 5, 6, 7, 8, 9, 10, 11, 12], [0, 12])])
def aM.B3 : List Nat := [0, 0, 2, 6, 0, 16, 48, 112, 254, 511, 0, 1024, 4095, 8191]
theorem aM.tab3 : rtab .any (opsOf Tryz.f21 3) = aM.T3 := by kernel_rfl
theorem aM.bits3 : waitsOk aM.T3.2 aM.B3 = true := by kernel_rfl
def aM.T4 : Bool × List (List Nat × List Nat) := (true, [([], []), ([], []), ([1], [1]), ([2], [2]), ([3], [3]), ([0, 4], [0, 4]), ([], []), ([6], [6]), ([7, 5], [7]), ([5, 8, 8], [5, 8]), ([9, 9, 0, 1, 2, 3, 4, 5, 6, 7, 8, 9], [0, 9])])
def aM.B4 : List Nat := [0, 0, 2, 6, 14, 31, 0, 64, 255, 511, 1023]
theorem aM.tab4 : rtab .any (opsOf Tryz.f21 4) = aM.T4 := by kernel_rfl
theorem aM.bits4 : waitsOk aM.T4.2 aM.B4 = true := by kernel_rfl
theorem aM.calls (k : Nat) (a0_0 : Int) (a0_1 : Int) (A0_2 : Option Addr) (c0_2 : Nat) (l0_2 : List Int) (a0_3 : Int) (a0_4 : Int) (a0_5 : Int) (a0_6 : Int) (a0_7 : Int) (a0_8 : ByteArray) (a0_9 : Int) (A0_10 : Option Addr) (c0_10 : Nat) (l0_10 : List (S102)) (A0_11 : Option Addr) (c0_11 : Nat) (l0_11 : List (S24)) (r : List Int) (w : World) (hr0_2 : Kd.C (Kd.int .i64) w A0_2 l0_2.length l0_2) (hc0_2 : l0_2.length ≤ c0_2) (hr0_10 : Kd.C k102 w A0_10 l0_10.length l0_10) (hc0_10 : l0_10.length ≤ c0_10) (hr0_11 : Kd.C k24 w A0_11 l0_11.length l0_11) (hc0_11 : l0_11.length ≤ c0_11) (h : aM.f k a0_0 a0_1 l0_2 a0_3 a0_4 a0_5 a0_6 a0_7 a0_8 a0_9 l0_10 l0_11 = some r) :
  Calls Tryz.prog 21 #[.agg #[.int .i64 a0_0, .int .i64 a0_1, .slice A0_2 l0_2.length c0_2, .int .i64 a0_3, .int .i64 a0_4, .int .i64 a0_5, .int .i64 a0_6, .int .i64 a0_7, .string a0_8, .int .i64 a0_9, .slice A0_10 l0_10.length c0_10, .slice A0_11 l0_11.length c0_11]] w fun e w' => ∃ v0_ : Value, e = .returned (v0_) ∧ Kd.R (Kd.int .u8) 5 w' w.heap.size (fun _ => True) v0_ r ∧ Below w.heap.size w w' := by
 have hu31 := Tryz.underlying31
 have hu24 := Tryz.underlying24
 have hu27 := Tryz.underlying27
 have HR0_2 := mk_ hr0_2
 have HC0_2 := mk_ hc0_2
 clear hr0_2 hc0_2
 have HR0_10 := mk_ hr0_10
 have HC0_10 := mk_ hc0_10
 clear hr0_10 hc0_10
 have HR0_11 := mk_ hr0_11
 have HC0_11 := mk_ hc0_11
 clear hr0_11 hc0_11
 have HB := mk_ (Below.refl w.heap.size w)
 have H : ((some (([(a0_6) % 256] : List Int) : List Int)).bind fun y508 => ((bS.f k a0_0 a0_1).bind fun t511 => (if y508.length + t511.length < 140737488355328 then ((some (y508 ++ t511 : List Int)).bind fun y514 => ((bM.f k l0_2).bind fun t517 => (if y514.length + t517.length < 140737488355328 then ((some (y514 ++ t517 : List Int)).bind fun y520 => ((bO.f k a0_3 a0_4 a0_5).bind fun t523 => (if y520.length + t523.length < 140737488355328 then ((some (y520 ++ t523 : List Int)).bind fun y526 => ((some (([(a0_7) % 256, ((a0_8.size : Int)) % 256] : List Int) : List Int)).bind fun y529 => (if y526.length + y529.length < 140737488355328 then ((some (y526 ++ y529 : List Int)).bind fun y532 => (if y532.length + a0_8.size < 140737488355328 then ((some (y532 ++ bytesOf a0_8 : List Int)).bind fun y535 => (if y535.length < 140737488355328 then ((some (y535 ++ [(a0_9) % 256] : List Int)).bind fun y538 => ((bE.f k l0_10).bind fun t541 => (if y538.length + t541.length < 140737488355328 then ((some (y538 ++ t541 : List Int)).bind fun y544 => (if y544.length < 140737488355328 then (aM.l0 k (y544 ++ [((l0_11.length : Int)) % 256]) 0 a0_0 a0_1 l0_2 a0_3 a0_4 a0_5 a0_6 a0_7 a0_8 a0_9 l0_10 l0_11) else (none))) else (none)))) else (none))) else (none))) else (none)))) else (none)))) else (none)))) else (none)))) = some r := h
 clear h
 obtain ⟨y508, hy508⟩ : ∃ y_ : List Int, y_ = (([(a0_6) % 256] : List Int)) := ⟨_, rfl⟩
 replace H : ((bS.f k a0_0 a0_1).bind fun t511 => (if y508.length + t511.length < 140737488355328 then ((some (y508 ++ t511 : List Int)).bind fun y514 => ((bM.f k l0_2).bind fun t517 => (if y514.length + t517.length < 140737488355328 then ((some (y514 ++ t517 : List Int)).bind fun y520 => ((bO.f k a0_3 a0_4 a0_5).bind fun t523 => (if y520.length + t523.length < 140737488355328 then ((some (y520 ++ t523 : List Int)).bind fun y526 => ((some (([(a0_7) % 256, ((a0_8.size : Int)) % 256] : List Int) : List Int)).bind fun y529 => (if y526.length + y529.length < 140737488355328 then ((some (y526 ++ y529 : List Int)).bind fun y532 => (if y532.length + a0_8.size < 140737488355328 then ((some (y532 ++ bytesOf a0_8 : List Int)).bind fun y535 => (if y535.length < 140737488355328 then ((some (y535 ++ [(a0_9) % 256] : List Int)).bind fun y538 => ((bE.f k l0_10).bind fun t541 => (if y538.length + t541.length < 140737488355328 then ((some (y538 ++ t541 : List Int)).bind fun y544 => (if y544.length < 140737488355328 then (aM.l0 k (y544 ++ [((l0_11.length : Int)) % 256]) 0 a0_0 a0_1 l0_2 a0_3 a0_4 a0_5 a0_6 a0_7 a0_8 a0_9 l0_10 l0_11) else (none))) else (none)))) else (none))) else (none))) else (none)))) else (none)))) else (none)))) else (none))) = some r := by first | (rw [hy508]; with_reducible exact H) | (have H2_ := (Option.bind_some _ _).symm.trans H; rw [hy508]; with_reducible exact H2_) | (have H2_ := (Option.bind_some _ _).symm.trans H; with_reducible exact H2_) | with_reducible exact H | (rw [hy508]; exact H) | exact H
 have Ny508 := mk_ hy508
 clear hy508
 obtain ⟨t511, A2, H⟩ := Option.bind_eq_some_iff.mp H
 replace A2 := mk_ A2
 by_cases c3 : y508.length + t511.length < 140737488355328
 rotate_left
 ·
  rw [if_neg c3] at H
  exact absurd H z6_
 rw [if_pos c3] at H
 have LMc3 := mk_ c3
 clear c3
 obtain ⟨y514, hy514⟩ : ∃ y_ : List Int, y_ = (y508 ++ t511) := ⟨_, rfl⟩
 replace H : ((bM.f k l0_2).bind fun t517 => (if y514.length + t517.length < 140737488355328 then ((some (y514 ++ t517 : List Int)).bind fun y520 => ((bO.f k a0_3 a0_4 a0_5).bind fun t523 => (if y520.length + t523.length < 140737488355328 then ((some (y520 ++ t523 : List Int)).bind fun y526 => ((some (([(a0_7) % 256, ((a0_8.size : Int)) % 256] : List Int) : List Int)).bind fun y529 => (if y526.length + y529.length < 140737488355328 then ((some (y526 ++ y529 : List Int)).bind fun y532 => (if y532.length + a0_8.size < 140737488355328 then ((some (y532 ++ bytesOf a0_8 : List Int)).bind fun y535 => (if y535.length < 140737488355328 then ((some (y535 ++ [(a0_9) % 256] : List Int)).bind fun y538 => ((bE.f k l0_10).bind fun t541 => (if y538.length + t541.length < 140737488355328 then ((some (y538 ++ t541 : List Int)).bind fun y544 => (if y544.length < 140737488355328 then (aM.l0 k (y544 ++ [((l0_11.length : Int)) % 256]) 0 a0_0 a0_1 l0_2 a0_3 a0_4 a0_5 a0_6 a0_7 a0_8 a0_9 l0_10 l0_11) else (none))) else (none)))) else (none))) else (none))) else (none)))) else (none)))) else (none))) = some r := by first | (rw [hy514]; with_reducible exact H) | (have H2_ := (Option.bind_some _ _).symm.trans H; rw [hy514]; with_reducible exact H2_) | (have H2_ := (Option.bind_some _ _).symm.trans H; with_reducible exact H2_) | with_reducible exact H | (rw [hy514]; exact H) | exact H
 have Ny514 := mk_ hy514
 clear hy514
 obtain ⟨t517, A4, H⟩ := Option.bind_eq_some_iff.mp H
 replace A4 := mk_ A4
 by_cases c5 : y514.length + t517.length < 140737488355328
 rotate_left
 ·
  rw [if_neg c5] at H
  exact absurd H z6_
 rw [if_pos c5] at H
 have LMc5 := mk_ c5
 clear c5
 obtain ⟨y520, hy520⟩ : ∃ y_ : List Int, y_ = (y514 ++ t517) := ⟨_, rfl⟩
 replace H : ((bO.f k a0_3 a0_4 a0_5).bind fun t523 => (if y520.length + t523.length < 140737488355328 then ((some (y520 ++ t523 : List Int)).bind fun y526 => ((some (([(a0_7) % 256, ((a0_8.size : Int)) % 256] : List Int) : List Int)).bind fun y529 => (if y526.length + y529.length < 140737488355328 then ((some (y526 ++ y529 : List Int)).bind fun y532 => (if y532.length + a0_8.size < 140737488355328 then ((some (y532 ++ bytesOf a0_8 : List Int)).bind fun y535 => (if y535.length < 140737488355328 then ((some (y535 ++ [(a0_9) % 256] : List Int)).bind fun y538 => ((bE.f k l0_10).bind fun t541 => (if y538.length + t541.length < 140737488355328 then ((some (y538 ++ t541 : List Int)).bind fun y544 => (if y544.length < 140737488355328 then (aM.l0 k (y544 ++ [((l0_11.length : Int)) % 256]) 0 a0_0 a0_1 l0_2 a0_3 a0_4 a0_5 a0_6 a0_7 a0_8 a0_9 l0_10 l0_11) else (none))) else (none)))) else (none))) else (none))) else (none)))) else (none))) = some r := by first | (rw [hy520]; with_reducible exact H) | (have H2_ := (Option.bind_some _ _).symm.trans H; rw [hy520]; with_reducible exact H2_) | (have H2_ := (Option.bind_some _ _).symm.trans H; with_reducible exact H2_) | with_reducible exact H | (rw [hy520]; exact H) | exact H
 have Ny520 := mk_ hy520
 clear hy520
 obtain ⟨t523, A6, H⟩ := Option.bind_eq_some_iff.mp H
 replace A6 := mk_ A6
 by_cases c7 : y520.length + t523.length < 140737488355328
 rotate_left
 ·
  rw [if_neg c7] at H
  exact absurd H z6_
 rw [if_pos c7] at H
 have LMc7 := mk_ c7
 clear c7
 obtain ⟨y526, hy526⟩ : ∃ y_ : List Int, y_ = (y520 ++ t523) := ⟨_, rfl⟩
 replace H : ((some (([(a0_7) % 256, ((a0_8.size : Int)) % 256] : List Int) : List Int)).bind fun y529 => (if y526.length + y529.length < 140737488355328 then ((some (y526 ++ y529 : List Int)).bind fun y532 => (if y532.length + a0_8.size < 140737488355328 then ((some (y532 ++ bytesOf a0_8 : List Int)).bind fun y535 => (if y535.length < 140737488355328 then ((some (y535 ++ [(a0_9) % 256] : List Int)).bind fun y538 => ((bE.f k l0_10).bind fun t541 => (if y538.length + t541.length < 140737488355328 then ((some (y538 ++ t541 : List Int)).bind fun y544 => (if y544.length < 140737488355328 then (aM.l0 k (y544 ++ [((l0_11.length : Int)) % 256]) 0 a0_0 a0_1 l0_2 a0_3 a0_4 a0_5 a0_6 a0_7 a0_8 a0_9 l0_10 l0_11) else (none))) else (none)))) else (none))) else (none))) else (none))) = some r := by first | (rw [hy526]; with_reducible exact H) | (have H2_ := (Option.bind_some _ _).symm.trans H; rw [hy526]; with_reducible exact H2_) | (have H2_ := (Option.bind_some _ _).symm.trans H; with_reducible exact H2_) | with_reducible exact H | (rw [hy526]; exact H) | exact H
 have Ny526 := mk_ hy526
 clear hy526
 obtain ⟨y529, hy529⟩ : ∃ y_ : List Int, y_ = (([(a0_7) % 256, ((a0_8.size : Int)) % 256] : List Int)) := ⟨_, rfl⟩
 replace H : (if y526.length + y529.length < 140737488355328 then ((some (y526 ++ y529 : List Int)).bind fun y532 => (if y532.length + a0_8.size < 140737488355328 then ((some (y532 ++ bytesOf a0_8 : List Int)).bind fun y535 => (if y535.length < 140737488355328 then ((some (y535 ++ [(a0_9) % 256] : List Int)).bind fun y538 => ((bE.f k l0_10).bind fun t541 => (if y538.length + t541.length < 140737488355328 then ((some (y538 ++ t541 : List Int)).bind fun y544 => (if y544.length < 140737488355328 then (aM.l0 k (y544 ++ [((l0_11.length : Int)) % 256]) 0 a0_0 a0_1 l0_2 a0_3 a0_4 a0_5 a0_6 a0_7 a0_8 a0_9 l0_10 l0_11) else (none))) else (none)))) else (none))) else (none))) else (none)) = some r := by first | (rw [hy529]; with_reducible exact H) | (have H2_ := (Option.bind_some _ _).symm.trans H; rw [hy529]; with_reducible exact H2_) | (have H2_ := (Option.bind_some _ _).symm.trans H; with_reducible exact H2_) | with_reducible exact H | (rw [hy529]; exact H) | exact H
 have Ny529 := mk_ hy529
 clear hy529
 by_cases c8 : y526.length + y529.length < 140737488355328
 rotate_left
 ·
  rw [if_neg c8] at H
  exact absurd H z6_
 rw [if_pos c8] at H
 have LMc8 := mk_ c8
 clear c8
 obtain ⟨y532, hy532⟩ : ∃ y_ : List Int, y_ = (y526 ++ y529) := ⟨_, rfl⟩
 replace H : (if y532.length + a0_8.size < 140737488355328 then ((some (y532 ++ bytesOf a0_8 : List Int)).bind fun y535 => (if y535.length < 140737488355328 then ((some (y535 ++ [(a0_9) % 256] : List Int)).bind fun y538 => ((bE.f k l0_10).bind fun t541 => (if y538.length + t541.length < 140737488355328 then ((some (y538 ++ t541 : List Int)).bind fun y544 => (if y544.length < 140737488355328 then (aM.l0 k (y544 ++ [((l0_11.length : Int)) % 256]) 0 a0_0 a0_1 l0_2 a0_3 a0_4 a0_5 a0_6 a0_7 a0_8 a0_9 l0_10 l0_11) else (none))) else (none)))) else (none))) else (none)) = some r := by first | (rw [hy532]; with_reducible exact H) | (have H2_ := (Option.bind_some _ _).symm.trans H; rw [hy532]; with_reducible exact H2_) | (have H2_ := (Option.bind_some _ _).symm.trans H; with_reducible exact H2_) | with_reducible exact H | (rw [hy532]; exact H) | exact H
 have Ny532 := mk_ hy532
 clear hy532
 by_cases c9 : y532.length + a0_8.size < 140737488355328
 rotate_left
 ·
  rw [if_neg c9] at H
  exact absurd H z6_
 rw [if_pos c9] at H
 have LMc9 := mk_ c9
 clear c9
 obtain ⟨y535, hy535⟩ : ∃ y_ : List Int, y_ = (y532 ++ bytesOf a0_8) := ⟨_, rfl⟩
 replace H : (if y535.length < 140737488355328 then ((some (y535 ++ [(a0_9) % 256] : List Int)).bind fun y538 => ((bE.f k l0_10).bind fun t541 => (if y538.length + t541.length < 140737488355328 then ((some (y538 ++ t541 : List Int)).bind fun y544 => (if y544.length < 140737488355328 then (aM.l0 k (y544 ++ [((l0_11.length : Int)) % 256]) 0 a0_0 a0_1 l0_2 a0_3 a0_4 a0_5 a0_6 a0_7 a0_8 a0_9 l0_10 l0_11) else (none))) else (none)))) else (none)) = some r := by first | (rw [hy535]; with_reducible exact H) | (have H2_ := (Option.bind_some _ _).symm.trans H; rw [hy535]; with_reducible exact H2_) | (have H2_ := (Option.bind_some _ _).symm.trans H; with_reducible exact H2_) | with_reducible exact H | (rw [hy535]; exact H) | exact H
 have Ny535 := mk_ hy535
 clear hy535
 by_cases c10 : y535.length < 140737488355328
 rotate_left
 ·
  rw [if_neg c10] at H
  exact absurd H z6_
 rw [if_pos c10] at H
 have LMc10 := mk_ c10
 clear c10
 obtain ⟨y538, hy538⟩ : ∃ y_ : List Int, y_ = (y535 ++ [(a0_9) % 256]) := ⟨_, rfl⟩
 replace H : ((bE.f k l0_10).bind fun t541 => (if y538.length + t541.length < 140737488355328 then ((some (y538 ++ t541 : List Int)).bind fun y544 => (if y544.length < 140737488355328 then (aM.l0 k (y544 ++ [((l0_11.length : Int)) % 256]) 0 a0_0 a0_1 l0_2 a0_3 a0_4 a0_5 a0_6 a0_7 a0_8 a0_9 l0_10 l0_11) else (none))) else (none))) = some r := by first | (rw [hy538]; with_reducible exact H) | (have H2_ := (Option.bind_some _ _).symm.trans H; rw [hy538]; with_reducible exact H2_) | (have H2_ := (Option.bind_some _ _).symm.trans H; with_reducible exact H2_) | with_reducible exact H | (rw [hy538]; exact H) | exact H
 have Ny538 := mk_ hy538
 clear hy538
 obtain ⟨t541, A11, H⟩ := Option.bind_eq_some_iff.mp H
 replace A11 := mk_ A11
 by_cases c12 : y538.length + t541.length < 140737488355328
 rotate_left
 ·
  rw [if_neg c12] at H
  exact absurd H z6_
 rw [if_pos c12] at H
 have LMc12 := mk_ c12
 clear c12
 obtain ⟨y544, hy544⟩ : ∃ y_ : List Int, y_ = (y538 ++ t541) := ⟨_, rfl⟩
 replace H : (if y544.length < 140737488355328 then (aM.l0 k (y544 ++ [((l0_11.length : Int)) % 256]) 0 a0_0 a0_1 l0_2 a0_3 a0_4 a0_5 a0_6 a0_7 a0_8 a0_9 l0_10 l0_11) else (none)) = some r := by first | (rw [hy544]; with_reducible exact H) | (have H2_ := (Option.bind_some _ _).symm.trans H; rw [hy544]; with_reducible exact H2_) | (have H2_ := (Option.bind_some _ _).symm.trans H; with_reducible exact H2_) | with_reducible exact H | (rw [hy544]; exact H) | exact H
 have Ny544 := mk_ hy544
 clear hy544
 by_cases c13 : y544.length < 140737488355328
 rotate_left
 ·
  rw [if_neg c13] at H
  exact absurd H z6_
 rw [if_pos c13] at H
 have LMc13 := mk_ c13
 clear c13
 obtain ⟨y547, hy547⟩ : ∃ y_ : List Int, y_ = (y544 ++ [((l0_11.length : Int)) % 256]) := ⟨_, rfl⟩
 replace H : (aM.l0 k y547 0 a0_0 a0_1 l0_2 a0_3 a0_4 a0_5 a0_6 a0_7 a0_8 a0_9 l0_10 l0_11) = some r := by first | (rw [hy547]; with_reducible exact H) | (have H2_ := (Option.bind_some _ _).symm.trans H; rw [hy547]; with_reducible exact H2_) | (have H2_ := (Option.bind_some _ _).symm.trans H; with_reducible exact H2_) | with_reducible exact H | (rw [hy547]; exact H) | exact H
 have Ny547 := mk_ hy547
 clear hy547
 have H' := mk_ H
 clear H
 go_enter Tryz.func21, Tryz.ntmps21
 try go_wp2_with (first | ((with_reducible refine aY (N := 1) rfl ?_); refine aZ ?hg (N := 1) ?hd (cs := #[.int .i64 a0_0, .int .i64 a0_1, .slice A0_2 l0_2.length c0_2, .int .i64 a0_3, .int .i64 a0_4, .int .i64 a0_5, .int .i64 a0_6, .int .i64 a0_7, .string a0_8, .int .i64 a0_9, .slice A0_10 l0_10.length c0_10, .slice A0_11 l0_11.length c0_11]) (t := 31) ?hr ?_; (case hd => rfl); (case hg => rfl); (case hr => first | (go_simp; done) | (go_simp; rfl)); intro gb507 hg w14 hbox hb; have n0_ := mk_ (aA (Short.hB HB) hb); have n1_ := mk_ (hbox); have n2_ := mk_ ((by rw [hg]; exact (aC (Short.hB HB)) : w.heap.size ≤ gb507)); have n3_ := mk_ ((by rw [hg]; exact (aC (Short.hB HB)) : w.heap.size ≤ gb507)); clear HB; revert n0_ n1_ n2_ n3_; intro HB BK507 GW507 GE507; clear hb hbox hg))
 have n0_ := mk_ (aH BK507.out)
 have n1_ := mk_ (dG HB.out)
 clear BK507 HB
 revert n0_ n1_
 intro BK507 HB
 refine fM (n := 9) (S := fun w' => w'.cell? ⟨gb507, 0, none⟩ = some (.int .i64 a0_0) ∧ w'.cell? ⟨gb507, 1, none⟩ = some (.int .i64 a0_1) ∧ w'.cell? ⟨gb507, 2, none⟩ = some (.slice A0_2 l0_2.length c0_2) ∧ w'.cell? ⟨gb507, 3, none⟩ = some (.int .i64 a0_3) ∧ w'.cell? ⟨gb507, 4, none⟩ = some (.int .i64 a0_4) ∧ w'.cell? ⟨gb507, 5, none⟩ = some (.int .i64 a0_5) ∧ w'.cell? ⟨gb507, 6, none⟩ = some (.int .i64 a0_6) ∧ w'.cell? ⟨gb507, 7, none⟩ = some (.int .i64 a0_7) ∧ w'.cell? ⟨gb507, 8, none⟩ = some (.string a0_8) ∧ w'.cell? ⟨gb507, 9, none⟩ = some (.int .i64 a0_9) ∧ w'.cell? ⟨gb507, 10, none⟩ = some (.slice A0_10 l0_10.length c0_10) ∧ w'.cell? ⟨gb507, 11, none⟩ = some (.slice A0_11 l0_11.length c0_11)) (ds := []) (Steps.Bs 9 0) z2_ rfl rfl (k12e_ BK507) (fun hHeld => ?_); refine dA aM.tab1 aM.bits1 (fun HT_ HW_ => ?_)
 generalize w14.drew = w15 at BK507 HB hHeld ⊢
 refine tI HT_ 0 5 9 1 ?_
 refine tI HT_ 4 9 9 17 ?_
 refine tT HT_ HW_ hHeld 1 6 9 19 ?_
 refine tI HT_ 2 7 9 23 ?_
 refine tT HT_ HW_ hHeld 5 10 9 55 ?_
 refine join_ (σ := Value × Value) 2 (Steps.Bs 9 127) (fun s_ => [(8, s_.1), (11, s_.2)]) (fun s_ w' => (w'.cell? ⟨gb507, 0, none⟩ = some (.int .i64 a0_0) ∧ w'.cell? ⟨gb507, 1, none⟩ = some (.int .i64 a0_1) ∧ w'.cell? ⟨gb507, 2, none⟩ = some (.slice A0_2 l0_2.length c0_2) ∧ w'.cell? ⟨gb507, 3, none⟩ = some (.int .i64 a0_3) ∧ w'.cell? ⟨gb507, 4, none⟩ = some (.int .i64 a0_4) ∧ w'.cell? ⟨gb507, 5, none⟩ = some (.int .i64 a0_5) ∧ w'.cell? ⟨gb507, 6, none⟩ = some (.int .i64 a0_6) ∧ w'.cell? ⟨gb507, 7, none⟩ = some (.int .i64 a0_7) ∧ w'.cell? ⟨gb507, 8, none⟩ = some (.string a0_8) ∧ w'.cell? ⟨gb507, 9, none⟩ = some (.int .i64 a0_9) ∧ w'.cell? ⟨gb507, 10, none⟩ = some (.slice A0_10 l0_10.length c0_10) ∧ w'.cell? ⟨gb507, 11, none⟩ = some (.slice A0_11 l0_11.length c0_11)) ∧ (Kd.R (Kd.int .u8) 5 w' w.heap.size (fun k_ => nb_ k_ (s_.2)) s_.1 y508) ∧ (Kd.R (Kd.int .u8) 5 w' w.heap.size (fun k_ => nb_ k_ (s_.1)) s_.2 t511) ∧ (w'.heap[gb507]? = some (.cells #[.int .i64 a0_0, .int .i64 a0_1, .slice A0_2 l0_2.length c0_2, .int .i64 a0_3, .int .i64 a0_4, .int .i64 a0_5, .int .i64 a0_6, .int .i64 a0_7, .string a0_8, .int .i64 a0_9, .slice A0_10 l0_10.length c0_10, .slice A0_11 l0_11.length c0_11] 31 (0, 0))) ∧ (Below w.heap.size w w')) ?_ ?_
 rotate_left
 ·
  intro hCont
  refine two_ (i := 3) (j := 6) (Ni := some 8) (Nj := some 11) (Steps.Bs 9 63) (Steps.Bs 9 119) rfl rfl rfl rfl (two_of HT_.out z2_) z5_ z5_ (fun K hK => ?_) (fun K hK => ?_)
  ·
   skip
   refine fK (Kd.int .u8) _ 5 ?hg (N := 8) ?hd (xs := ([(a0_6) % 256] : List Int)) (inner := [.int .u8 ((a0_6) % 256)]) (ok := fun _ => True) (okp := fun _ => True) ?hr ?hp (fun _ hk => hk) trivial (Below.refl _ _) (Nat.le_refl _) z6_ ?_; (case hd => rfl); (case hg => rfl); (case hr => first | (go_simp; done) | (go_simp; rfl)); (case hp => exact (Reps.one (show Kd.M (Kd.int .u8) _ _ _ ((a0_6) % 256) [.int .u8 ((a0_6) % 256)] from rfl) (Reps.none _ _)))
   intro v509 w16 ho17 hb hg_ hnew_
   clear hg_ hnew_
   (first | rw [← Ny508.out] at ho17 | (simp only [Int.reduceToNat] at ho17; rw [← Ny508.out] at ho17))
   have n0_ := mk_ (bX ho17 (aC (Short.hB HB)))
   have n1_ := mk_ (bB_ BK507 hb)
   have n2_ := mk_ (aA (Short.hB HB) hb)
   clear BK507 HB
   revert n0_ n1_ n2_
   intro HO510 BK507 HB
   clear hb ho17
   refine hK.out _ _ (k12e_ BK507) (fun hHeld => ?_)
   clear hK K
   refine nrm 8 ?_
   refine one_ (i := 6) (N := some 11) (Steps.Bs 9 127) rfl rfl (cC HT_.out z2_) z5_ (fun K hK => ?_)
   refine goes_ Tryz.func45 z2_ rfl #[.agg #[.int .i64 a0_0, .int .i64 a0_1]] (by rfl) rfl rfl z0_ ?_
   with_reducible refine (bS.calls k a0_0 a0_1 t511 _ A2.out).mono ?_
   rintro e w18 ⟨v512, rfl, ho0, hb⟩
   refine ⟨_, rfl, ?_⟩
   have n0_ := mk_ (R_elder' (ZKR HO510) (R_base ho0) hb)
   have n1_ := mk_ (bX (R_new' ho0 (R_lt (ZKR HO510))) (aC (Short.hB HB)))
   have n2_ := mk_ (bB_ BK507 hb)
   have n3_ := mk_ (aA (Short.hB HB) hb)
   clear HO510 BK507 HB
   revert n0_ n1_ n2_ n3_
   intro HO510 HO513 BK507 HB
   (try clear hb)
   (try clear hb2)
   (try clear hk)
   (try clear hi)
   (try clear ho0)
   refine hK.out _ _ (k12e_ BK507) (fun hHeld => ?_)
   clear hK K
   refine nrm 11 ?_
   exact norm_ (by simp only [putAll, Act.put, List.setIfInBounds_toArray, List.set_cons_zero, List.set_cons_succ]) (hCont (v509, v512) _ ⟨hHeld, (rM_ HO510 (fun _ hk => hk.2)), (rM_ HO513 (fun _ hk => hk.2)), (Short.bK BK507), (Short.hB HB)⟩)
  ·
   skip
   refine goes_ Tryz.func45 z2_ rfl #[.agg #[.int .i64 a0_0, .int .i64 a0_1]] (by rfl) rfl rfl z0_ ?_
   with_reducible refine (bS.calls k a0_0 a0_1 t511 _ A2.out).mono ?_
   rintro e w16 ⟨v512, rfl, ho0, hb⟩
   refine ⟨_, rfl, ?_⟩
   have n0_ := mk_ (bX ho0 (aC (Short.hB HB)))
   have n1_ := mk_ (bB_ BK507 hb)
   have n2_ := mk_ (aA (Short.hB HB) hb)
   clear BK507 HB
   revert n0_ n1_ n2_
   intro HO513 BK507 HB
   (try clear hb)
   (try clear hb2)
   (try clear hk)
   (try clear hi)
   (try clear ho0)
   refine hK.out _ _ (k12e_ BK507) (fun hHeld => ?_)
   clear hK K
   refine nrm 11 ?_
   refine one_ (i := 3) (N := some 8) (Steps.Bs 9 127) rfl rfl (cC HT_.out z2_) z5_ (fun K hK => ?_)
   refine fK (Kd.int .u8) _ 5 ?hg (N := 8) ?hd (xs := ([(a0_6) % 256] : List Int)) (inner := [.int .u8 ((a0_6) % 256)]) (ok := fun _ => True) (okp := fun _ => True) ?hr ?hp (fun _ hk => hk) trivial (Below.refl _ _) (Nat.le_refl _) z6_ ?_; (case hd => rfl); (case hg => rfl); (case hr => first | (go_simp; done) | (go_simp; rfl)); (case hp => exact (Reps.one (show Kd.M (Kd.int .u8) _ _ _ ((a0_6) % 256) [.int .u8 ((a0_6) % 256)] from rfl) (Reps.none _ _)))
   intro v509 w17 ho18 hb hg_ hnew_
   clear hg_ hnew_
   (first | rw [← Ny508.out] at ho18 | (simp only [Int.reduceToNat] at ho18; rw [← Ny508.out] at ho18))
   have n0_ := mk_ (R_elder' (ZKR HO513) (R_base ho18) hb)
   have n1_ := mk_ (bX (R_new' ho18 (R_lt (ZKR HO513))) (aC (Short.hB HB)))
   have n2_ := mk_ (bB_ BK507 hb)
   have n3_ := mk_ (aA (Short.hB HB) hb)
   clear HO513 BK507 HB
   revert n0_ n1_ n2_ n3_
   intro HO513 HO510 BK507 HB
   clear hb ho18
   refine hK.out _ _ (k12e_ BK507) (fun hHeld => ?_)
   clear hK K
   refine nrm 8 ?_
   exact norm_ (by simp only [putAll, Act.put, List.setIfInBounds_toArray, List.set_cons_zero, List.set_cons_succ]) (hCont (v509, v512) _ ⟨hHeld, (rM_ HO510 (fun _ hk => hk.2)), (rM_ HO513 (fun _ hk => hk.2)), (Short.bK BK507), (Short.hB HB)⟩)
 rintro ⟨v509, v512⟩ w19 ⟨hS_, h0_, h1_, h2_, h3_⟩
 have n0_ : Aside0 (Kd.R (Kd.int .u8) 5 w19 w.heap.size (fun k_ => nb_ k_ (v512)) v509 y508) := ⟨h0_⟩
 have n1_ : Aside0 (Kd.R (Kd.int .u8) 5 w19 w.heap.size (fun k_ => nb_ k_ (v509)) v512 t511) := ⟨h1_⟩
 have n2_ : Aside0 (w19.heap[gb507]? = some (.cells #[.int .i64 a0_0, .int .i64 a0_1, .slice A0_2 l0_2.length c0_2, .int .i64 a0_3, .int .i64 a0_4, .int .i64 a0_5, .int .i64 a0_6, .int .i64 a0_7, .string a0_8, .int .i64 a0_9, .slice A0_10 l0_10.length c0_10, .slice A0_11 l0_11.length c0_11] 31 (0, 0))) := ⟨h2_⟩
 have n3_ : Aside0 (Below w.heap.size w w19) := ⟨h3_⟩
 clear BK507 HB
 clear h0_ h1_ h2_ h3_
 revert n0_ n1_ n2_ n3_
 intro HO510 HO513 BK507 HB
 have hHeld : w19.cell? ⟨gb507, 0, none⟩ = some (.int .i64 a0_0) ∧ w19.cell? ⟨gb507, 1, none⟩ = some (.int .i64 a0_1) ∧ w19.cell? ⟨gb507, 2, none⟩ = some (.slice A0_2 l0_2.length c0_2) ∧ w19.cell? ⟨gb507, 3, none⟩ = some (.int .i64 a0_3) ∧ w19.cell? ⟨gb507, 4, none⟩ = some (.int .i64 a0_4) ∧ w19.cell? ⟨gb507, 5, none⟩ = some (.int .i64 a0_5) ∧ w19.cell? ⟨gb507, 6, none⟩ = some (.int .i64 a0_6) ∧ w19.cell? ⟨gb507, 7, none⟩ = some (.int .i64 a0_7) ∧ w19.cell? ⟨gb507, 8, none⟩ = some (.string a0_8) ∧ w19.cell? ⟨gb507, 9, none⟩ = some (.int .i64 a0_9) ∧ w19.cell? ⟨gb507, 10, none⟩ = some (.slice A0_10 l0_10.length c0_10) ∧ w19.cell? ⟨gb507, 11, none⟩ = some (.slice A0_11 l0_11.length c0_11) := hS_
 obtain ⟨Ao21, co21, eo21⟩ := cX HO513.out
 (first | subst eo21 | (injection eo21 with f1_ f2_ f3_; have f4_ := f1_.symm; have f5_ := f3_.symm; clear f1_ f2_ f3_; subst f4_; subst f5_))
 refine norm_ (a' := ?_) ?_ ?_
 rotate_left
 ·
  simp only [putAll, Act.put, List.setIfInBounds_toArray, List.set_cons_zero, List.set_cons_succ]
  rfl
 refine one_ (i := 7) (N := some 12) (Steps.Bs 9 255) rfl rfl (cC HT_.out z2_) z5_ (fun K hK => ?_)
 refine cZ (Kd.int .u8) (w0 := w) w.heap.size (by rfl) (.tmp 8) (.tmp 11) 36 5 (.int .u8 0) 1 rfl Tryz.underlying36 info5 rfl z5_ z4_ v509 y508 t511 _ _ _ (fun k_ => nb_ k_ (.slice Ao21 t511.length co21)) (fun _ => False) rfl rfl ?aO ?aR (fun _ _ h => h) (fun _ h => h.elim) ?aF ?aB ?aS ?aL ?_
 (case aR => exact cX_ (R_reads' HO513.out).2.2)
 (case aB => exact (Short.hB HB))
 (case aF => exact (fun k_ hk => Kd.fresh' (R_lt (ZKR HO513)) k_ hk))
 (case aO => exact (ZKR HO510))
 (case aS => exact (aC (Short.hB HB)))
 (case aL => have := LMc3.out; omega)
 intro v515 w20 ho hb hg hat
 rw [← Ny514.out] at ho
 have n0_ := mk_ (dJ (g := gb507) (o := .cells #[.int .i64 a0_0, .int .i64 a0_1, .slice A0_2 l0_2.length c0_2, .int .i64 a0_3, .int .i64 a0_4, .int .i64 a0_5, .int .i64 a0_6, .int .i64 a0_7, .string a0_8, .int .i64 a0_9, .slice A0_10 l0_10.length c0_10, .slice A0_11 l0_11.length c0_11] 31 (0, 0)) (Short.bK BK507) hg (R_ne HO510.out BK507.out z5_))
 have n1_ := mk_ (dT (ok := (fun _ => True)) (rM_ HO513 (fun _ hk => ⟨trivial, hk⟩)) hg hat)
 have n2_ := mk_ (hb)
 have n3_ := mk_ (ho)
 clear BK507 HO513 HB HO510
 revert n0_ n1_ n2_ n3_
 intro BK507 HO513 HB HO516
 clear ho hb hg hat
 refine hK.out _ _ (k12e_ BK507) (fun hHeld => ?_)
 clear hK K
 refine nrm 12 ?_
 refine tI HT_ 8 3 9 511 ?_
 refine done_ (cE HT_.out z2_) ?_
 try go_wp2
 have n0_ := mk_ (R_drew HO513.out)
 have n1_ := mk_ (R_drew HO516.out)
 have n2_ := mk_ (aH BK507.out)
 have n3_ := mk_ (dG HB.out)
 clear HO513 HO516 BK507 HB
 revert n0_ n1_ n2_ n3_
 intro HO513 HO516 BK507 HB
 refine fM (n := 10) (S := fun w' => w'.cell? ⟨gb507, 0, none⟩ = some (.int .i64 a0_0) ∧ w'.cell? ⟨gb507, 1, none⟩ = some (.int .i64 a0_1) ∧ w'.cell? ⟨gb507, 2, none⟩ = some (.slice A0_2 l0_2.length c0_2) ∧ w'.cell? ⟨gb507, 3, none⟩ = some (.int .i64 a0_3) ∧ w'.cell? ⟨gb507, 4, none⟩ = some (.int .i64 a0_4) ∧ w'.cell? ⟨gb507, 5, none⟩ = some (.int .i64 a0_5) ∧ w'.cell? ⟨gb507, 6, none⟩ = some (.int .i64 a0_6) ∧ w'.cell? ⟨gb507, 7, none⟩ = some (.int .i64 a0_7) ∧ w'.cell? ⟨gb507, 8, none⟩ = some (.string a0_8) ∧ w'.cell? ⟨gb507, 9, none⟩ = some (.int .i64 a0_9) ∧ w'.cell? ⟨gb507, 10, none⟩ = some (.slice A0_10 l0_10.length c0_10) ∧ w'.cell? ⟨gb507, 11, none⟩ = some (.slice A0_11 l0_11.length c0_11)) (ds := []) (Steps.Bs 10 0) z2_ rfl rfl (k12e_ BK507) (fun hHeld => ?_); refine dA aM.tab2 aM.bits2 (fun HT_ HW_ => ?_)
 generalize w20.drew = w22 at HO513 HO516 BK507 HB hHeld ⊢
 refine tI HT_ 0 13 10 1 ?_
 refine tI HT_ 1 14 10 3 ?_
 refine tI HT_ 5 18 10 35 ?_
 refine tT HT_ HW_ hHeld 2 15 10 39 ?_
 refine tT HT_ HW_ hHeld 6 19 10 103 ?_
 refine one_ (i := 3) (N := some 16) (Steps.Bs 10 111) rfl rfl (cC HT_.out z2_) z5_ (fun K hK => ?_)
 refine goes_ Tryz.func46 z2_ rfl #[.slice A0_2 l0_2.length c0_2] (by rfl) rfl rfl z0_ ?_
 with_reducible refine (bM.calls k _ _ l0_2 t517 _ ?side1 ?side2 A4.out).mono ?_
 (case side1 => exact cX_ (aV HR0_2.out HB.out))
 (case side2 => exact HC0_2.out)
 rintro e w23 ⟨v518, rfl, ho0, hb⟩
 refine ⟨_, rfl, ?_⟩
 have n0_ := mk_ (R_elder' (ZKR HO513) (R_base ho0) hb)
 have n1_ := mk_ (R_elder' (ZKR HO516) (R_base ho0) hb)
 have n2_ := mk_ (bX (R_new' (R_new' ho0 (R_lt (ZKR HO513))) (R_lt (ZKR HO516))) (aC (Short.hB HB)))
 have n3_ := mk_ (bB_ BK507 hb)
 have n4_ := mk_ (aA (Short.hB HB) hb)
 clear HO513 HO516 BK507 HB
 revert n0_ n1_ n2_ n3_ n4_
 intro HO513 HO516 HO519 BK507 HB
 (try clear hb)
 (try clear hb2)
 (try clear hk)
 (try clear hi)
 (try clear ho0)
 obtain ⟨Ao25, co25, eo25⟩ := cX HO519.out
 (first | subst eo25 | (injection eo25 with f1_ f2_ f3_; have f4_ := f1_.symm; have f5_ := f3_.symm; clear f1_ f2_ f3_; subst f4_; subst f5_))
 refine hK.out _ _ (k12e_ BK507) (fun hHeld => ?_)
 clear hK K
 refine nrm 16 ?_
 refine one_ (i := 4) (N := some 17) (Steps.Bs 10 127) rfl rfl (cC HT_.out z2_) z5_ (fun K hK => ?_)
 refine cZ (Kd.int .u8) (w0 := w) w.heap.size (by rfl) (.tmp 13) (.tmp 16) 36 5 (.int .u8 0) 1 rfl Tryz.underlying36 info5 rfl z5_ z4_ v515 y514 t517 _ _ _ (fun k_ => nb_ k_ (.slice Ao21 t511.length co21) ∧ nb_ k_ (.slice Ao25 t517.length co25)) (fun _ => False) rfl rfl ?aO ?aR (fun _ _ h => h) (fun _ h => h.elim) ?aF ?aB ?aS ?aL ?_
 (case aR => exact cX_ (R_reads' HO519.out).2.2)
 (case aB => exact (Short.hB HB))
 (case aF => exact (fun k_ hk => ⟨Kd.fresh' (R_lt (ZKR HO513)) k_ hk, Kd.fresh' (R_lt (ZKR HO519)) k_ hk⟩))
 (case aO => exact (ZKR HO516))
 (case aS => exact (aC (Short.hB HB)))
 (case aL => have := LMc5.out; omega)
 intro v521 w24 ho hb hg hat
 rw [← Ny520.out] at ho
 have n0_ := mk_ (dJ (g := gb507) (o := .cells #[.int .i64 a0_0, .int .i64 a0_1, .slice A0_2 l0_2.length c0_2, .int .i64 a0_3, .int .i64 a0_4, .int .i64 a0_5, .int .i64 a0_6, .int .i64 a0_7, .string a0_8, .int .i64 a0_9, .slice A0_10 l0_10.length c0_10, .slice A0_11 l0_11.length c0_11] 31 (0, 0)) (Short.bK BK507) hg (R_ne HO516.out BK507.out z5_))
 have n1_ := mk_ (dT (ok := (fun k_ => nb_ k_ (.slice Ao25 t517.length co25))) (rM_ HO513 (fun _ hk => ⟨hk.2, hk.1.2⟩)) hg hat)
 have n2_ := mk_ (dT (ok := (fun k_ => nb_ k_ (.slice Ao21 t511.length co21))) (rM_ HO519 (fun _ hk => ⟨hk.1.2, hk.2⟩)) hg hat)
 have n3_ := mk_ (hb)
 have n4_ := mk_ (ho)
 clear BK507 HO513 HO519 HB HO516
 revert n0_ n1_ n2_ n3_ n4_
 intro BK507 HO513 HO519 HB HO522
 clear ho hb hg hat
 refine hK.out _ _ (k12e_ BK507) (fun hHeld => ?_)
 clear hK K
 refine nrm 17 ?_
 refine one_ (i := 7) (N := some 20) (Steps.Bs 10 255) rfl rfl (cC HT_.out z2_) z5_ (fun K hK => ?_)
 refine goes_ Tryz.func47 z2_ rfl #[.agg #[.int .i64 a0_3, .int .i64 a0_4, .int .i64 a0_5]] (by rfl) rfl rfl z0_ ?_
 with_reducible refine (bO.calls k a0_3 a0_4 a0_5 t523 _ A6.out).mono ?_
 rintro e w26 ⟨v524, rfl, ho0, hb⟩
 refine ⟨_, rfl, ?_⟩
 have n0_ := mk_ (R_elder' (ZKR HO513) (R_base ho0) hb)
 have n1_ := mk_ (R_elder' (ZKR HO519) (R_base ho0) hb)
 have n2_ := mk_ (R_elder' (ZKR HO522) (R_base ho0) hb)
 have n3_ := mk_ (bX (R_new' (R_new' (R_new' ho0 (R_lt (ZKR HO513))) (R_lt (ZKR HO519))) (R_lt (ZKR HO522))) (aC (Short.hB HB)))
 have n4_ := mk_ (bB_ BK507 hb)
 have n5_ := mk_ (aA (Short.hB HB) hb)
 clear HO513 HO519 HO522 BK507 HB
 revert n0_ n1_ n2_ n3_ n4_ n5_
 intro HO513 HO519 HO522 HO525 BK507 HB
 (try clear hb)
 (try clear hb2)
 (try clear hk)
 (try clear hi)
 (try clear ho0)
 obtain ⟨Ao28, co28, eo28⟩ := cX HO525.out
 (first | subst eo28 | (injection eo28 with f1_ f2_ f3_; have f4_ := f1_.symm; have f5_ := f3_.symm; clear f1_ f2_ f3_; subst f4_; subst f5_))
 refine hK.out _ _ (k12e_ BK507) (fun hHeld => ?_)
 clear hK K
 refine nrm 20 ?_
 refine one_ (i := 8) (N := some 21) (Steps.Bs 10 511) rfl rfl (cC HT_.out z2_) z5_ (fun K hK => ?_)
 refine cZ (Kd.int .u8) (w0 := w) w.heap.size (by rfl) (.tmp 17) (.tmp 20) 36 5 (.int .u8 0) 1 rfl Tryz.underlying36 info5 rfl z5_ z4_ v521 y520 t523 _ _ _ (fun k_ => nb_ k_ (.slice Ao21 t511.length co21) ∧ nb_ k_ (.slice Ao25 t517.length co25) ∧ nb_ k_ (.slice Ao28 t523.length co28)) (fun _ => False) rfl rfl ?aO ?aR (fun _ _ h => h) (fun _ h => h.elim) ?aF ?aB ?aS ?aL ?_
 (case aR => exact cX_ (R_reads' HO525.out).2.2)
 (case aB => exact (Short.hB HB))
 (case aF => exact (fun k_ hk => ⟨Kd.fresh' (R_lt (ZKR HO513)) k_ hk, Kd.fresh' (R_lt (ZKR HO519)) k_ hk, Kd.fresh' (R_lt (ZKR HO525)) k_ hk⟩))
 (case aO => exact (rM_ HO522 (fun _ hk => ⟨hk.1.1, ⟨hk.1.2, hk.2⟩⟩)))
 (case aS => exact (aC (Short.hB HB)))
 (case aL => have := LMc7.out; omega)
 intro v527 w27 ho hb hg hat
 rw [← Ny526.out] at ho
 have n0_ := mk_ (dJ (g := gb507) (o := .cells #[.int .i64 a0_0, .int .i64 a0_1, .slice A0_2 l0_2.length c0_2, .int .i64 a0_3, .int .i64 a0_4, .int .i64 a0_5, .int .i64 a0_6, .int .i64 a0_7, .string a0_8, .int .i64 a0_9, .slice A0_10 l0_10.length c0_10, .slice A0_11 l0_11.length c0_11] 31 (0, 0)) (Short.bK BK507) hg (R_ne HO522.out BK507.out z5_))
 have n1_ := mk_ (dT (ok := (fun k_ => nb_ k_ (.slice Ao25 t517.length co25) ∧ nb_ k_ (.slice Ao28 t523.length co28))) (rM_ HO513 (fun _ hk => ⟨⟨hk.1.1, hk.2⟩, hk.1.2⟩)) hg hat)
 have n2_ := mk_ (dT (ok := (fun k_ => nb_ k_ (.slice Ao21 t511.length co21) ∧ nb_ k_ (.slice Ao28 t523.length co28))) (rM_ HO519 (fun _ hk => ⟨⟨hk.1.1, hk.2⟩, hk.1.2⟩)) hg hat)
 have n3_ := mk_ (dT (ok := (fun k_ => nb_ k_ (.slice Ao21 t511.length co21) ∧ nb_ k_ (.slice Ao25 t517.length co25))) (rM_ HO525 (fun _ hk => ⟨⟨hk.1.1.2, hk.1.2⟩, hk.2⟩)) hg hat)
 have n4_ := mk_ (hb)
 have n5_ := mk_ (ho)
 clear BK507 HO513 HO519 HO525 HB HO522
 revert n0_ n1_ n2_ n3_ n4_ n5_
 intro BK507 HO513 HO519 HO525 HB HO528
 clear ho hb hg hat
 refine hK.out _ _ (k12e_ BK507) (fun hHeld => ?_)
 clear hK K
 refine nrm 21 ?_
 refine tI HT_ 9 3 10 1023 ?_
 refine done_ (cE HT_.out z2_) ?_
 try go_wp2
 have n0_ := mk_ (R_drew HO513.out)
 have n1_ := mk_ (R_drew HO519.out)
 have n2_ := mk_ (R_drew HO525.out)
 have n3_ := mk_ (R_drew HO528.out)
 have n4_ := mk_ (aH BK507.out)
 have n5_ := mk_ (dG HB.out)
 clear HO513 HO519 HO525 HO528 BK507 HB
 revert n0_ n1_ n2_ n3_ n4_ n5_
 intro HO513 HO519 HO525 HO528 BK507 HB
 refine fM (n := 14) (S := fun w' => w'.cell? ⟨gb507, 0, none⟩ = some (.int .i64 a0_0) ∧ w'.cell? ⟨gb507, 1, none⟩ = some (.int .i64 a0_1) ∧ w'.cell? ⟨gb507, 2, none⟩ = some (.slice A0_2 l0_2.length c0_2) ∧ w'.cell? ⟨gb507, 3, none⟩ = some (.int .i64 a0_3) ∧ w'.cell? ⟨gb507, 4, none⟩ = some (.int .i64 a0_4) ∧ w'.cell? ⟨gb507, 5, none⟩ = some (.int .i64 a0_5) ∧ w'.cell? ⟨gb507, 6, none⟩ = some (.int .i64 a0_6) ∧ w'.cell? ⟨gb507, 7, none⟩ = some (.int .i64 a0_7) ∧ w'.cell? ⟨gb507, 8, none⟩ = some (.string a0_8) ∧ w'.cell? ⟨gb507, 9, none⟩ = some (.int .i64 a0_9) ∧ w'.cell? ⟨gb507, 10, none⟩ = some (.slice A0_10 l0_10.length c0_10) ∧ w'.cell? ⟨gb507, 11, none⟩ = some (.slice A0_11 l0_11.length c0_11)) (ds := []) (Steps.Bs 14 0) z2_ rfl rfl (k12e_ BK507) (fun hHeld => ?_); refine dA aM.tab3 aM.bits3 (fun HT_ HW_ => ?_)
 generalize w27.drew = w29 at HO513 HO519 HO525 HO528 BK507 HB hHeld ⊢
 refine tI HT_ 0 22 14 1 ?_
 refine tI HT_ 1 23 14 3 ?_
 refine tI HT_ 4 26 14 19 ?_
 refine tI HT_ 10 32 14 1043 ?_
 refine tT HT_ HW_ hHeld 2 24 14 1047 ?_
 refine tI HT_ 3 25 14 1055 ?_
 refine tT HT_ HW_ hHeld 5 27 14 1087 ?_
 refine tI HT_ 6 28 14 1151 ?_
 refine tI HT_ 7 29 14 1279 ?_
 refine tT HT_ HW_ hHeld 11 33 14 3327 ?_
 refine one_ (i := 8) (N := some 30) (Steps.Bs 14 3583) rfl rfl (cC HT_.out z2_) z5_ (fun K hK => ?_)
 refine fK (Kd.int .u8) _ 5 ?hg (N := 30) ?hd (xs := ([(a0_7) % 256, ((a0_8.size : Int)) % 256] : List Int)) (inner := [.int .u8 ((a0_7) % 256), .int .u8 (((a0_8.size : Int)) % 256)]) (ok := fun _ => True) (okp := fun _ => True) ?hr ?hp (fun _ hk => hk) trivial (Below.refl _ _) (Nat.le_refl _) z6_ ?_; (case hd => rfl); (case hg => rfl); (case hr => first | (go_simp; done) | (go_simp; rfl)); (case hp => exact (Reps.one (show Kd.M (Kd.int .u8) _ _ _ ((a0_7) % 256) [.int .u8 ((a0_7) % 256)] from rfl) (Reps.one (show Kd.M (Kd.int .u8) _ _ _ (((a0_8.size : Int)) % 256) [.int .u8 (((a0_8.size : Int)) % 256)] from rfl) (Reps.none _ _))))
 intro v530 w30 ho31 hb hg_ hnew_
 clear hg_ hnew_
 (first | rw [← Ny529.out] at ho31 | (simp only [Int.reduceToNat] at ho31; rw [← Ny529.out] at ho31))
 have n0_ := mk_ (R_elder' (ZKR HO513) (R_base ho31) hb)
 have n1_ := mk_ (R_elder' (ZKR HO519) (R_base ho31) hb)
 have n2_ := mk_ (R_elder' (ZKR HO525) (R_base ho31) hb)
 have n3_ := mk_ (R_elder' (ZKR HO528) (R_base ho31) hb)
 have n4_ := mk_ (bX (R_new' (R_new' (R_new' (R_new' ho31 (R_lt (ZKR HO513))) (R_lt (ZKR HO519))) (R_lt (ZKR HO525))) (R_lt (ZKR HO528))) (aC (Short.hB HB)))
 have n5_ := mk_ (bB_ BK507 hb)
 have n6_ := mk_ (aA (Short.hB HB) hb)
 clear HO513 HO519 HO525 HO528 BK507 HB
 revert n0_ n1_ n2_ n3_ n4_ n5_ n6_
 intro HO513 HO519 HO525 HO528 HO531 BK507 HB
 clear hb ho31
 obtain ⟨Ao33, co33, eo33⟩ := cX HO531.out
 (first | subst eo33 | (injection eo33 with f1_ f2_ f3_; have f4_ := f1_.symm; have f5_ := f3_.symm; clear f1_ f2_ f3_; subst f4_; subst f5_))
 refine hK.out _ _ (k12e_ BK507) (fun hHeld => ?_)
 clear hK K
 refine nrm 30 ?_
 refine one_ (i := 9) (N := some 31) (Steps.Bs 14 4095) rfl rfl (cC HT_.out z2_) z5_ (fun K hK => ?_)
 refine cZ (Kd.int .u8) (w0 := w) w.heap.size (by rfl) (.tmp 22) (.tmp 30) 36 5 (.int .u8 0) 1 rfl Tryz.underlying36 info5 rfl z5_ z4_ v527 y526 y529 _ _ _ (fun k_ => nb_ k_ (.slice Ao21 t511.length co21) ∧ nb_ k_ (.slice Ao25 t517.length co25) ∧ nb_ k_ (.slice Ao28 t523.length co28) ∧ nb_ k_ (.slice Ao33 y529.length co33)) (fun _ => False) rfl rfl ?aO ?aR (fun _ _ h => h) (fun _ h => h.elim) ?aF ?aB ?aS ?aL ?_
 (case aR => exact cX_ (R_reads' HO531.out).2.2)
 (case aB => exact (Short.hB HB))
 (case aF => exact (fun k_ hk => ⟨Kd.fresh' (R_lt (ZKR HO513)) k_ hk, Kd.fresh' (R_lt (ZKR HO519)) k_ hk, Kd.fresh' (R_lt (ZKR HO525)) k_ hk, Kd.fresh' (R_lt (ZKR HO531)) k_ hk⟩))
 (case aO => exact (rM_ HO528 (fun _ hk => ⟨hk.1.1, ⟨hk.1.2.1, ⟨hk.1.2.2, hk.2⟩⟩⟩)))
 (case aS => exact (aC (Short.hB HB)))
 (case aL => have := LMc8.out; omega)
 intro v533 w32 ho hb hg hat
 rw [← Ny532.out] at ho
 have n0_ := mk_ (dJ (g := gb507) (o := .cells #[.int .i64 a0_0, .int .i64 a0_1, .slice A0_2 l0_2.length c0_2, .int .i64 a0_3, .int .i64 a0_4, .int .i64 a0_5, .int .i64 a0_6, .int .i64 a0_7, .string a0_8, .int .i64 a0_9, .slice A0_10 l0_10.length c0_10, .slice A0_11 l0_11.length c0_11] 31 (0, 0)) (Short.bK BK507) hg (R_ne HO528.out BK507.out z5_))
 have n1_ := mk_ (dT (ok := (fun k_ => nb_ k_ (.slice Ao25 t517.length co25) ∧ nb_ k_ (.slice Ao28 t523.length co28) ∧ nb_ k_ (.slice Ao33 y529.length co33))) (rM_ HO513 (fun _ hk => ⟨⟨hk.1.1.1, ⟨hk.1.1.2, hk.2⟩⟩, hk.1.2⟩)) hg hat)
 have n2_ := mk_ (dT (ok := (fun k_ => nb_ k_ (.slice Ao21 t511.length co21) ∧ nb_ k_ (.slice Ao28 t523.length co28) ∧ nb_ k_ (.slice Ao33 y529.length co33))) (rM_ HO519 (fun _ hk => ⟨⟨hk.1.1.1, ⟨hk.1.1.2, hk.2⟩⟩, hk.1.2⟩)) hg hat)
 have n3_ := mk_ (dT (ok := (fun k_ => nb_ k_ (.slice Ao21 t511.length co21) ∧ nb_ k_ (.slice Ao25 t517.length co25) ∧ nb_ k_ (.slice Ao33 y529.length co33))) (rM_ HO525 (fun _ hk => ⟨⟨hk.1.1.1, ⟨hk.1.1.2, hk.2⟩⟩, hk.1.2⟩)) hg hat)
 have n4_ := mk_ (dT (ok := (fun k_ => nb_ k_ (.slice Ao21 t511.length co21) ∧ nb_ k_ (.slice Ao25 t517.length co25) ∧ nb_ k_ (.slice Ao28 t523.length co28))) (rM_ HO531 (fun _ hk => ⟨⟨hk.1.1.1.2, ⟨hk.1.1.2, hk.1.2⟩⟩, hk.2⟩)) hg hat)
 have n5_ := mk_ (hb)
 have n6_ := mk_ (ho)
 clear BK507 HO513 HO519 HO525 HO531 HB HO528
 revert n0_ n1_ n2_ n3_ n4_ n5_ n6_
 intro BK507 HO513 HO519 HO525 HO531 HB HO534
 clear ho hb hg hat
 refine hK.out _ _ (k12e_ BK507) (fun hHeld => ?_)
 clear hK K
 refine nrm 31 ?_
 refine one_ (i := 12) (N := some 34) (Steps.Bs 14 8191) rfl rfl (cC HT_.out z2_) z5_ (fun K hK => ?_)
 refine Go.Proofs.YtjnjfogfpmeacaaGreat.Steps.append_str_step (w0 := w) w.heap.size (by rfl) (.tmp 31) _ 36 9 5 rfl Tryz.underlying36 Tryz.underlying9 info5 v533 y532 a0_8 rfl rfl ?aO ?aB ?aS ?aL ?_
 (case aB => exact (Short.hB HB))
 (case aO => exact (Kd.own_of_R (rM_ HO534 (fun _ hk => trivial))))
 (case aS => exact (aC (Short.hB HB)))
 (case aL => have := LMc9.out; omega)
 intro v536 w34 ho0 hb hg
 have ho := R_of_own (h1 := fun _ => rfl) (ok := fun _ => True) ho0 (fun _ _ => trivial)
 clear ho0
 have hat := True.intro
 rw [← Ny535.out] at ho
 change Kd.R (Kd.int .u8) 5 w34 w.heap.size (fun _ => True) v536 y535 at ho
 have n0_ := mk_ (dJ (g := gb507) (o := .cells #[.int .i64 a0_0, .int .i64 a0_1, .slice A0_2 l0_2.length c0_2, .int .i64 a0_3, .int .i64 a0_4, .int .i64 a0_5, .int .i64 a0_6, .int .i64 a0_7, .string a0_8, .int .i64 a0_9, .slice A0_10 l0_10.length c0_10, .slice A0_11 l0_11.length c0_11] 31 (0, 0)) (Short.bK BK507) hg (R_ne HO534.out BK507.out z5_))
 have n1_ := mk_ (hb)
 have n2_ := mk_ (ho)
 clear BK507 HB HO534
 revert n0_ n1_ n2_
 intro BK507 HB HO537
 clear ho hb hg hat
 refine hK.out _ _ (k12e_ BK507) (fun hHeld => ?_)
 clear hK K
 refine nrm 34 ?_
 refine tI HT_ 13 3 14 16383 ?_
 refine done_ (cE HT_.out z2_) ?_
 try go_wp2
 have n0_ := mk_ (R_drew HO537.out)
 have n1_ := mk_ (aH BK507.out)
 have n2_ := mk_ (dG HB.out)
 clear HO537 BK507 HB
 revert n0_ n1_ n2_
 intro HO537 BK507 HB
 refine fM (n := 11) (S := fun w' => w'.cell? ⟨gb507, 0, none⟩ = some (.int .i64 a0_0) ∧ w'.cell? ⟨gb507, 1, none⟩ = some (.int .i64 a0_1) ∧ w'.cell? ⟨gb507, 2, none⟩ = some (.slice A0_2 l0_2.length c0_2) ∧ w'.cell? ⟨gb507, 3, none⟩ = some (.int .i64 a0_3) ∧ w'.cell? ⟨gb507, 4, none⟩ = some (.int .i64 a0_4) ∧ w'.cell? ⟨gb507, 5, none⟩ = some (.int .i64 a0_5) ∧ w'.cell? ⟨gb507, 6, none⟩ = some (.int .i64 a0_6) ∧ w'.cell? ⟨gb507, 7, none⟩ = some (.int .i64 a0_7) ∧ w'.cell? ⟨gb507, 8, none⟩ = some (.string a0_8) ∧ w'.cell? ⟨gb507, 9, none⟩ = some (.int .i64 a0_9) ∧ w'.cell? ⟨gb507, 10, none⟩ = some (.slice A0_10 l0_10.length c0_10) ∧ w'.cell? ⟨gb507, 11, none⟩ = some (.slice A0_11 l0_11.length c0_11)) (ds := []) (Steps.Bs 11 0) z2_ rfl rfl (k12e_ BK507) (fun hHeld => ?_); refine dA aM.tab4 aM.bits4 (fun HT_ HW_ => ?_)
 generalize w34.drew = w35 at HO537 BK507 HB hHeld ⊢
 refine tI HT_ 0 35 11 1 ?_
 refine tI HT_ 1 36 11 3 ?_
 refine tI HT_ 6 41 11 67 ?_
 refine tT HT_ HW_ hHeld 2 37 11 71 ?_
 refine tI HT_ 3 38 11 79 ?_
 refine tT HT_ HW_ hHeld 7 42 11 207 ?_
 refine one_ (i := 4) (N := some 39) (Steps.Bs 11 223) rfl rfl (cC HT_.out z2_) z5_ (fun K hK => ?_)
 refine value_ (w1 := ?_) (v := ?_) (by rfl) rfl ?_ ?_
 rotate_left 2
 ·
  go_simp
  constructor
  ·
   rfl
  ·
   rfl
 refine hK.out _ _ ⟨(aD (aE BK507.out _) 0).trans rfl, (aD (aE BK507.out _) 1).trans rfl, (aD (aE BK507.out _) 2).trans rfl, (aD (aE BK507.out _) 3).trans rfl, (aD (aE BK507.out _) 4).trans rfl, (aD (aE BK507.out _) 5).trans rfl, (aD (aE BK507.out _) 6).trans rfl, (aD (aE BK507.out _) 7).trans rfl, (aD (aE BK507.out _) 8).trans rfl, (aD (aE BK507.out _) 9).trans rfl, (aD (aE BK507.out _) 10).trans rfl, (aD (aE BK507.out _) 11).trans rfl⟩ (fun hHeld => ?_)
 clear hK K
 refine nrm 39 ?_
 refine one_ (i := 5) (N := some 40) (Steps.Bs 11 255) rfl rfl (cC HT_.out z2_) z5_ (fun K hK => ?_)
 refine iJ (Kd.int .u8) (w0 := w) w.heap.size (by rfl) (.tmp 35) (.tmp 39) 36 5 (.int .u8 0) 1 rfl Tryz.underlying36 info5 rfl z5_ z4_ v536 y535 ((a0_9) % 256) [.int .u8 ((a0_9) % 256)] (fun _ => True) (fun _ => False) rfl rfl ?aP (fun _ hk => hk.elim) ?aF ?aO ?aB ?aS ?aL ?_
 (case aP => exact rfl)
 (case aB => exact (Short.hB HB))
 (case aF => exact (fun _ _ => trivial))
 (case aO => exact (ZKR HO537))
 (case aS => exact (aC (Short.hB HB)))
 (case aL => have := LMc10.out; omega)
 intro v539 w36 ho hb hg hat
 rw [← Ny538.out] at ho
 have n0_ := mk_ (dJ (g := gb507) (o := .cells #[.int .i64 a0_0, .int .i64 a0_1, .slice A0_2 l0_2.length c0_2, .int .i64 a0_3, .int .i64 a0_4, .int .i64 a0_5, .int .i64 a0_6, .int .i64 a0_7, .string a0_8, .int .i64 a0_9, .slice A0_10 l0_10.length c0_10, .slice A0_11 l0_11.length c0_11] 31 (0, 0)) (Short.bK BK507) hg (R_ne HO537.out BK507.out z5_))
 have n1_ := mk_ (hb)
 have n2_ := mk_ (ho)
 clear BK507 HB HO537
 revert n0_ n1_ n2_
 intro BK507 HB HO540
 clear ho hb hg hat
 refine hK.out _ _ (k12e_ BK507) (fun hHeld => ?_)
 clear hK K
 refine nrm 40 ?_
 refine one_ (i := 8) (N := some 43) (Steps.Bs 11 511) rfl rfl (cC HT_.out z2_) z5_ (fun K hK => ?_)
 refine goes_ Tryz.func48 z2_ rfl #[.slice A0_10 l0_10.length c0_10] (by rfl) rfl rfl z0_ ?_
 with_reducible refine (bE.calls k _ _ l0_10 t541 _ ?side1 ?side2 A11.out).mono ?_
 (case side1 => exact cX_ (aV HR0_10.out HB.out))
 (case side2 => exact HC0_10.out)
 rintro e w37 ⟨v542, rfl, ho0, hb⟩
 refine ⟨_, rfl, ?_⟩
 have n0_ := mk_ (R_elder' (ZKR HO540) (R_base ho0) hb)
 have n1_ := mk_ (bX (R_new' ho0 (R_lt (ZKR HO540))) (aC (Short.hB HB)))
 have n2_ := mk_ (bB_ BK507 hb)
 have n3_ := mk_ (aA (Short.hB HB) hb)
 clear HO540 BK507 HB
 revert n0_ n1_ n2_ n3_
 intro HO540 HO543 BK507 HB
 (try clear hb)
 (try clear hb2)
 (try clear hk)
 (try clear hi)
 (try clear ho0)
 obtain ⟨Ao39, co39, eo39⟩ := cX HO543.out
 (first | subst eo39 | (injection eo39 with f1_ f2_ f3_; have f4_ := f1_.symm; have f5_ := f3_.symm; clear f1_ f2_ f3_; subst f4_; subst f5_))
 refine hK.out _ _ (k12e_ BK507) (fun hHeld => ?_)
 clear hK K
 refine nrm 43 ?_
 refine one_ (i := 9) (N := some 44) (Steps.Bs 11 1023) rfl rfl (cC HT_.out z2_) z5_ (fun K hK => ?_)
 refine cZ (Kd.int .u8) (w0 := w) w.heap.size (by rfl) (.tmp 40) (.tmp 43) 36 5 (.int .u8 0) 1 rfl Tryz.underlying36 info5 rfl z5_ z4_ v539 y538 t541 _ _ _ (fun k_ => nb_ k_ (.slice Ao39 t541.length co39)) (fun _ => False) rfl rfl ?aO ?aR (fun _ _ h => h) (fun _ h => h.elim) ?aF ?aB ?aS ?aL ?_
 (case aR => exact cX_ (R_reads' HO543.out).2.2)
 (case aB => exact (Short.hB HB))
 (case aF => exact (fun k_ hk => Kd.fresh' (R_lt (ZKR HO543)) k_ hk))
 (case aO => exact (rM_ HO540 (fun _ hk => hk.2)))
 (case aS => exact (aC (Short.hB HB)))
 (case aL => have := LMc12.out; omega)
 intro v545 w38 ho hb hg hat
 rw [← Ny544.out] at ho
 have n0_ := mk_ (dJ (g := gb507) (o := .cells #[.int .i64 a0_0, .int .i64 a0_1, .slice A0_2 l0_2.length c0_2, .int .i64 a0_3, .int .i64 a0_4, .int .i64 a0_5, .int .i64 a0_6, .int .i64 a0_7, .string a0_8, .int .i64 a0_9, .slice A0_10 l0_10.length c0_10, .slice A0_11 l0_11.length c0_11] 31 (0, 0)) (Short.bK BK507) hg (R_ne HO540.out BK507.out z5_))
 have n1_ := mk_ (dT (ok := (fun _ => True)) (ZKR HO543) hg hat)
 have n2_ := mk_ (hb)
 have n3_ := mk_ (ho)
 clear BK507 HO543 HB HO540
 revert n0_ n1_ n2_ n3_
 intro BK507 HO543 HB HO546
 clear ho hb hg hat
 refine hK.out _ _ (k12e_ BK507) (fun hHeld => ?_)
 clear hK K
 refine nrm 44 ?_
 refine tI HT_ 10 3 11 2047 ?_
 refine done_ (cE HT_.out z2_) ?_
 have hcz40_0 : w38.cell? ⟨gb507, 0, none⟩ = some (.int .i64 a0_0) := kc_ BK507 0
 have hcz40_1 : w38.cell? ⟨gb507, 1, none⟩ = some (.int .i64 a0_1) := kc_ BK507 1
 have hcz40_2 : w38.cell? ⟨gb507, 2, none⟩ = some (.slice A0_2 l0_2.length c0_2) := kc_ BK507 2
 have hcz40_3 : w38.cell? ⟨gb507, 3, none⟩ = some (.int .i64 a0_3) := kc_ BK507 3
 have hcz40_4 : w38.cell? ⟨gb507, 4, none⟩ = some (.int .i64 a0_4) := kc_ BK507 4
 have hcz40_5 : w38.cell? ⟨gb507, 5, none⟩ = some (.int .i64 a0_5) := kc_ BK507 5
 have hcz40_6 : w38.cell? ⟨gb507, 6, none⟩ = some (.int .i64 a0_6) := kc_ BK507 6
 have hcz40_7 : w38.cell? ⟨gb507, 7, none⟩ = some (.int .i64 a0_7) := kc_ BK507 7
 have hcz40_8 : w38.cell? ⟨gb507, 8, none⟩ = some (.string a0_8) := kc_ BK507 8
 have hcz40_9 : w38.cell? ⟨gb507, 9, none⟩ = some (.int .i64 a0_9) := kc_ BK507 9
 have hcz40_10 : w38.cell? ⟨gb507, 10, none⟩ = some (.slice A0_10 l0_10.length c0_10) := kc_ BK507 10
 have hcz40_11 : w38.cell? ⟨gb507, 11, none⟩ = some (.slice A0_11 l0_11.length c0_11) := kc_ BK507 11
 have hfz40_0 := aQ BK507.out
 try go_wp2_with (first | ((with_reducible refine cM (b := .append) (xs := #[.tmp 45, .tmp 50]) rfl ?_); at_builtin; refine fR (Kd.int .u8) (w0 := w) w.heap.size rfl (.tmp 45) (.tmp 50) 36 5 (.int .u8 0) 1 rfl Tryz.underlying36 info5 rfl z5_ z4_ v545 y544 (((l0_11.length : Int)) % 256) [.int .u8 (((l0_11.length : Int)) % 256)] (fun k_ => nb_ k_ (.slice Ao39 t541.length co39)) (fun _ => False) rfl rfl ?aP (fun _ hk => hk.elim) ?aF ?aO ?aB ?aS ?aL ?_; (case aP => exact rfl); (case aB => exact (Short.hB HB)); (case aF => exact (fun k_ hk => Kd.fresh' (R_lt (ZKR HO543)) k_ hk)); (case aO => exact (ZKR HO546)); (case aS => exact (aC (Short.hB HB))); (case aL => have := LMc13.out; omega); intro v548 w41 ho hb hg hat; rw [← Ny547.out] at ho; have n0_ := mk_ (dJ (g := gb507) (o := .cells #[.int .i64 a0_0, .int .i64 a0_1, .slice A0_2 l0_2.length c0_2, .int .i64 a0_3, .int .i64 a0_4, .int .i64 a0_5, .int .i64 a0_6, .int .i64 a0_7, .string a0_8, .int .i64 a0_9, .slice A0_10 l0_10.length c0_10, .slice A0_11 l0_11.length c0_11] 31 (0, 0)) (Short.bK BK507) hg (R_ne HO546.out BK507.out z5_)); have n1_ := mk_ (dT (ok := (fun _ => True)) (ZKR HO543) hg hat); have n2_ := mk_ (hb); have n3_ := mk_ (ho); clear BK507 HO543 HB HO546; revert n0_ n1_ n2_ n3_; intro BK507 HO543 HB HO549; clear ho hb hg hat))
 go_loopg [3, 4] k (fun kq v3 v4 w' => ∃ (x3_1 : List Int) (x4_1 : Int), v4 = .int .i64 x4_1 ∧ Aside0 (aM.l0 kq x3_1 x4_1 a0_0 a0_1 l0_2 a0_3 a0_4 a0_5 a0_6 a0_7 a0_8 a0_9 l0_10 l0_11 = some r) ∧ Aside0 (kq ≤ k) ∧ Aside0 (Kd.R (Kd.int .u8) 5 w' w.heap.size (fun _ => True) v3 x3_1) ∧ Aside0 (w'.heap[gb507]? = some (.cells #[.int .i64 a0_0, .int .i64 a0_1, (.slice A0_2 l0_2.length c0_2), .int .i64 a0_3, .int .i64 a0_4, .int .i64 a0_5, .int .i64 a0_6, .int .i64 a0_7, .string a0_8, .int .i64 a0_9, (.slice A0_10 l0_10.length c0_10), (.slice A0_11 l0_11.length c0_11)] 31 (0, 0))) ∧ Aside0 (Below w.heap.size w w'))
 case atStart => exact ⟨(y547), (0), z3_, H', ⟨Nat.le_refl _⟩, ⟨by (with_reducible repeat (first | apply R_alloc | apply R_drewN | apply R_drew)); exact R_mono HO549.out (fun _ hk => trivial)⟩, ⟨by (with_reducible repeat (first | refine aG ?_ _ | refine aH ?_ | refine aE ?_ _)); exact BK507.out⟩, ⟨Short.hB HB⟩⟩
 case round =>
  clear H'
  try clear c1
  try clear p2
  try clear c4
  try clear c5
  try clear c7
  try clear c8
  try clear c9
  try clear c10
  try clear c12
  try clear c13
  try clear hcz40_0
  try clear hcz40_1
  try clear hcz40_10
  try clear hcz40_11
  try clear hcz40_2
  try clear hcz40_3
  try clear hcz40_4
  try clear hcz40_5
  try clear hcz40_6
  try clear hcz40_7
  try clear hcz40_8
  try clear hcz40_9
  try clear hfz40_0
  obtain ⟨x3_1, x4_1, rfl, HA, HK1, HO_3, BK507, HB⟩ := hrel
  cases gk with
  | zero => exact absurd HA.out (by simp [aM.l0])
  | succ k1 =>
   have H := HA.out
   clear HA
   simp only [aM.l0] at H
   by_cases c42 : x4_1 < (l0_11.length : Int)
   rotate_left
   ·
    rw [if_neg c42] at H
    have c42b0 : decide (x4_1 < (l0_11.length : Int)) = false := decide_eq_false c42
    clear c42
    obtain rfl := Option.some.inj H
    have hcz_0 := aD BK507.out
    have hfz_0 := aQ BK507.out
    go_wp2
    go_ret
    exact ⟨_, by first | rfl | (simp [bA, bB] <;> rfl) | (simp [*, bA, bB] <;> rfl), by (with_reducible repeat (first | apply R_alloc | apply R_drewN | apply R_drew)); exact HO_3.out, Short.hB HB⟩
   rw [if_pos c42] at H
   have c42b0 : decide (x4_1 < (l0_11.length : Int)) = true := decide_eq_true c42
   clear c42
   by_cases c43 : 0 ≤ x4_1
   rotate_left
   ·
    rw [if_neg c43] at H
    exact absurd H z6_
   rw [if_pos c43] at H
   have c43b0 : decide (0 ≤ x4_1) = true := decide_eq_true c43
   clear c43
   obtain ⟨t551, A44, H⟩ := Option.bind_eq_some_iff.mp H
   replace A44 := mk_ A44
   by_cases c45 : x3_1.length + t551.length < 140737488355328
   rotate_left
   ·
    rw [if_neg c45] at H
    exact absurd H z6_
   rw [if_pos c45] at H
   have LMc45 := mk_ c45
   clear c45
   obtain ⟨y554, hy554⟩ : ∃ y_ : List Int, y_ = (x3_1 ++ t551) := ⟨_, rfl⟩
   replace H : (aM.l0 k1 y554 (wrap64 (x4_1 + 1)) a0_0 a0_1 l0_2 a0_3 a0_4 a0_5 a0_6 a0_7 a0_8 a0_9 l0_10 l0_11) = some r := by first | (rw [hy554]; with_reducible exact H) | (have H2_ := (Option.bind_some _ _).symm.trans H; rw [hy554]; with_reducible exact H2_) | (have H2_ := (Option.bind_some _ _).symm.trans H; with_reducible exact H2_) | with_reducible exact H | (rw [hy554]; exact H) | exact H
   have Ny554 := mk_ hy554
   clear hy554
   have H' := mk_ H
   clear H
   have hcz_0 := aD BK507.out
   have hfz_0 := aQ BK507.out
   have p550 : 0 ≤ (x4_1 : Int) := of_decide_eq_true z1_
   have q550 : x4_1 < (l0_11.length : Int) := of_decide_eq_true z1_
   obtain ⟨ad550, e550, hx550_0, hx550_1⟩ := fP HR0_11.out x4_1 p550 q550
   cases e550
   replace hx550_0 := up_ HB hx550_0
   replace hx550_1 := up_ HB hx550_1
   replace p550 := eq_true p550
   replace q550 := eq_true q550
   go_wp2_with (first | ((with_reducible refine aJ (f := 45) rfl ?_); refine Short.gL (some 65) Tryz.func45 #[.agg #[.int .i64 ((aT l0_11 x4_1).f0), .int .i64 ((aT l0_11 x4_1).f1)]] (h := ?_); (with_reducible refine (bS.calls k1 ((aT l0_11 x4_1).f0) ((aT l0_11 x4_1).f1) t551 _ A44.out).mono ?_); rintro e w47 ⟨v552, rfl, ho0, hb⟩; refine ⟨_, rfl, ?_⟩; have n0_ := mk_ (R_elder' (ZKR HO_3) (R_base ho0) hb); have n1_ := mk_ (bX (R_new' ho0 (R_lt (ZKR HO_3))) (aC (Short.hB HB))); have n2_ := mk_ (bB_ BK507 hb); have n3_ := mk_ (aA (Short.hB HB) hb); clear HO_3 BK507 HB; revert n0_ n1_ n2_ n3_; intro HO_3 HO553 BK507 HB; (try clear hb ho0); obtain ⟨Ao49, co49, eo49⟩ := cX HO553.out; subst eo49) | ((with_reducible refine cM (b := .append) (xs := #[.tmp 59, .tmp 65]) rfl ?_); at_builtin; refine eD (Kd.int .u8) (w0 := w) w.heap.size rfl (.tmp 59) (.tmp 65) 36 5 (.int .u8 0) 1 rfl Tryz.underlying36 info5 rfl z5_ z4_ u3 x3_1 t551 _ _ _ (fun k_ => nb_ k_ (.slice Ao49 t551.length co49)) (fun _ => False) rfl rfl ?aO ?aR (fun _ _ h => h) (fun _ h => h.elim) ?aF ?aB ?aS ?aL ?_; (case aR => exact cX_ (R_reads' HO553.out).2.2); (case aB => exact (Short.hB HB)); (case aF => exact (fun k_ hk => Kd.fresh' (R_lt (ZKR HO553)) k_ hk)); (case aO => exact (rM_ HO_3 (fun _ hk => hk.2))); (case aS => exact (aC (Short.hB HB))); (case aL => have := LMc45.out; omega); intro v555 w48 ho hb hg hat; rw [← Ny554.out] at ho; have n0_ := mk_ (dJ (g := gb507) (o := .cells #[.int .i64 a0_0, .int .i64 a0_1, .slice A0_2 l0_2.length c0_2, .int .i64 a0_3, .int .i64 a0_4, .int .i64 a0_5, .int .i64 a0_6, .int .i64 a0_7, .string a0_8, .int .i64 a0_9, .slice A0_10 l0_10.length c0_10, .slice (some ad550) l0_11.length c0_11] 31 (0, 0)) (Short.bK BK507) hg (R_ne HO_3.out BK507.out z5_)); have n1_ := mk_ (dT (ok := (fun _ => True)) (ZKR HO553) hg hat); have n2_ := mk_ (hb); have n3_ := mk_ (ho); clear BK507 HO553 HB HO_3; revert n0_ n1_ n2_ n3_; intro BK507 HO553 HB HO556; clear ho hb hg hat))
   go_roundg k1
   case measure => have := HK1.out; omega
   case rel => exact ⟨(y554), (wrap64 (x4_1 + 1)), z3_, H', ⟨by have := HK1.out; omega⟩, ⟨by (with_reducible repeat (first | apply R_alloc | apply R_drewN | apply R_drew)); exact R_mono HO556.out (fun _ hk => trivial)⟩, ⟨by (with_reducible repeat (first | refine aG ?_ _ | refine aH ?_ | refine aE ?_ _)); exact BK507.out⟩, ⟨Short.hB HB⟩⟩
end Go.Proofs.YtjnjfogfpmeacaaGreat.PAll
end
section
namespace Go.Proofs.YtjnjfogfpmeacaaGreat.Plain
open Go.RowKit PrintWords PrintLast PrintMore ZipT PrintWords.Kd PrintMore.Kd
set_option linter.unusedVariables false
set_option linter.unusedSimpArgs false
theorem w64 {x : Int} (h0 : -9223372036854775808 ≤ x) (h1 : x ≤ 9223372036854775807) : wrap64 x = x := by
 unfold wrap64; omega
theorem wu64 {x : Int} (h0 : 0 ≤ x) (h1 : x < 18446744073709551616) : IntKind.u64.wrap x = x := by
 simp [IntKind.wrap, IntKind.bits, IntKind.signed]; omega
theorem wi64 (x : Int) : IntKind.i64.wrap x = wrap64 x := by rw [IntKind.wrap_i64]; unfold wrap64; rfl
def Byte (b : Int) : Prop := 0 ≤ b ∧ b ≤ 255
def Bytes (l : List Int) : Prop := ∀ b ∈ l, Byte b
theorem Bytes.nil : Bytes [] := fun _ h => by cases h
theorem Bytes.cons {b : Int} {l : List Int} (h : Byte b) (k : Bytes l) : Bytes (b :: l) := fun x hx => by
 rcases List.mem_cons.1 hx with rfl | hx
 ·
  exact h
 ·
  exact k x hx
theorem Bytes.head {b : Int} {l : List Int} (h : Bytes (b :: l)) : Byte b := h b List.mem_cons_self
theorem Bytes.tail {b : Int} {l : List Int} (h : Bytes (b :: l)) : Bytes l := fun x hx => h x (List.mem_cons_of_mem _ hx)
theorem Bytes.append {a b : List Int} (h : Bytes a) (k : Bytes b) : Bytes (a ++ b) := fun x hx => by
 rcases List.mem_append.1 hx with hx | hx
 ·
  exact h x hx
 ·
  exact k x hx
theorem Bytes.take {a : List Int} (h : Bytes a) (n : Nat) : Bytes (a.take n) := fun x hx => h x (List.mem_of_mem_take hx)
theorem Bytes.drop {a : List Int} (h : Bytes a) (n : Nat) : Bytes (a.drop n) := fun x hx => h x (List.mem_of_mem_drop hx)
theorem Bytes.rd {l : List Int} (h : Bytes l) (i : Int) : Byte (rd l i) := by
 show Byte (l.getD i.toNat 0)
 rcases Nat.lt_or_ge i.toNat l.length with hi | hi
 ·
  rw [List.getD_eq_getElem?_getD, List.getElem?_eq_getElem hi]; exact h _ (List.getElem_mem hi)
 ·
  rw [List.getD_eq_getElem?_getD, List.getElem?_eq_none hi]; exact ⟨by decide, by decide⟩
def big (n : Int) : Nat → List Int
 | 0 => []
 | s + 1 => (n / 256 ^ s) % 256 :: big n s
def val : Int → List Int → Int
 | a, [] => a
 | a, b :: l => val (a * 256 + b) l
theorem cF (n : Int) (s : Nat) : (big n s).length = s := by
 induction s with
 | zero => rfl
 | succ s ih => simp [big, ih]
theorem fG (n : Int) (s : Nat) : Bytes (big n s) := by
 induction s with
 | zero => exact Bytes.nil
 | succ s ih =>
  refine Bytes.cons ⟨?_, ?_⟩ ih
  ·
   exact Int.emod_nonneg _ z5_
  ·
   have := Int.emod_lt_of_pos (n / 256 ^ s) (show (0 : Int) < 256 by decide); omega
theorem emod_mul' (n a b : Int) (ha : 0 < a) : n % (a * b) = (n / a % b) * a + n % a := by
 have h1 := Int.emod_add_mul_ediv n a
 have h2 := Int.emod_add_mul_ediv (n / a) b
 have h3 : n % (a * b) = n - a * b * (n / (a * b)) := by have := Int.emod_add_mul_ediv n (a * b); omega
 have h4 : n / (a * b) = n / a / b := (Int.ediv_ediv_of_nonneg z4_).symm
 rw [h3, h4]
 have h5 : a * (n / a) = a * (n / a % b) + a * (b * (n / a / b)) := by rw [← Int.mul_add]; exact congrArg (a * ·) h2.symm
 rw [Int.mul_assoc, Int.mul_comm (n / a % b)]
 omega
theorem pow_pos (s : Nat) : (0 : Int) < 256 ^ s := Int.pow_pos z5_
theorem val_big (n : Int) (s : Nat) (a : Int) : val a (big n s) = a * 256 ^ s + n % 256 ^ s := by
 induction s generalizing a with
 | zero => simp [big, val]
 | succ s ih =>
  have hp := pow_pos s
  have h1 : n % 256 ^ (s + 1) = (n / 256 ^ s % 256) * 256 ^ s + n % 256 ^ s := by
   have e : (256 : Int) ^ (s + 1) = 256 ^ s * 256 := Int.pow_succ _ _
   rw [e]; exact emod_mul' _ _ _ hp
  rw [big, val, ih, h1, Int.pow_succ]
  rw [Int.add_mul, Int.mul_assoc, Int.mul_comm 256]
  omega
end Go.Proofs.YtjnjfogfpmeacaaGreat.Plain
end
section
namespace Go.Proofs.YtjnjfogfpmeacaaGreat.PAll
open Go.RowKit PrintWords PrintLast PrintMore ZipT PrintWords.Kd PrintMore.Kd
attribute [local go_sem] eE eG eX eY dQ dP eF eC   -- for this text's walks alone
set_option linter.unusedVariables false
set_option linter.unusedSimpArgs false
def eO.l0 : Nat → Int → List Int → Int → Int → Option (Int)
 | 0, _, _, _, _ => none
 | k + 1, x3, x6, x7, x8 => if x8 < x7 then (if 0 ≤ x8 then (if x8 < (x6.length : Int) then (eO.l0 k (Go.bits .or .u64 (IntKind.u64.wrap (x3 * 256)) (IntKind.u64.wrap (rd x6 x8))) x6 x7 (wrap64 (x8 + 1))) else (none)) else (none)) else (some x3)
def eO.f (k : Nat) (l0 : List Int) : Option (Int) := eO.l0 k 0 l0 (l0.length : Int) 0
theorem eO.calls (k : Nat) (A0 : Option Addr) (c0 : Nat) (l0 : List Int) (r : Int) (w : World) (hr0 : Kd.C (Kd.int .u8) w A0 l0.length l0) (hc0 : l0.length ≤ c0) (h : eO.f k l0 = some r) :
  Calls Tryz.prog 108 #[.slice A0 l0.length c0] w fun e w' => e = .returned (.int .u64 r) ∧ Drawn0 w w' := by
 have HR0 := mk_ hr0
 have HC0 := mk_ hc0
 clear hr0 hc0
 have H : (eO.l0 k 0 l0 (l0.length : Int) 0) = some r := h
 clear h
 have H' := mk_ H
 clear H
 go_enter Tryz.func108, Tryz.ntmps108
 go_wp2
 go_loopg [3, 8] k (fun kq v3 v8 w' => ∃ (x3_1 : Int) (x8_1 : Int), v3 = .int .u64 x3_1 ∧ v8 = .int .i64 x8_1 ∧ Aside0 (eO.l0 kq x3_1 l0 (l0.length : Int) x8_1 = some r) ∧ Aside0 (kq ≤ k) ∧ Drawn0 w w')
 case atStart => exact ⟨(0), (0), z3_, z3_, H', ⟨Nat.le_refl _⟩, by repeat (first | exact Drawn0.refl _ | apply Drawn0.step)⟩
 case round =>
  clear H'
  try clear c1
  obtain ⟨x3_1, x8_1, rfl, rfl, HA, HK1, ⟨m1, rfl⟩⟩ := hrel
  cases gk with
  | zero => exact absurd HA.out (by simp [eO.l0])
  | succ k1 =>
   have H := HA.out
   clear HA
   simp only [eO.l0] at H
   by_cases c2 : x8_1 < (l0.length : Int)
   rotate_left
   ·
    rw [if_neg c2] at H
    have c2b0 : decide (x8_1 < (l0.length : Int)) = false := decide_eq_false c2
    clear c2
    obtain rfl := Option.some.inj H
    go_wp2
    go_ret
    exact ⟨z3_, by repeat (first | exact Drawn0.refl _ | apply Drawn0.step)⟩
   rw [if_pos c2] at H
   have c2b0 : decide (x8_1 < (l0.length : Int)) = true := decide_eq_true c2
   clear c2
   by_cases c3 : 0 ≤ x8_1
   rotate_left
   ·
    rw [if_neg c3] at H
    exact absurd H z6_
   rw [if_pos c3] at H
   have c3b0 : decide (0 ≤ x8_1) = true := decide_eq_true c3
   clear c3
   by_cases c4 : x8_1 < (l0.length : Int)
   rotate_left
   ·
    rw [if_neg c4] at H
    exact absurd H z6_
   rw [if_pos c4] at H
   have c4b0 : decide (x8_1 < (l0.length : Int)) = true := decide_eq_true c4
   clear c4
   have H' := mk_ H
   clear H
   have p369 : 0 ≤ (x8_1 : Int) := of_decide_eq_true z1_
   have q369 : x8_1 < (l0.length : Int) := of_decide_eq_true z1_
   obtain ⟨ad369, e369, hx369_0⟩ := Kd.at_int HR0.out x8_1 p369 q369
   cases e369
   replace p369 := eq_true p369
   replace q369 := eq_true q369
   go_wp2
   go_roundg k1
   case measure => have := HK1.out; omega
   case rel => exact ⟨(Go.bits .or .u64 (IntKind.u64.wrap (x3_1 * 256)) (IntKind.u64.wrap (rd l0 x8_1))), (wrap64 (x8_1 + 1)), z3_, z3_, H', ⟨by have := HK1.out; omega⟩, by repeat (first | exact Drawn0.refl _ | apply Drawn0.step)⟩
def wire_Get.j0 : Nat → List Int → Int → Int → Bool → Option (Int × Int × Int)
 | 0, _, _, _, _ => none
 | k + 1, x0, x1, x2, x9 => if x9 = true then (some (0, 0, 1)) else (if (wrap64 ((x0.length : Int) - x1)) < x2 then (some (0, 0, 3)) else (if 0 ≤ x1 then (if x1 ≤ (wrap64 (x1 + x2)) then (if (wrap64 (x1 + x2)) ≤ (x0.length : Int) then ((eO.f k ((x0.take ((wrap64 (x1 + x2)) : Int).toNat).drop (x1 : Int).toNat)).bind fun t371 => (some (wrap64 (t371), wrap64 (x1 + x2), 0))) else (none)) else (none)) else (none)))
def wire_Get.f (k : Nat) (l0 : List Int) (a1 : Int) (a2 : Int) : Option (Int × Int × Int) := if a2 < 1 then (wire_Get.j0 k l0 a1 a2 true) else (if a2 > 7 then (wire_Get.j0 k l0 a1 a2 true) else (if a1 < 0 then (wire_Get.j0 k l0 a1 a2 true) else (wire_Get.j0 k l0 a1 a2 (decide (a1 > (l0.length : Int))))))
theorem wire_Get.calls (k : Nat) (A0 : Option Addr) (c0 : Nat) (l0 : List Int) (a1 : Int) (a2 : Int) (r1 : Int) (r2 : Int) (r3 : Int) (w : World) (hr0 : Kd.C (Kd.int .u8) w A0 l0.length l0) (hc0 : l0.length ≤ c0) (h : wire_Get.f k l0 a1 a2 = some (r1, r2, r3)) :
  Calls Tryz.prog 91 #[.slice A0 l0.length c0, .int .i64 a1, .int .i64 a2] w fun e w' => e = .returned (.tuple #[.int .i64 r1, .int .i64 r2, .int .i64 r3]) ∧ Drawn0 w w' := by
 have HR0 := mk_ hr0
 have HC0 := mk_ hc0
 clear hr0 hc0
 have H : (if a2 < 1 then (wire_Get.j0 k l0 a1 a2 true) else (if a2 > 7 then (wire_Get.j0 k l0 a1 a2 true) else (if a1 < 0 then (wire_Get.j0 k l0 a1 a2 true) else (wire_Get.j0 k l0 a1 a2 (decide (a1 > (l0.length : Int))))))) = some (r1, r2, r3) := h
 clear h
 have HC4 := mk_ H
 clear H
 go_enter Tryz.func91, Tryz.ntmps91
 go_upto_region 1 with (fail)
 go_cut [9] (fun v9 wc => ∃ (kq : Nat) (x9_3 : Bool), v9 = .bool x9_3 ∧ Aside0 (wire_Get.j0 kq l0 a1 a2 x9_3 = some (r1, r2, r3)) ∧ Aside0 (kq ≤ k) ∧ Drawn0 w wc)
 case first =>
  have H := HC4.out
  clear HC4
  by_cases c5 : a2 < 1
  ·
   rw [if_pos c5] at H
   have c5b0 : decide (a2 < 1) = true := decide_eq_true c5
   clear c5
   (first | rw [c5b0] | (simp only [i64_w, i32_w]; rw [c5b0]) | skip)
   have H' := mk_ H
   clear H
   go_wp2
   go_meet
   case rel => exact ⟨_, (true), z3_, H', ⟨by first | omega | exact Nat.le_refl _⟩, by repeat (first | exact Drawn0.refl _ | apply Drawn0.step)⟩
  rw [if_neg c5] at H
  have c5b0 : decide (a2 < 1) = false := decide_eq_false c5
  clear c5
  (first | rw [c5b0] | (simp only [i64_w, i32_w]; rw [c5b0]) | skip)
  by_cases c6 : a2 > 7
  ·
   rw [if_pos c6] at H
   have c6b0 : decide (7 < a2) = true := decide_eq_true c6
   clear c6
   have H' := mk_ H
   clear H
   go_wp2
   go_meet
   case rel => exact ⟨_, (true), z3_, H', ⟨by first | omega | exact Nat.le_refl _⟩, by repeat (first | exact Drawn0.refl _ | apply Drawn0.step)⟩
  rw [if_neg c6] at H
  have c6b0 : decide (7 < a2) = false := decide_eq_false c6
  clear c6
  by_cases c7 : a1 < 0
  ·
   rw [if_pos c7] at H
   have c7b0 : decide (a1 < 0) = true := decide_eq_true c7
   clear c7
   have H' := mk_ H
   clear H
   go_wp2
   go_meet
   case rel => exact ⟨_, (true), z3_, H', ⟨by first | omega | exact Nat.le_refl _⟩, by repeat (first | exact Drawn0.refl _ | apply Drawn0.step)⟩
  rw [if_neg c7] at H
  have c7b0 : decide (a1 < 0) = false := decide_eq_false c7
  clear c7
  have H' := mk_ H
  clear H
  go_wp2
  go_meet
  case rel => exact ⟨_, (decide (a1 > (l0.length : Int))), z3_, H', ⟨by first | omega | exact Nat.le_refl _⟩, by repeat (first | exact Drawn0.refl _ | apply Drawn0.step)⟩
 case rest => as_aux_lemma =>
  clear HC4
  try clear p2
  try clear c5
  try clear c5b0
  try clear c6
  try clear c6b0
  try clear c7
  try clear c7b0
  obtain ⟨kq, x9_3, rfl, HA, HJ3, ⟨mc3, rfl⟩⟩ := hcut
  cases kq with
  | zero => exact absurd HA.out (by simp [wire_Get.j0])
  | succ kj3 =>
   have H := HA.out
   clear HA
   simp only [wire_Get.j0] at H
   by_cases c8 : x9_3 = true
   ·
    subst c8
    rw [if_pos rfl] at H
    simp only [Option.some.injEq, Prod.mk.injEq] at H
    obtain ⟨rfl, rfl, rfl⟩ := H
    go_wp2
    go_ret3
    exact ⟨z3_, by repeat (first | exact Drawn0.refl _ | apply Drawn0.step)⟩
   ·
    replace c8 := Bool.eq_false_iff.mpr c8
    subst c8
    rw [if_neg (show ¬ (false = true) by decide)] at H
    by_cases c9 : (wrap64 ((l0.length : Int) - a1)) < a2
    ·
     rw [if_pos c9] at H
     have c9b0 : decide ((wrap64 ((l0.length : Int) - a1)) < a2) = true := decide_eq_true c9
     clear c9
     simp only [Option.some.injEq, Prod.mk.injEq] at H
     obtain ⟨rfl, rfl, rfl⟩ := H
     go_wp2
     go_ret3
     exact ⟨z3_, by repeat (first | exact Drawn0.refl _ | apply Drawn0.step)⟩
    ·
     rw [if_neg c9] at H
     have c9b0 : decide ((wrap64 ((l0.length : Int) - a1)) < a2) = false := decide_eq_false c9
     clear c9
     by_cases c10 : 0 ≤ a1
     ·
      rw [if_pos c10] at H
      have c10b0 := eq_true c10
      have c10b1 : decide (0 ≤ a1) = true := decide_eq_true c10
      clear c10
      by_cases c11 : a1 ≤ (wrap64 (a1 + a2))
      ·
       rw [if_pos c11] at H
       have c11b0 := eq_true c11
       have c11b1 : decide (a1 ≤ (wrap64 (a1 + a2))) = true := decide_eq_true c11
       by_cases c12 : (wrap64 (a1 + a2)) ≤ (l0.length : Int)
       ·
        rw [if_pos c12] at H
        have c12b0 := eq_true c12
        have c12b1 : decide ((wrap64 (a1 + a2)) ≤ (l0.length : Int)) = true := decide_eq_true c12
        obtain ⟨t371, A13, H⟩ := Option.bind_eq_some_iff.mp H
        replace A13 := mk_ A13
        simp only [Option.some.injEq, Prod.mk.injEq] at H
        obtain ⟨rfl, rfl, rfl⟩ := H
        obtain ⟨i014, hi014, _, hsz14, _⟩ := info_parts info5
        obtain ⟨A14, hcut14, hA14, hC14⟩ := hO (P := Tryz.prog) (Value.int .u8) 0 36 5 .i64 .i64 Tryz.underlying36 hi014 hsz14 A0 c0 l0 a1 (wrap64 (a1 + a2)) (of_decide_eq_true z1_) (by first | omega | exact of_decide_eq_true z1_) (of_decide_eq_true z1_) HC0.out
        have HR370 := mk_ (iO (h1 := fun _ => rfl) (hA14 _ (Kd.reads_of_C HR0.out)))
        have HC370 := mk_ hC14
        clear hA14 hC14 hi014 hsz14
        go_wp2_with (first | ((with_reducible refine aJ (f := 108) rfl ?_); refine goesL_ (some 39) rfl rfl Tryz.func108 z2_ rfl #[.slice A14 ((l0.take ((wrap64 (a1 + a2)) : Int).toNat).drop (a1 : Int).toNat).length (c0 - a1.toNat)] rfl (by (try simp only [List.map_toArray, List.map_cons, List.map_nil]); first | done | (rw [show ((l0.take ((wrap64 (a1 + a2)) : Int).toNat).drop (a1 : Int).toNat).length = ((wrap64 (a1 + a2)).toNat - a1.toNat) from (by rw [List.length_drop, List.length_take]; have h_ : ((wrap64 (a1 + a2)) : Int) ≤ (l0.length : Int) := of_decide_eq_true z1_; omega)] <;> rfl) | rfl | (simp only [List.length_drop, List.length_take]; rfl) | (go_simp; done) | (simp; done)) ?_; (with_reducible refine (eO.calls kj3 _ _ ((l0.take ((wrap64 (a1 + a2)) : Int).toNat).drop (a1 : Int).toNat) t371 _ ?side1 ?side2 A13.out).mono ?_); (case side1 => repeat (first | exact HR370.out | (with_reducible refine C_alloc ?_ _) | (with_reducible refine C_drewN ?_ _) | (with_reducible refine C_drew ?_))); (case side2 => exact HC370.out); rintro e w' ⟨rfl, ⟨nd, rfl⟩⟩; refine ⟨_, rfl, ?_⟩))
        go_ret3
        exact ⟨z3_, by repeat (first | exact Drawn0.refl _ | apply Drawn0.step)⟩
       ·
        rw [if_neg c12] at H
        exact absurd H z6_
      ·
       rw [if_neg c11] at H
       exact absurd H z6_
     ·
      rw [if_neg c10] at H
      exact absurd H z6_
def wire_GetText.j0 : Nat → List Int → Int → Bool → Option (ByteArray × Int × Int)
 | 0, _, _, _ => none
 | k + 1, x0, x1, x7 => if x7 = true then (some ((⟨#[]⟩ : ByteArray), 0, 1)) else (if x1 = (x0.length : Int) then (some ((⟨#[]⟩ : ByteArray), 0, 3)) else (if 0 ≤ x1 then (if x1 < (x0.length : Int) then (if (wrap64 (rd x0 x1)) > 24 then (some ((⟨#[]⟩ : ByteArray), 0, 3)) else (if (wrap64 ((wrap64 ((x0.length : Int) - x1)) - 1)) < (wrap64 (rd x0 x1)) then (some ((⟨#[]⟩ : ByteArray), 0, 3)) else (if 0 ≤ (wrap64 (x1 + 1)) then (if (wrap64 (x1 + 1)) ≤ (wrap64 ((wrap64 (x1 + 1)) + (wrap64 (rd x0 x1)))) then (if (wrap64 ((wrap64 (x1 + 1)) + (wrap64 (rd x0 x1)))) ≤ (x0.length : Int) then (some (strOfNums ((x0.take ((wrap64 ((wrap64 (x1 + 1)) + (wrap64 (rd x0 x1)))) : Int).toNat).drop ((wrap64 (x1 + 1)) : Int).toNat), wrap64 ((wrap64 (x1 + 1)) + (wrap64 (rd x0 x1))), 0)) else (none)) else (none)) else (none)))) else (none)) else (none)))
def wire_GetText.f (k : Nat) (l0 : List Int) (a1 : Int) : Option (ByteArray × Int × Int) := if a1 < 0 then (wire_GetText.j0 k l0 a1 true) else (wire_GetText.j0 k l0 a1 (decide (a1 > (l0.length : Int))))
theorem wire_GetText.calls (k : Nat) (A0 : Option Addr) (c0 : Nat) (l0 : List Int) (a1 : Int) (r1 : ByteArray) (r2 : Int) (r3 : Int) (w : World) (hr0 : Kd.C (Kd.int .u8) w A0 l0.length l0) (hc0 : l0.length ≤ c0) (h : wire_GetText.f k l0 a1 = some (r1, r2, r3)) :
  Calls Tryz.prog 92 #[.slice A0 l0.length c0, .int .i64 a1] w fun e w' => e = .returned (.tuple #[.string r1, .int .i64 r2, .int .i64 r3]) ∧ Drawn0 w w' := by
 have HR0 := mk_ hr0
 have HC0 := mk_ hc0
 clear hr0 hc0
 have H : (if a1 < 0 then (wire_GetText.j0 k l0 a1 true) else (wire_GetText.j0 k l0 a1 (decide (a1 > (l0.length : Int))))) = some (r1, r2, r3) := h
 clear h
 have HC3 := mk_ H
 clear H
 go_enter Tryz.func92, Tryz.ntmps92
 go_upto_region 1 with (fail)
 go_cut [7] (fun v7 wc => ∃ (kq : Nat) (x7_2 : Bool), v7 = .bool x7_2 ∧ Aside0 (wire_GetText.j0 kq l0 a1 x7_2 = some (r1, r2, r3)) ∧ Aside0 (kq ≤ k) ∧ Drawn0 w wc)
 case first =>
  have H := HC3.out
  clear HC3
  by_cases c4 : a1 < 0
  ·
   rw [if_pos c4] at H
   have c4b0 : decide (a1 < 0) = true := decide_eq_true c4
   clear c4
   (first | rw [c4b0] | (simp only [i64_w, i32_w]; rw [c4b0]) | skip)
   have H' := mk_ H
   clear H
   go_wp2
   go_meet
   case rel => exact ⟨_, (true), z3_, H', ⟨by first | omega | exact Nat.le_refl _⟩, by repeat (first | exact Drawn0.refl _ | apply Drawn0.step)⟩
  rw [if_neg c4] at H
  have c4b0 : decide (a1 < 0) = false := decide_eq_false c4
  clear c4
  (first | rw [c4b0] | (simp only [i64_w, i32_w]; rw [c4b0]) | skip)
  have H' := mk_ H
  clear H
  go_wp2
  go_meet
  case rel => exact ⟨_, (decide (a1 > (l0.length : Int))), z3_, H', ⟨by first | omega | exact Nat.le_refl _⟩, by repeat (first | exact Drawn0.refl _ | apply Drawn0.step)⟩
 case rest => as_aux_lemma =>
  clear HC3
  try clear p2
  try clear c4
  try clear c4b0
  obtain ⟨kq, x7_2, rfl, HA, HJ2, ⟨mc2, rfl⟩⟩ := hcut
  cases kq with
  | zero => exact absurd HA.out (by simp [wire_GetText.j0])
  | succ kj2 =>
   have H := HA.out
   clear HA
   simp only [wire_GetText.j0] at H
   by_cases c5 : x7_2 = true
   ·
    subst c5
    rw [if_pos rfl] at H
    simp only [Option.some.injEq, Prod.mk.injEq] at H
    obtain ⟨rfl, rfl, rfl⟩ := H
    go_wp2
    go_ret3
    exact ⟨z3_, by repeat (first | exact Drawn0.refl _ | apply Drawn0.step)⟩
   ·
    replace c5 := Bool.eq_false_iff.mpr c5
    subst c5
    rw [if_neg (show ¬ (false = true) by decide)] at H
    by_cases c6 : a1 = (l0.length : Int)
    ·
     rw [if_pos c6] at H
     have c6b0 : (a1 == (l0.length : Int)) = true := beq_iff_eq.mpr c6
     have c6b1 : (a1 != (l0.length : Int)) = false := bne_eq_false_iff_eq.mpr c6
     clear c6
     simp only [Option.some.injEq, Prod.mk.injEq] at H
     obtain ⟨rfl, rfl, rfl⟩ := H
     go_wp2
     go_ret3
     exact ⟨z3_, by repeat (first | exact Drawn0.refl _ | apply Drawn0.step)⟩
    ·
     rw [if_neg c6] at H
     have c6b0 : (a1 == (l0.length : Int)) = false := beq_eq_false_iff_ne.mpr c6
     have c6b1 : (a1 != (l0.length : Int)) = true := bne_iff_ne.mpr c6
     by_cases c7 : 0 ≤ a1
     ·
      rw [if_pos c7] at H
      have c7b0 : decide (0 ≤ a1) = true := decide_eq_true c7
      clear c7
      by_cases c8 : a1 < (l0.length : Int)
      ·
       rw [if_pos c8] at H
       have c8b0 : decide (a1 < (l0.length : Int)) = true := decide_eq_true c8
       clear c8
       by_cases c9 : (wrap64 (rd l0 a1)) > 24
       ·
        rw [if_pos c9] at H
        have c9b0 : decide (24 < (wrap64 (rd l0 a1))) = true := decide_eq_true c9
        clear c9
        simp only [Option.some.injEq, Prod.mk.injEq] at H
        obtain ⟨rfl, rfl, rfl⟩ := H
        have p377 : 0 ≤ (a1 : Int) := of_decide_eq_true z1_
        have q377 : a1 < (l0.length : Int) := of_decide_eq_true z1_
        obtain ⟨ad377, e377, hx377_0⟩ := Kd.at_int HR0.out a1 p377 q377
        cases e377
        replace p377 := eq_true p377
        replace q377 := eq_true q377
        go_wp2
        go_ret3
        exact ⟨z3_, by repeat (first | exact Drawn0.refl _ | apply Drawn0.step)⟩
       ·
        rw [if_neg c9] at H
        have c9b0 : decide (24 < (wrap64 (rd l0 a1))) = false := decide_eq_false c9
        clear c9
        by_cases c10 : (wrap64 ((wrap64 ((l0.length : Int) - a1)) - 1)) < (wrap64 (rd l0 a1))
        ·
         rw [if_pos c10] at H
         have c10b0 : decide ((wrap64 ((wrap64 ((l0.length : Int) - a1)) - 1)) < (wrap64 (rd l0 a1))) = true := decide_eq_true c10
         clear c10
         simp only [Option.some.injEq, Prod.mk.injEq] at H
         obtain ⟨rfl, rfl, rfl⟩ := H
         have p377 : 0 ≤ (a1 : Int) := of_decide_eq_true z1_
         have q377 : a1 < (l0.length : Int) := of_decide_eq_true z1_
         obtain ⟨ad377, e377, hx377_0⟩ := Kd.at_int HR0.out a1 p377 q377
         cases e377
         replace p377 := eq_true p377
         replace q377 := eq_true q377
         have p378 : 0 ≤ (a1 : Int) := of_decide_eq_true z1_
         have q378 : a1 < (l0.length : Int) := of_decide_eq_true z1_
         obtain ⟨ad378, e378, hx378_0⟩ := Kd.at_int HR0.out a1 p378 q378
         obtain rfl : ad377 = ad378 := (by injection e378)
         replace p378 := eq_true p378
         replace q378 := eq_true q378
         go_wp2
         go_ret3
         exact ⟨z3_, by repeat (first | exact Drawn0.refl _ | apply Drawn0.step)⟩
        ·
         rw [if_neg c10] at H
         have c10b0 : decide ((wrap64 ((wrap64 ((l0.length : Int) - a1)) - 1)) < (wrap64 (rd l0 a1))) = false := decide_eq_false c10
         clear c10
         obtain ⟨ji11, hji11⟩ : ∃ j_ : Int, (wrap64 (a1 + 1)) = j_ := ⟨_, rfl⟩
         replace H : (if 0 ≤ (ji11) then (if (ji11) ≤ (wrap64 ((ji11) + (wrap64 (rd l0 a1)))) then (if (wrap64 ((ji11) + (wrap64 (rd l0 a1)))) ≤ (l0.length : Int) then (some (strOfNums ((l0.take ((wrap64 ((ji11) + (wrap64 (rd l0 a1)))) : Int).toNat).drop ((ji11) : Int).toNat), wrap64 ((ji11) + (wrap64 (rd l0 a1))), 0)) else (none)) else (none)) else (none)) = some (r1, r2, r3) := by first | (rw [hji11] at H; exact H) | (simp only [hji11] at H ⊢; exact H)
         have hji11w : (IntKind.i64.wrap (a1 + 1)) = ji11 := (i64_w _).trans hji11
         by_cases c12 : 0 ≤ (ji11)
         ·
          rw [if_pos c12] at H
          have c12b0 := eq_true c12
          have c12b1 : decide (0 ≤ (ji11)) = true := decide_eq_true c12
          clear c12
          by_cases c13 : (ji11) ≤ (wrap64 ((ji11) + (wrap64 (rd l0 a1))))
          ·
           rw [if_pos c13] at H
           have c13b0 := eq_true c13
           have c13b1 : decide ((ji11) ≤ (wrap64 ((ji11) + (wrap64 (rd l0 a1))))) = true := decide_eq_true c13
           by_cases c14 : (wrap64 ((ji11) + (wrap64 (rd l0 a1)))) ≤ (l0.length : Int)
           ·
            rw [if_pos c14] at H
            have c14b0 := eq_true c14
            have c14b1 : decide ((wrap64 ((ji11) + (wrap64 (rd l0 a1)))) ≤ (l0.length : Int)) = true := decide_eq_true c14
            simp only [Option.some.injEq, Prod.mk.injEq] at H
            obtain ⟨rfl, rfl, rfl⟩ := H
            have p377 : 0 ≤ (a1 : Int) := of_decide_eq_true z1_
            have q377 : a1 < (l0.length : Int) := of_decide_eq_true z1_
            obtain ⟨ad377, e377, hx377_0⟩ := Kd.at_int HR0.out a1 p377 q377
            cases e377
            replace p377 := eq_true p377
            replace q377 := eq_true q377
            have p378 : 0 ≤ (a1 : Int) := of_decide_eq_true z1_
            have q378 : a1 < (l0.length : Int) := of_decide_eq_true z1_
            obtain ⟨ad378, e378, hx378_0⟩ := Kd.at_int HR0.out a1 p378 q378
            obtain rfl : ad377 = ad378 := (by injection e378)
            replace p378 := eq_true p378
            replace q378 := eq_true q378
            have p379 : 0 ≤ (a1 : Int) := of_decide_eq_true z1_
            have q379 : a1 < (l0.length : Int) := of_decide_eq_true z1_
            obtain ⟨ad379, e379, hx379_0⟩ := Kd.at_int HR0.out a1 p379 q379
            obtain rfl : ad377 = ad379 := (by injection e379)
            replace p379 := eq_true p379
            replace q379 := eq_true q379
            obtain ⟨i015, hi015, _, hsz15, _⟩ := info_parts info5
            obtain ⟨A15, hcut15, hA15, hC15⟩ := hO (P := Tryz.prog) (Value.int .u8) 0 36 5 .i64 .i64 Tryz.underlying36 hi015 hsz15 (some ad377) c0 l0 (ji11) (wrap64 ((ji11) + (wrap64 (rd l0 a1)))) (of_decide_eq_true z1_) (by first | omega | exact of_decide_eq_true z1_) (of_decide_eq_true z1_) HC0.out
            have HR380 := mk_ (iO (h1 := fun _ => rfl) (hA15 _ (Kd.reads_of_C HR0.out)))
            have HC380 := mk_ hC15
            clear hA15 hC15 hi015 hsz15
            have hcv16 := C_string (P := Tryz.prog) (A := A15) (c := (c0 - (ji11).toNat)) Tryz.underlying36 Tryz.underlying5 Tryz.underlying9 HR380.out
            have hcv17 : ∀ (m_ n_ : Nat), n_ = ((l0.take ((wrap64 ((ji11) + (wrap64 (rd l0 a1)))) : Int).toNat).drop ((ji11) : Int).toNat).length → (convert 36 9 (.slice A15 n_ (c0 - (ji11).toNat))).run Tryz.prog (w.drewN m_) = .ok (.string (strOfNums ((l0.take ((wrap64 ((ji11) + (wrap64 (rd l0 a1)))) : Int).toNat).drop ((ji11) : Int).toNat))) (w.drewN m_) := fun m_ n_ h_ => by rw [h_]; exact C_string Tryz.underlying36 Tryz.underlying5 Tryz.underlying9 (C_drewN HR380.out m_)
            go_wp2
            go_ret3
            exact ⟨by first | rfl | (simp; done) | (simp only [← hji11] <;> (first | rfl | simp)) | (simp [*]; done), by repeat (first | exact Drawn0.refl _ | apply Drawn0.step)⟩
           ·
            rw [if_neg c14] at H
            exact absurd H z6_
          ·
           rw [if_neg c13] at H
           exact absurd H z6_
         ·
          rw [if_neg c12] at H
          exact absurd H z6_
      ·
       rw [if_neg c8] at H
       exact absurd H z6_
     ·
      rw [if_neg c7] at H
      exact absurd H z6_
end Go.Proofs.YtjnjfogfpmeacaaGreat.PAll
end
section
namespace Go.Proofs.YtjnjfogfpmeacaaGreat.PAll
open Go.RowKit PrintWords PrintLast PrintMore ZipT PrintWords.Kd PrintMore.Kd
attribute [local go_sem] eE eG eX eY dQ dP eF eC   -- for this text's walks alone
set_option linter.unusedVariables false
set_option linter.unusedSimpArgs false
def bV.f (a0_0 : Int) (a0_1 : Int) (a0_2 : ByteArray) : Option (Int) := if a0_0 = 1 then (if a0_1 = 0 then (if (a0_2.toList = ([] : List UInt8)) then (some 0) else (some 1)) else (some 1)) else (if a0_0 = 2 then (if a0_1 = 0 then (if (a0_2.toList = ([] : List UInt8)) then (some 0) else (some 1)) else (if a0_1 = 1 then (if (a0_2.toList = ([] : List UInt8)) then (some 0) else (some 1)) else (some 1))) else (if a0_0 = 3 then ((eW.f a0_1 1152921504606846976).bind fun t168 => (if t168 = true then (if (a0_2.toList = ([] : List UInt8)) then (some 0) else (some 1)) else (some 1))) else (if a0_0 = 4 then (if a0_1 = 0 then (if ((a0_2.size : Int) ≤ 24) then (some 0) else (some 1)) else (some 1)) else (some 1))))
theorem bV.calls (a0_0 : Int) (a0_1 : Int) (a0_2 : ByteArray) (r : Int) (w : World) (h : bV.f a0_0 a0_1 a0_2 = some r) :
  Calls Tryz.prog 98 #[.agg #[.int .i64 a0_0, .int .i64 a0_1, .string a0_2]] w fun e w' => e = .returned (.int .i64 r) ∧ Below w.heap.size w w' := by
 have hu102 := Tryz.underlying102
 have HB := mk_ (Below.refl w.heap.size w)
 have H : (if a0_0 = 1 then (if a0_1 = 0 then (if (a0_2.toList = ([] : List UInt8)) then (some 0) else (some 1)) else (some 1)) else (if a0_0 = 2 then (if a0_1 = 0 then (if (a0_2.toList = ([] : List UInt8)) then (some 0) else (some 1)) else (if a0_1 = 1 then (if (a0_2.toList = ([] : List UInt8)) then (some 0) else (some 1)) else (some 1))) else (if a0_0 = 3 then ((eW.f a0_1 1152921504606846976).bind fun t168 => (if t168 = true then (if (a0_2.toList = ([] : List UInt8)) then (some 0) else (some 1)) else (some 1))) else (if a0_0 = 4 then (if a0_1 = 0 then (if ((a0_2.size : Int) ≤ 24) then (some 0) else (some 1)) else (some 1)) else (some 1))))) = some r := h
 clear h
 by_cases c2 : a0_0 = 1
 rotate_left
 rw [if_neg c2] at H
 have c2b0 : (a0_0 == 1) = false := beq_eq_false_iff_ne.mpr c2
 have c2b1 : (a0_0 != 1) = true := bne_iff_ne.mpr c2
 by_cases c11 : a0_0 = 2
 rotate_left
 rw [if_neg c11] at H
 have c11b0 : (a0_0 == 2) = false := beq_eq_false_iff_ne.mpr c11
 have c11b1 : (a0_0 != 2) = true := bne_iff_ne.mpr c11
 by_cases c26 : a0_0 = 3
 rotate_left
 rw [if_neg c26] at H
 have c26b0 : (a0_0 == 3) = false := beq_eq_false_iff_ne.mpr c26
 have c26b1 : (a0_0 != 3) = true := bne_iff_ne.mpr c26
 by_cases c36 : a0_0 = 4
 rotate_left
 rw [if_neg c36] at H
 have c36b0 : (a0_0 == 4) = false := beq_eq_false_iff_ne.mpr c36
 have c36b1 : (a0_0 != 4) = true := bne_iff_ne.mpr c36
 obtain rfl := Option.some.inj H
 rotate_right
 rw [if_pos c36] at H
 have c36b0 : (a0_0 == 4) = true := beq_iff_eq.mpr c36
 have c36b1 : (a0_0 != 4) = false := bne_eq_false_iff_eq.mpr c36
 clear c36
 by_cases c37 : a0_1 = 0
 rotate_left
 rw [if_neg c37] at H
 have c37b0 : (a0_1 == 0) = false := beq_eq_false_iff_ne.mpr c37
 have c37b1 : (a0_1 != 0) = true := bne_iff_ne.mpr c37
 obtain rfl := Option.some.inj H
 rotate_right
 rw [if_pos c37] at H
 have c37b0 : (a0_1 == 0) = true := beq_iff_eq.mpr c37
 have c37b1 : (a0_1 != 0) = false := bne_eq_false_iff_eq.mpr c37
 clear c37
 by_cases c38 : ((a0_2.size : Int) ≤ 24)
 rotate_left
 rw [if_neg c38] at H
 have c38b0 : decide ((a0_2.size : Int) ≤ 24) = false := decide_eq_false c38
 have c38b1 : decide (a0_2.size ≤ 24) = false := decide_eq_false z4_
 clear c38
 obtain rfl := Option.some.inj H
 rotate_right
 rw [if_pos c38] at H
 have c38b0 : decide ((a0_2.size : Int) ≤ 24) = true := decide_eq_true c38
 have c38b1 : decide (a0_2.size ≤ 24) = true := decide_eq_true z4_
 clear c38
 obtain rfl := Option.some.inj H
 rotate_right
 rw [if_pos c26] at H
 have c26b0 : (a0_0 == 3) = true := beq_iff_eq.mpr c26
 have c26b1 : (a0_0 != 3) = false := bne_eq_false_iff_eq.mpr c26
 clear c26
 obtain ⟨t168, A27, H⟩ := Option.bind_eq_some_iff.mp H
 replace A27 := mk_ A27
 by_cases c28 : t168 = true
 rotate_left
 replace c28 := Bool.eq_false_iff.mpr c28
 subst c28
 rw [if_neg (show ¬ (false = true) by decide)] at H
 obtain rfl := Option.some.inj H
 rotate_right
 subst c28
 rw [if_pos rfl] at H
 by_cases c29 : (a0_2.toList = ([] : List UInt8))
 rotate_left
 rw [if_neg c29] at H
 have c29b0 : (a0_2.toList == ([] : List UInt8)) = false := beq_eq_false_iff_ne.mpr c29
 have c29b1 : (a0_2.toList != ([] : List UInt8)) = true := bne_iff_ne.mpr c29
 obtain rfl := Option.some.inj H
 rotate_right
 rw [if_pos c29] at H
 have c29b0 : (a0_2.toList == ([] : List UInt8)) = true := beq_iff_eq.mpr c29
 have c29b1 : (a0_2.toList != ([] : List UInt8)) = false := bne_eq_false_iff_eq.mpr c29
 clear c29
 obtain rfl := Option.some.inj H
 rotate_right
 rw [if_pos c11] at H
 have c11b0 : (a0_0 == 2) = true := beq_iff_eq.mpr c11
 have c11b1 : (a0_0 != 2) = false := bne_eq_false_iff_eq.mpr c11
 clear c11
 by_cases c12 : a0_1 = 0
 rotate_left
 rw [if_neg c12] at H
 have c12b0 : (a0_1 == 0) = false := beq_eq_false_iff_ne.mpr c12
 have c12b1 : (a0_1 != 0) = true := bne_iff_ne.mpr c12
 by_cases c18 : a0_1 = 1
 rotate_left
 rw [if_neg c18] at H
 have c18b0 : (a0_1 == 1) = false := beq_eq_false_iff_ne.mpr c18
 have c18b1 : (a0_1 != 1) = true := bne_iff_ne.mpr c18
 obtain rfl := Option.some.inj H
 rotate_right
 rw [if_pos c18] at H
 have c18b0 : (a0_1 == 1) = true := beq_iff_eq.mpr c18
 have c18b1 : (a0_1 != 1) = false := bne_eq_false_iff_eq.mpr c18
 clear c18
 by_cases c19 : (a0_2.toList = ([] : List UInt8))
 rotate_left
 rw [if_neg c19] at H
 have c19b0 : (a0_2.toList == ([] : List UInt8)) = false := beq_eq_false_iff_ne.mpr c19
 have c19b1 : (a0_2.toList != ([] : List UInt8)) = true := bne_iff_ne.mpr c19
 obtain rfl := Option.some.inj H
 rotate_right
 rw [if_pos c19] at H
 have c19b0 : (a0_2.toList == ([] : List UInt8)) = true := beq_iff_eq.mpr c19
 have c19b1 : (a0_2.toList != ([] : List UInt8)) = false := bne_eq_false_iff_eq.mpr c19
 clear c19
 obtain rfl := Option.some.inj H
 rotate_right
 rw [if_pos c12] at H
 have c12b0 : (a0_1 == 0) = true := beq_iff_eq.mpr c12
 have c12b1 : (a0_1 != 0) = false := bne_eq_false_iff_eq.mpr c12
 clear c12
 by_cases c13 : (a0_2.toList = ([] : List UInt8))
 rotate_left
 rw [if_neg c13] at H
 have c13b0 : (a0_2.toList == ([] : List UInt8)) = false := beq_eq_false_iff_ne.mpr c13
 have c13b1 : (a0_2.toList != ([] : List UInt8)) = true := bne_iff_ne.mpr c13
 obtain rfl := Option.some.inj H
 rotate_right
 rw [if_pos c13] at H
 have c13b0 : (a0_2.toList == ([] : List UInt8)) = true := beq_iff_eq.mpr c13
 have c13b1 : (a0_2.toList != ([] : List UInt8)) = false := bne_eq_false_iff_eq.mpr c13
 clear c13
 obtain rfl := Option.some.inj H
 rotate_right
 rw [if_pos c2] at H
 have c2b0 : (a0_0 == 1) = true := beq_iff_eq.mpr c2
 have c2b1 : (a0_0 != 1) = false := bne_eq_false_iff_eq.mpr c2
 clear c2
 by_cases c3 : a0_1 = 0
 rotate_left
 rw [if_neg c3] at H
 have c3b0 : (a0_1 == 0) = false := beq_eq_false_iff_ne.mpr c3
 have c3b1 : (a0_1 != 0) = true := bne_iff_ne.mpr c3
 obtain rfl := Option.some.inj H
 rotate_right
 rw [if_pos c3] at H
 have c3b0 : (a0_1 == 0) = true := beq_iff_eq.mpr c3
 have c3b1 : (a0_1 != 0) = false := bne_eq_false_iff_eq.mpr c3
 clear c3
 by_cases c4 : (a0_2.toList = ([] : List UInt8))
 rotate_left
 rw [if_neg c4] at H
 have c4b0 : (a0_2.toList == ([] : List UInt8)) = false := beq_eq_false_iff_ne.mpr c4
 have c4b1 : (a0_2.toList != ([] : List UInt8)) = true := bne_iff_ne.mpr c4
 obtain rfl := Option.some.inj H
 rotate_right
 rw [if_pos c4] at H
 have c4b0 : (a0_2.toList == ([] : List UInt8)) = true := beq_iff_eq.mpr c4
 have c4b1 : (a0_2.toList != ([] : List UInt8)) = false := bne_eq_false_iff_eq.mpr c4
 clear c4
 obtain rfl := Option.some.inj H
 all_goals
  go_enter Tryz.func98, Tryz.ntmps98
  go_wp2_with (first | ((with_reducible refine aY (N := 1) rfl ?_); (try (refine fQ (by rfl) ?_; dsimp only)); refine aZ ?hg (N := 1) ?hd (cs := #[.int .i64 a0_0, .int .i64 a0_1, .string a0_2]) (t := 102) ?hr ?_; (case hd => rfl); (case hg => rfl); (case hr => first | (go_simp; done) | (go_simp; rfl)); intro gb167 hg w_1 hbox hb; have n0_ := mk_ (aA (Short.hB HB) hb); have n1_ := mk_ (hbox); have n2_ := mk_ ((by rw [hg]; exact (aC (Short.hB HB)) : w.heap.size ≤ gb167)); have n3_ := mk_ ((by rw [hg]; exact (aC (Short.hB HB)) : w.heap.size ≤ gb167)); clear HB; revert n0_ n1_ n2_ n3_; intro HB BK167 GW167 GE167; clear hb hbox hg; obtain ⟨hcz_0, hcz_1, hcz_2, hfz_0, hfz_1, hfz_2⟩ := Short.c3 BK167.out) | ((with_reducible refine aJ (f := 105) rfl ?_); refine Short.gL (some 35) Tryz.func105 #[.int .i64 a0_1, .int .i64 1152921504606846976] (h := ?_); (with_reducible refine (eW.calls a0_1 1152921504606846976 _ _ A27.out).mono ?_); rintro e w' ⟨rfl, ⟨nd, rfl⟩⟩; refine ⟨_, rfl, ?_⟩))
  go_ret
  exact ⟨q0, Short.hB HB⟩
def gN.f (a0_0 : Int) (a0_1 : Int) (a0_2 : ByteArray) : Option (Bool) := (bV.f a0_0 a0_1 a0_2).bind fun t170 => (some (t170 != 0))
theorem gN.calls (a0_0 : Int) (a0_1 : Int) (a0_2 : ByteArray) (r : Bool) (w : World) (h : gN.f a0_0 a0_1 a0_2 = some r) :
  Calls Tryz.prog 97 #[.agg #[.int .i64 a0_0, .int .i64 a0_1, .string a0_2]] w fun e w' => e = .returned (.bool r) ∧ Below w.heap.size w w' := by
 have hu102 := Tryz.underlying102
 have HB := mk_ (Below.refl w.heap.size w)
 have H : ((bV.f a0_0 a0_1 a0_2).bind fun t170 => (some (t170 != 0))) = some r := h
 clear h
 obtain ⟨t170, A2, H⟩ := Option.bind_eq_some_iff.mp H
 replace A2 := mk_ A2
 obtain rfl := Option.some.inj H
 go_enter Tryz.func97, Tryz.ntmps97
 go_wp2_with (first | ((with_reducible refine aY (N := 1) rfl ?_); refine aZ ?hg (N := 1) ?hd (cs := #[.int .i64 a0_0, .int .i64 a0_1, .string a0_2]) (t := 102) ?hr ?_; (case hd => rfl); (case hg => rfl); (case hr => first | (go_simp; done) | (go_simp; rfl)); intro gb169 hg w3 hbox hb; have n0_ := mk_ (aA (Short.hB HB) hb); have n1_ := mk_ (hbox); have n2_ := mk_ ((by rw [hg]; exact (aC (Short.hB HB)) : w.heap.size ≤ gb169)); have n3_ := mk_ ((by rw [hg]; exact (aC (Short.hB HB)) : w.heap.size ≤ gb169)); clear HB; revert n0_ n1_ n2_ n3_; intro HB BK169 GW169 GE169; clear hb hbox hg; obtain ⟨hcz_0, hcz_1, hcz_2, hfz_0, hfz_1, hfz_2⟩ := Short.c3 BK169.out) | ((with_reducible refine aJ (f := 98) rfl ?_); refine Short.gL (some 4) Tryz.func98 #[.agg #[.int .i64 a0_0, .int .i64 a0_1, .string a0_2]] (h := ?_); (with_reducible refine (bV.calls a0_0 a0_1 a0_2 t170 _ A2.out).mono ?_); rintro e w5 ⟨rfl, hb⟩; refine ⟨_, rfl, ?_⟩; have n0_ := mk_ (bB_ BK169 hb); have n1_ := mk_ (aA (Short.hB HB) hb); clear BK169 HB; revert n0_ n1_; intro BK169 HB; (try clear hb)))
 go_ret
 exact ⟨q0, Short.hB HB⟩
def bN.l0 : Nat → List (S102) → Int → Int → Option (Int)
 | 0, _, _, _ => none
 | k + 1, x0, x7, x8 => if x8 < x7 then (if 0 ≤ x8 then (if x8 < (x0.length : Int) then ((gN.f ((aK x0 x8).f0) ((aK x0 x8).f1) ((aK x0 x8).f2)).bind fun t172 => (if t172 = true then (some x8) else (bN.l0 k x0 x7 (wrap64 (x8 + 1))))) else (none)) else (none)) else (some (-1))
def bN.f (k : Nat) (l0 : List (S102)) (a1 : Unit) : Option (Int) := bN.l0 k l0 (l0.length : Int) 0
theorem bN.calls (k : Nat) (A0 : Option Addr) (c0 : Nat) (l0 : List (S102)) (a1 : Unit) (r : Int) (w : World) (hr0 : Kd.C k102 w A0 l0.length l0) (hc0 : l0.length ≤ c0) (h : bN.f k l0 a1 = some r) :
  Calls Tryz.prog 104 #[.slice A0 l0.length c0, .func (.func 97) #[] #[]] w fun e w' => e = .returned (.int .i64 r) ∧ Below w.heap.size w w' := by
 have hu102 := Tryz.underlying102
 have HR0 := mk_ hr0
 have HC0 := mk_ hc0
 clear hr0 hc0
 have HB := mk_ (Below.refl w.heap.size w)
 have H : (bN.l0 k l0 (l0.length : Int) 0) = some r := h
 clear h
 have H' := mk_ H
 clear H
 go_enter Tryz.func104, Tryz.ntmps104
 go_wp2
 go_loopg [8] k (fun kq v8 w' => ∃ (x8_1 : Int), v8 = .int .i64 x8_1 ∧ Aside0 (bN.l0 kq l0 (l0.length : Int) x8_1 = some r) ∧ Aside0 (kq ≤ k) ∧ Aside0 (Below w.heap.size w w'))
 case atStart => exact ⟨(0), z3_, H', ⟨Nat.le_refl _⟩, ⟨Short.hB HB⟩⟩
 case round =>
  clear H'
  try clear p2
  obtain ⟨x8_1, rfl, HA, HK1, HB⟩ := hrel
  cases gk with
  | zero => exact absurd HA.out (by simp [bN.l0])
  | succ k1 =>
   have H := HA.out
   clear HA
   simp only [bN.l0] at H
   by_cases c3 : x8_1 < (l0.length : Int)
   rotate_left
   ·
    rw [if_neg c3] at H
    have c3b0 : decide (x8_1 < (l0.length : Int)) = false := decide_eq_false c3
    clear c3
    obtain rfl := Option.some.inj H
    go_wp2
    go_ret
    exact ⟨q0, Short.hB HB⟩
   rw [if_pos c3] at H
   have c3b0 : decide (x8_1 < (l0.length : Int)) = true := decide_eq_true c3
   clear c3
   by_cases c4 : 0 ≤ x8_1
   rotate_left
   ·
    rw [if_neg c4] at H
    exact absurd H z6_
   rw [if_pos c4] at H
   have c4b0 : decide (0 ≤ x8_1) = true := decide_eq_true c4
   clear c4
   by_cases c5 : x8_1 < (l0.length : Int)
   rotate_left
   ·
    rw [if_neg c5] at H
    exact absurd H z6_
   rw [if_pos c5] at H
   have c5b0 : decide (x8_1 < (l0.length : Int)) = true := decide_eq_true c5
   clear c5
   obtain ⟨t172, A6, H⟩ := Option.bind_eq_some_iff.mp H
   replace A6 := mk_ A6
   by_cases c7 : t172 = true
   ·
    subst c7
    rw [if_pos rfl] at H
    obtain rfl := Option.some.inj H
    have p171 : 0 ≤ (x8_1 : Int) := of_decide_eq_true z1_
    have q171 : x8_1 < (l0.length : Int) := of_decide_eq_true z1_
    obtain ⟨ad171, e171, hx171_0, hx171_1, hx171_2⟩ := fI HR0.out x8_1 p171 q171
    cases e171
    replace hx171_0 := up_ HB hx171_0
    replace hx171_1 := up_ HB hx171_1
    replace hx171_2 := up_ HB hx171_2
    replace p171 := eq_true p171
    replace q171 := eq_true q171
    go_wp2_with (first | ((first | ((with_reducible refine aJ (f := 97) rfl ?_); refine Short.gL (some 16) Tryz.func97 #[.agg #[.int .i64 ((aK l0 x8_1).f0), .int .i64 ((aK l0 x8_1).f1), .string ((aK l0 x8_1).f2)]] (h := ?_)) | ((with_reducible refine Go.Proofs.YtjnjfogfpmeacaaGreat.Steps.gate_any rfl ?_); refine Go.Proofs.YtjnjfogfpmeacaaGreat.Steps.goesV_ (some 16) rfl rfl Tryz.func97 z2_ rfl #[.agg #[.int .i64 ((aK l0 x8_1).f0), .int .i64 ((aK l0 x8_1).f1), .string ((aK l0 x8_1).f2)]] rfl (by first | rfl | go_simp) z0_ ?_)); (with_reducible refine (gN.calls ((aK l0 x8_1).f0) ((aK l0 x8_1).f1) ((aK l0 x8_1).f2) true _ A6.out).mono ?_); rintro e w8 ⟨rfl, hb⟩; refine ⟨_, rfl, ?_⟩; have n0_ := mk_ (aA (Short.hB HB) hb); clear HB; revert n0_; intro HB; (try clear hb)))
    go_ret
    exact ⟨q0, Short.hB HB⟩
   replace c7 := Bool.eq_false_iff.mpr c7
   subst c7
   rw [if_neg (show ¬ (false = true) by decide)] at H
   have H' := mk_ H
   clear H
   have p171 : 0 ≤ (x8_1 : Int) := of_decide_eq_true z1_
   have q171 : x8_1 < (l0.length : Int) := of_decide_eq_true z1_
   obtain ⟨ad171, e171, hx171_0, hx171_1, hx171_2⟩ := fI HR0.out x8_1 p171 q171
   cases e171
   replace hx171_0 := up_ HB hx171_0
   replace hx171_1 := up_ HB hx171_1
   replace hx171_2 := up_ HB hx171_2
   replace p171 := eq_true p171
   replace q171 := eq_true q171
   go_wp2_with (first | ((first | ((with_reducible refine aJ (f := 97) rfl ?_); refine Short.gL (some 16) Tryz.func97 #[.agg #[.int .i64 ((aK l0 x8_1).f0), .int .i64 ((aK l0 x8_1).f1), .string ((aK l0 x8_1).f2)]] (h := ?_)) | ((with_reducible refine Go.Proofs.YtjnjfogfpmeacaaGreat.Steps.gate_any rfl ?_); refine Go.Proofs.YtjnjfogfpmeacaaGreat.Steps.goesV_ (some 16) rfl rfl Tryz.func97 z2_ rfl #[.agg #[.int .i64 ((aK l0 x8_1).f0), .int .i64 ((aK l0 x8_1).f1), .string ((aK l0 x8_1).f2)]] rfl (by first | rfl | go_simp) z0_ ?_)); (with_reducible refine (gN.calls ((aK l0 x8_1).f0) ((aK l0 x8_1).f1) ((aK l0 x8_1).f2) false _ A6.out).mono ?_); rintro e w9 ⟨rfl, hb⟩; refine ⟨_, rfl, ?_⟩; have n0_ := mk_ (aA (Short.hB HB) hb); clear HB; revert n0_; intro HB; (try clear hb)))
   go_roundg k1
   case measure => have := HK1.out; omega
   case rel => exact ⟨(wrap64 (x8_1 + 1)), z3_, H', ⟨by have := HK1.out; omega⟩, ⟨Short.hB HB⟩⟩
def cY.f (k : Nat) (l0 : List (S102)) (a1 : Unit) : Option (Bool) := (bN.f k l0 a1).bind fun t173 => (some (decide (t173 ≥ 0)))
theorem cY.calls (k : Nat) (A0 : Option Addr) (c0 : Nat) (l0 : List (S102)) (a1 : Unit) (r : Bool) (w : World) (hr0 : Kd.C k102 w A0 l0.length l0) (hc0 : l0.length ≤ c0) (h : cY.f k l0 a1 = some r) :
  Calls Tryz.prog 86 #[.slice A0 l0.length c0, .func (.func 97) #[] #[]] w fun e w' => e = .returned (.bool r) ∧ Below w.heap.size w w' := by
 have HR0 := mk_ hr0
 have HC0 := mk_ hc0
 clear hr0 hc0
 have HB := mk_ (Below.refl w.heap.size w)
 have H : ((bN.f k l0 a1).bind fun t173 => (some (decide (t173 ≥ 0)))) = some r := h
 clear h
 obtain ⟨t173, A3, H⟩ := Option.bind_eq_some_iff.mp H
 replace A3 := mk_ A3
 obtain rfl := Option.some.inj H
 go_enter Tryz.func86, Tryz.ntmps86
 go_wp2_with (first | ((first | ((with_reducible refine aJ (f := 104) rfl ?_); refine Short.gL (some 7) Tryz.func104 #[.slice A0 l0.length c0, .func (.func 97) #[] #[]] (h := ?_)) | ((with_reducible refine Go.Proofs.YtjnjfogfpmeacaaGreat.Steps.gate_any rfl ?_); refine Go.Proofs.YtjnjfogfpmeacaaGreat.Steps.goesV_ (some 7) rfl rfl Tryz.func104 z2_ rfl #[.slice A0 l0.length c0, .func (.func 97) #[] #[]] rfl (by first | rfl | go_simp) z0_ ?_)); (with_reducible refine (bN.calls k _ _ l0 a1 t173 _ ?side1 ?side2 A3.out).mono ?_); (case side1 => repeat (first | exact HR0.out | (with_reducible refine C_alloc ?_ _) | (with_reducible refine C_drewN ?_ _) | (with_reducible refine C_drew ?_))); (case side2 => exact HC0.out); rintro e w4 ⟨rfl, hb⟩; refine ⟨_, rfl, ?_⟩; have n0_ := mk_ (aA (Short.hB HB) hb); clear HB; revert n0_; intro HB; (try clear hb)))
 go_ret
 exact ⟨q0, Short.hB HB⟩
def gH.f (k : Nat) (l0 : List (S102)) : Option (Int) := if (l0.length : Int) > 12 then (some 2) else ((cY.f k l0 ()).bind fun t174 => (if t174 = true then (some 1) else (some 0)))
theorem gH.calls (k : Nat) (A0 : Option Addr) (c0 : Nat) (l0 : List (S102)) (r : Int) (w : World) (hr0 : Kd.C k102 w A0 l0.length l0) (hc0 : l0.length ≤ c0) (h : gH.f k l0 = some r) :
  Calls Tryz.prog 81 #[.slice A0 l0.length c0] w fun e w' => e = .returned (.int .i64 r) ∧ Below w.heap.size w w' := by
 have HR0 := mk_ hr0
 have HC0 := mk_ hc0
 clear hr0 hc0
 have HB := mk_ (Below.refl w.heap.size w)
 have H : (if (l0.length : Int) > 12 then (some 2) else ((cY.f k l0 ()).bind fun t174 => (if t174 = true then (some 1) else (some 0)))) = some r := h
 clear h
 by_cases c2 : (l0.length : Int) > 12
 rotate_left
 rw [if_neg c2] at H
 have c2b0 : decide (12 < (l0.length : Int)) = false := decide_eq_false c2
 have c2b1 : decide (12 < l0.length) = false := decide_eq_false z4_
 clear c2
 obtain ⟨t174, A3, H⟩ := Option.bind_eq_some_iff.mp H
 replace A3 := mk_ A3
 by_cases c4 : t174 = true
 rotate_left
 replace c4 := Bool.eq_false_iff.mpr c4
 subst c4
 rw [if_neg (show ¬ (false = true) by decide)] at H
 obtain rfl := Option.some.inj H
 rotate_right
 subst c4
 rw [if_pos rfl] at H
 obtain rfl := Option.some.inj H
 rotate_right
 rw [if_pos c2] at H
 have c2b0 : decide (12 < (l0.length : Int)) = true := decide_eq_true c2
 have c2b1 : decide (12 < l0.length) = true := decide_eq_true z4_
 clear c2
 obtain rfl := Option.some.inj H
 all_goals
  go_enter Tryz.func81, Tryz.ntmps81
  go_wp2_with (((with_reducible refine aJ (f := 86) rfl ?_); refine Short.gL (some 9) Tryz.func86 #[.slice A0 l0.length c0, .func (.func 97) #[] #[]] (h := ?_); (with_reducible refine (cY.calls k _ _ l0 () _ _ ?side1 ?side2 A3.out).mono ?_); (case side1 => repeat (first | exact HR0.out | (with_reducible refine C_alloc ?_ _) | (with_reducible refine C_drewN ?_ _) | (with_reducible refine C_drew ?_))); (case side2 => exact HC0.out); rintro e w_9 ⟨rfl, hb⟩; refine ⟨_, rfl, ?_⟩; have n0_ := mk_ (aA (Short.hB HB) hb); clear HB; revert n0_; intro HB; (try clear hb)))
  go_ret
  exact ⟨q0, Short.hB HB⟩
def dH.j0 : Nat → List Int → Int → Bool → Option (List Int × Int)
 | 0, _, _, _ => none
 | k + 1, x0, x1, x12 => if x12 = true then (some (([] : List Int), 1)) else (if x1 < 0 then ((cA.f x0).bind fun t175 => (if t175.length < 140737488355328 then ((dK.f k (t175 ++ [1]) (wrap64 (-x1)) 8).bind fun t181 => (some (t181, 0))) else (none))) else ((cA.f x0).bind fun t184 => (if t184.length < 140737488355328 then ((dK.f k (t184 ++ [0]) x1 8).bind fun t190 => (some (t190, 0))) else (none))))
def dH.f (k : Nat) (l0 : List Int) (a1 : Int) : Option (List Int × Int) := if a1 < (-1152921504606846976) then (dH.j0 k l0 a1 true) else (dH.j0 k l0 a1 (decide (a1 > 1152921504606846976)))
theorem dH.calls (k : Nat) (A0 : Option Addr) (c0 : Nat) (l0 : List Int) (a1 : Int) (r1 : List Int) (r2 : Int) (w : World) (hr0 : Kd.C (Kd.int .u8) w A0 l0.length l0) (hc0 : l0.length ≤ c0) (h : dH.f k l0 a1 = some (r1, r2)) :
  Calls Tryz.prog 99 #[.slice A0 l0.length c0, .int .i64 a1] w fun e w' => ∃ v0_ : Value, e = .returned (.tuple #[v0_, .int .i64 r2]) ∧ Kd.R (Kd.int .u8) 5 w' w.heap.size (fun _ => True) v0_ r1 ∧ Below w.heap.size w w' := by
 have HR0 := mk_ hr0
 have HC0 := mk_ hc0
 clear hr0 hc0
 have HB := mk_ (Below.refl w.heap.size w)
 have H : (if a1 < (-1152921504606846976) then (dH.j0 k l0 a1 true) else (dH.j0 k l0 a1 (decide (a1 > 1152921504606846976)))) = some (r1, r2) := h
 clear h
 have HC3 := mk_ H
 clear H
 go_enter Tryz.func99, Tryz.ntmps99
 go_upto_region 1 with (fail)
 go_cut [12] (fun v12 wc => ∃ (kq : Nat) (x12_2 : Bool), v12 = .bool x12_2 ∧ Aside0 (dH.j0 kq l0 a1 x12_2 = some (r1, r2)) ∧ Aside0 (kq ≤ k) ∧ Aside0 (Below w.heap.size w wc))
 case first =>
  have H := HC3.out
  clear HC3
  by_cases c4 : a1 < (-1152921504606846976)
  ·
   rw [if_pos c4] at H
   have c4b0 : decide (a1 < (-1152921504606846976)) = true := decide_eq_true c4
   clear c4
   (first | rw [c4b0] | (simp only [i64_w, i32_w]; rw [c4b0]) | skip)
   have H' := mk_ H
   clear H
   go_wp2
   go_meet
   case rel => exact ⟨_, (true), z3_, H', ⟨by first | omega | exact Nat.le_refl _⟩, ⟨Short.hB HB⟩⟩
  rw [if_neg c4] at H
  have c4b0 : decide (a1 < (-1152921504606846976)) = false := decide_eq_false c4
  clear c4
  (first | rw [c4b0] | (simp only [i64_w, i32_w]; rw [c4b0]) | skip)
  have H' := mk_ H
  clear H
  go_wp2
  go_meet
  case rel => exact ⟨_, (decide (a1 > 1152921504606846976)), z3_, H', ⟨by first | omega | exact Nat.le_refl _⟩, ⟨Short.hB HB⟩⟩
 case rest => as_aux_lemma =>
  clear HC3
  try clear p2
  try clear c4
  try clear c4b0
  obtain ⟨kq, x12_2, rfl, HA, HJ2, HB⟩ := hcut
  cases kq with
  | zero => exact absurd HA.out (by simp [dH.j0])
  | succ kj2 =>
   have H := HA.out
   clear HA
   simp only [dH.j0] at H
   by_cases c5 : x12_2 = true
   ·
    subst c5
    rw [if_pos rfl] at H
    simp only [Option.some.injEq, Prod.mk.injEq] at H
    obtain ⟨rfl, rfl⟩ := H
    go_wp2
    go_ret2
    exact ⟨_, by first | rfl | (simp [bA, bB] <;> rfl) | (simp [*, bA, bB] <;> rfl), by first | exact R_nil _ _ _ _ _ | exact N_nil _ _ _ _ _ | exact V_nil _ _ _ _ _ | exact Q_nil _ _ _ _ _ | exact S_nil _ _ _ _ _, Short.hB HB⟩
   ·
    replace c5 := Bool.eq_false_iff.mpr c5
    subst c5
    rw [if_neg (show ¬ (false = true) by decide)] at H
    by_cases c6 : a1 < 0
    ·
     rw [if_pos c6] at H
     have c6b0 : decide (a1 < 0) = true := decide_eq_true c6
     clear c6
     obtain ⟨t175, A7, H⟩ := Option.bind_eq_some_iff.mp H
     replace A7 := mk_ A7
     by_cases c8 : t175.length < 140737488355328
     ·
      rw [if_pos c8] at H
      have LMc8 := mk_ c8
      clear c8
      obtain ⟨y178, hy178⟩ : ∃ y_ : List Int, y_ = (t175 ++ [1]) := ⟨_, rfl⟩
      replace H : ((dK.f kj2 y178 (wrap64 (-a1)) 8).bind fun t181 => (some (t181, 0))) = some (r1, r2) := by first | (rw [hy178]; with_reducible exact H) | (have H2_ := (Option.bind_some _ _).symm.trans H; rw [hy178]; with_reducible exact H2_) | (have H2_ := (Option.bind_some _ _).symm.trans H; with_reducible exact H2_) | with_reducible exact H | (rw [hy178]; exact H) | exact H
      have Ny178 := mk_ hy178
      clear hy178
      obtain ⟨t181, A9, H⟩ := Option.bind_eq_some_iff.mp H
      replace A9 := mk_ A9
      simp only [Option.some.injEq, Prod.mk.injEq] at H
      obtain ⟨rfl, rfl⟩ := H
      go_wp2_with (first | ((with_reducible refine aJ (f := 96) rfl ?_); refine Short.gL (some 18) Tryz.func96 #[.slice A0 l0.length c0] (h := ?_); (with_reducible refine (cA.calls _ _ l0 t175 _ ?side1 ?side2 A7.out).mono ?_); (case side1 => exact cX_ (aV HR0.out HB.out)); (case side2 => exact HC0.out); rintro e w10 ⟨v176, rfl, ho0, hb⟩; refine ⟨_, rfl, ?_⟩; have n0_ := mk_ (bX ho0 (aC (Short.hB HB))); have n1_ := mk_ (aA (Short.hB HB) hb); clear HB; revert n0_ n1_; intro HO177 HB; (try clear hb ho0)) | ((with_reducible refine cM (b := .append) (xs := #[.tmp 18, .tmp 20]) rfl ?_); at_builtin; refine fR (Kd.int .u8) (w0 := w) w.heap.size rfl (.tmp 18) (.tmp 20) 36 5 (.int .u8 0) 1 rfl Tryz.underlying36 info5 rfl z5_ z4_ v176 t175 1 [.int .u8 1] (fun _ => True) (fun _ => False) rfl rfl ?aP (fun _ hk => hk.elim) ?aF ?aO ?aB ?aS ?aL ?_; (case aP => exact rfl); (case aB => exact (Short.hB HB)); (case aF => exact (fun _ _ => trivial)); (case aO => exact (ZKR HO177)); (case aS => exact (aC (Short.hB HB))); (case aL => have := LMc8.out; omega); intro v179 w11 ho hb hg hat; rw [← Ny178.out] at ho; have n0_ := mk_ (hb); have n1_ := mk_ (ho); clear HB HO177; revert n0_ n1_; intro HB HO180; clear ho hb hg hat; obtain ⟨Ao12, co12, eo12⟩ := cX HO180.out; subst eo12) | ((with_reducible refine aJ (f := 95) rfl ?_); refine Short.gL (some 23) Tryz.func95 #[.slice Ao12 y178.length co12, .int .i64 (wrap64 (-a1)), .int .i64 8] (h := ?_); (with_reducible refine (dK.calls kj2 _ _ y178 (wrap64 (-a1)) 8 t181 _ ?side1 ?side2 A9.out).mono ?_); (case side1 => exact cX_ (R_reads' HO180.out).2.2); (case side2 => exact (R_reads' HO180.out).2.1); rintro e w13 ⟨v182, rfl, ho0, hb⟩; refine ⟨_, rfl, ?_⟩; have n0_ := mk_ (R_elder' (ZKR HO180) (R_base ho0) hb); have n1_ := mk_ (bX (R_new' ho0 (R_lt (ZKR HO180))) (aC (Short.hB HB))); have n2_ := mk_ (aA (Short.hB HB) hb); clear HO180 HB; revert n0_ n1_ n2_; intro HO180 HO183 HB; (try clear hb ho0)))
      go_ret2
      exact ⟨_, by first | rfl | (simp [bA, bB] <;> rfl) | (simp [*, bA, bB] <;> rfl), by (with_reducible repeat (first | apply R_alloc | apply R_drewN | apply R_drew)); exact R_mono HO183.out (fun _ hk => trivial), Short.hB HB⟩
     ·
      rw [if_neg c8] at H
      exact absurd H z6_
    ·
     rw [if_neg c6] at H
     have c6b0 : decide (a1 < 0) = false := decide_eq_false c6
     clear c6
     obtain ⟨t184, A14, H⟩ := Option.bind_eq_some_iff.mp H
     replace A14 := mk_ A14
     by_cases c15 : t184.length < 140737488355328
     ·
      rw [if_pos c15] at H
      have LMc15 := mk_ c15
      clear c15
      obtain ⟨y187, hy187⟩ : ∃ y_ : List Int, y_ = (t184 ++ [0]) := ⟨_, rfl⟩
      replace H : ((dK.f kj2 y187 a1 8).bind fun t190 => (some (t190, 0))) = some (r1, r2) := by first | (rw [hy187]; with_reducible exact H) | (have H2_ := (Option.bind_some _ _).symm.trans H; rw [hy187]; with_reducible exact H2_) | (have H2_ := (Option.bind_some _ _).symm.trans H; with_reducible exact H2_) | with_reducible exact H | (rw [hy187]; exact H) | exact H
      have Ny187 := mk_ hy187
      clear hy187
      obtain ⟨t190, A16, H⟩ := Option.bind_eq_some_iff.mp H
      replace A16 := mk_ A16
      simp only [Option.some.injEq, Prod.mk.injEq] at H
      obtain ⟨rfl, rfl⟩ := H
      go_wp2_with (first | ((with_reducible refine aJ (f := 96) rfl ?_); refine Short.gL (some 18) Tryz.func96 #[.slice A0 l0.length c0] (h := ?_); (with_reducible refine (cA.calls _ _ l0 t184 _ ?side1 ?side2 A14.out).mono ?_); (case side1 => exact cX_ (aV HR0.out HB.out)); (case side2 => exact HC0.out); rintro e w17 ⟨v185, rfl, ho0, hb⟩; refine ⟨_, rfl, ?_⟩; have n0_ := mk_ (bX ho0 (aC (Short.hB HB))); have n1_ := mk_ (aA (Short.hB HB) hb); clear HB; revert n0_ n1_; intro HO186 HB; (try clear hb ho0)) | ((with_reducible refine cM (b := .append) (xs := #[.tmp 18, .tmp 20]) rfl ?_); at_builtin; refine fR (Kd.int .u8) (w0 := w) w.heap.size rfl (.tmp 18) (.tmp 20) 36 5 (.int .u8 0) 1 rfl Tryz.underlying36 info5 rfl z5_ z4_ v185 t184 0 [.int .u8 0] (fun _ => True) (fun _ => False) rfl rfl ?aP (fun _ hk => hk.elim) ?aF ?aO ?aB ?aS ?aL ?_; (case aP => exact rfl); (case aB => exact (Short.hB HB)); (case aF => exact (fun _ _ => trivial)); (case aO => exact (ZKR HO186)); (case aS => exact (aC (Short.hB HB))); (case aL => have := LMc15.out; omega); intro v188 w18 ho hb hg hat; rw [← Ny187.out] at ho; have n0_ := mk_ (hb); have n1_ := mk_ (ho); clear HB HO186; revert n0_ n1_; intro HB HO189; clear ho hb hg hat; obtain ⟨Ao19, co19, eo19⟩ := cX HO189.out; subst eo19) | ((with_reducible refine aJ (f := 95) rfl ?_); refine Short.gL (some 23) Tryz.func95 #[.slice Ao19 y187.length co19, .int .i64 a1, .int .i64 8] (h := ?_); (with_reducible refine (dK.calls kj2 _ _ y187 a1 8 t190 _ ?side1 ?side2 A16.out).mono ?_); (case side1 => exact cX_ (R_reads' HO189.out).2.2); (case side2 => exact (R_reads' HO189.out).2.1); rintro e w20 ⟨v191, rfl, ho0, hb⟩; refine ⟨_, rfl, ?_⟩; have n0_ := mk_ (R_elder' (ZKR HO189) (R_base ho0) hb); have n1_ := mk_ (bX (R_new' ho0 (R_lt (ZKR HO189))) (aC (Short.hB HB))); have n2_ := mk_ (aA (Short.hB HB) hb); clear HO189 HB; revert n0_ n1_ n2_; intro HO189 HO192 HB; (try clear hb ho0)))
      go_ret2
      exact ⟨_, by first | rfl | (simp [bA, bB] <;> rfl) | (simp [*, bA, bB] <;> rfl), by (with_reducible repeat (first | apply R_alloc | apply R_drewN | apply R_drew)); exact R_mono HO192.out (fun _ hk => trivial), Short.hB HB⟩
     ·
      rw [if_neg c15] at H
      exact absurd H z6_
def gG.f (k : Nat) (a0_0 : Int) (a0_1 : Int) (a0_2 : ByteArray) : Option (List Int × Int) := (bV.f a0_0 a0_1 a0_2).bind fun t194 => (if t194 = 0 then ((some (([(a0_0) % 256] : List Int) : List Int)).bind fun y195 => (if a0_0 = 2 then (if y195.length < 140737488355328 then (some ((y195 ++ [(a0_1) % 256]), 0)) else (none)) else (if a0_0 = 3 then ((dH.f k y195 a0_1).bind fun bt201 => (some (bt201.1, bt201.2))) else (if a0_0 = 4 then ((wire_PutText.f y195 a0_2).bind fun bt205 => (some (bt205.1, bt205.2))) else (some (y195, 0)))))) else (some (([] : List Int), t194)))
theorem gG.calls (k : Nat) (a0_0 : Int) (a0_1 : Int) (a0_2 : ByteArray) (r1 : List Int) (r2 : Int) (w : World) (h : gG.f k a0_0 a0_1 a0_2 = some (r1, r2)) :
  Calls Tryz.prog 82 #[.agg #[.int .i64 a0_0, .int .i64 a0_1, .string a0_2]] w fun e w' => ∃ v0_ : Value, e = .returned (.tuple #[v0_, .int .i64 r2]) ∧ Kd.R (Kd.int .u8) 5 w' w.heap.size (fun _ => True) v0_ r1 ∧ Below w.heap.size w w' := by
 have hu102 := Tryz.underlying102
 have HB := mk_ (Below.refl w.heap.size w)
 have H : ((bV.f a0_0 a0_1 a0_2).bind fun t194 => (if t194 = 0 then ((some (([(a0_0) % 256] : List Int) : List Int)).bind fun y195 => (if a0_0 = 2 then (if y195.length < 140737488355328 then (some ((y195 ++ [(a0_1) % 256]), 0)) else (none)) else (if a0_0 = 3 then ((dH.f k y195 a0_1).bind fun bt201 => (some (bt201.1, bt201.2))) else (if a0_0 = 4 then ((wire_PutText.f y195 a0_2).bind fun bt205 => (some (bt205.1, bt205.2))) else (some (y195, 0)))))) else (some (([] : List Int), t194)))) = some (r1, r2) := h
 clear h
 obtain ⟨t194, A2, H⟩ := Option.bind_eq_some_iff.mp H
 replace A2 := mk_ A2
 by_cases c3 : t194 = 0
 rotate_left
 rw [if_neg c3] at H
 have c3b0 : (t194 == 0) = false := beq_eq_false_iff_ne.mpr c3
 have c3b1 : (t194 != 0) = true := bne_iff_ne.mpr c3
 simp only [Option.some.injEq, Prod.mk.injEq] at H
 obtain ⟨rfl, rfl⟩ := H
 rotate_right
 rw [if_pos c3] at H
 have c3b0 : (t194 == 0) = true := beq_iff_eq.mpr c3
 have c3b1 : (t194 != 0) = false := bne_eq_false_iff_eq.mpr c3
 clear c3
 obtain ⟨y195, hy195⟩ : ∃ y_ : List Int, y_ = (([(a0_0) % 256] : List Int)) := ⟨_, rfl⟩
 replace H : (if a0_0 = 2 then (if y195.length < 140737488355328 then (some ((y195 ++ [(a0_1) % 256]), 0)) else (none)) else (if a0_0 = 3 then ((dH.f k y195 a0_1).bind fun bt201 => (some (bt201.1, bt201.2))) else (if a0_0 = 4 then ((wire_PutText.f y195 a0_2).bind fun bt205 => (some (bt205.1, bt205.2))) else (some (y195, 0))))) = some (r1, r2) := by first | (rw [hy195]; with_reducible exact H) | (have H2_ := (Option.bind_some _ _).symm.trans H; rw [hy195]; with_reducible exact H2_) | (have H2_ := (Option.bind_some _ _).symm.trans H; with_reducible exact H2_) | with_reducible exact H | (rw [hy195]; exact H) | exact H
 have Ny195 := mk_ hy195
 clear hy195
 by_cases c4 : a0_0 = 2
 rotate_left
 rw [if_neg c4] at H
 have c4b0 : (a0_0 == 2) = false := beq_eq_false_iff_ne.mpr c4
 have c4b1 : (a0_0 != 2) = true := bne_iff_ne.mpr c4
 by_cases c14 : a0_0 = 3
 rotate_left
 rw [if_neg c14] at H
 have c14b0 : (a0_0 == 3) = false := beq_eq_false_iff_ne.mpr c14
 have c14b1 : (a0_0 != 3) = true := bne_iff_ne.mpr c14
 by_cases c25 : a0_0 = 4
 rotate_left
 rw [if_neg c25] at H
 have c25b0 : (a0_0 == 4) = false := beq_eq_false_iff_ne.mpr c25
 have c25b1 : (a0_0 != 4) = true := bne_iff_ne.mpr c25
 simp only [Option.some.injEq, Prod.mk.injEq] at H
 obtain ⟨rfl, rfl⟩ := H
 rotate_right
 rw [if_pos c25] at H
 have c25b0 : (a0_0 == 4) = true := beq_iff_eq.mpr c25
 have c25b1 : (a0_0 != 4) = false := bne_eq_false_iff_eq.mpr c25
 clear c25
 obtain ⟨⟨t205, t206⟩, A26, H⟩ := Option.bind_eq_some_iff.mp H
 try dsimp only at H
 replace A26 := mk_ A26
 simp only [Option.some.injEq, Prod.mk.injEq] at H
 obtain ⟨rfl, rfl⟩ := H
 rotate_right
 rw [if_pos c14] at H
 have c14b0 : (a0_0 == 3) = true := beq_iff_eq.mpr c14
 have c14b1 : (a0_0 != 3) = false := bne_eq_false_iff_eq.mpr c14
 clear c14
 obtain ⟨⟨t201, t202⟩, A15, H⟩ := Option.bind_eq_some_iff.mp H
 try dsimp only at H
 replace A15 := mk_ A15
 simp only [Option.some.injEq, Prod.mk.injEq] at H
 obtain ⟨rfl, rfl⟩ := H
 rotate_right
 rw [if_pos c4] at H
 have c4b0 : (a0_0 == 2) = true := beq_iff_eq.mpr c4
 have c4b1 : (a0_0 != 2) = false := bne_eq_false_iff_eq.mpr c4
 clear c4
 by_cases c5 : y195.length < 140737488355328
 rotate_left
 rw [if_neg c5] at H
 exact absurd H z6_
 rotate_right
 rw [if_pos c5] at H
 have LMc5 := mk_ c5
 clear c5
 obtain ⟨y198, hy198⟩ : ∃ y_ : List Int, y_ = (y195 ++ [(a0_1) % 256]) := ⟨_, rfl⟩
 replace H : (some (y198, 0)) = some (r1, r2) := by first | (rw [hy198]; with_reducible exact H) | (have H2_ := (Option.bind_some _ _).symm.trans H; rw [hy198]; with_reducible exact H2_) | (have H2_ := (Option.bind_some _ _).symm.trans H; with_reducible exact H2_) | with_reducible exact H | (rw [hy198]; exact H) | exact H
 have Ny198 := mk_ hy198
 clear hy198
 simp only [Option.some.injEq, Prod.mk.injEq] at H
 obtain ⟨rfl, rfl⟩ := H
 all_goals
  go_enter Tryz.func82, Tryz.ntmps82
  go_wp2_with (first | ((with_reducible refine aY (N := 1) rfl ?_); refine aZ ?hg (N := 1) ?hd (cs := #[.int .i64 a0_0, .int .i64 a0_1, .string a0_2]) (t := 102) ?hr ?_; (case hd => rfl); (case hg => rfl); (case hr => first | (go_simp; done) | (go_simp; rfl)); intro gb193 hg w_1 hbox hb; have n0_ := mk_ (aA (Short.hB HB) hb); have n1_ := mk_ (hbox); have n2_ := mk_ ((by rw [hg]; exact (aC (Short.hB HB)) : w.heap.size ≤ gb193)); have n3_ := mk_ ((by rw [hg]; exact (aC (Short.hB HB)) : w.heap.size ≤ gb193)); clear HB; revert n0_ n1_ n2_ n3_; intro HB BK193 GW193 GE193; clear hb hbox hg; obtain ⟨hcz_0, hcz_1, hcz_2, hfz_0, hfz_1, hfz_2⟩ := Short.c3 BK193.out) | ((with_reducible refine aJ (f := 98) rfl ?_); refine Short.gL (some 7) Tryz.func98 #[.agg #[.int .i64 a0_0, .int .i64 a0_1, .string a0_2]] (h := ?_); (with_reducible refine (bV.calls a0_0 a0_1 a0_2 t194 _ A2.out).mono ?_); rintro e w_7 ⟨rfl, hb⟩; refine ⟨_, rfl, ?_⟩; have n0_ := mk_ (bB_ BK193 hb); have n1_ := mk_ (aA (Short.hB HB) hb); clear BK193 HB; revert n0_ n1_; intro BK193 HB; (try clear hb)) | ((with_reducible refine aJ (f := 98) rfl ?_); refine Short.gL (some 7) Tryz.func98 #[.agg #[.int .i64 a0_0, .int .i64 a0_1, .string a0_2]] (h := ?_); (with_reducible refine (bV.calls a0_0 a0_1 a0_2 t194 _ A2.out).mono ?_); rintro e w_7 ⟨rfl, hb⟩; refine ⟨_, rfl, ?_⟩; have n0_ := mk_ (bB_ BK193 hb); have n1_ := mk_ (aA (Short.hB HB) hb); clear BK193 HB; revert n0_ n1_; intro BK193 HB; (try clear hb); obtain ⟨hcz_0, hcz_1, hcz_2, hfz_0, hfz_1, hfz_2⟩ := Short.c3 BK193.out) | ((with_reducible refine aY (N := 14) rfl ?_); refine R_lit (Kd.int .u8) _ 5 ?hg (N := 14) ?hd (xs := ([(a0_0) % 256] : List Int)) (inner := [.int .u8 ((a0_0) % 256)]) (ok := fun _ => True) (okp := fun _ => True) ?hr ?hp (fun _ hk => hk) trivial (Below.refl _ _) (Nat.le_refl _) z6_ ?_; (case hd => rfl); (case hg => rfl); (case hr => first | (go_simp; done) | (go_simp; rfl)); (case hp => exact (Reps.one (show Kd.M (Kd.int .u8) _ _ _ ((a0_0) % 256) [.int .u8 ((a0_0) % 256)] from rfl) (Reps.none _ _))); intro v196 w_14 ho41 hb hg_ hnew_; clear hg_ hnew_; (first | rw [← Ny195.out] at ho41 | (simp only [Int.reduceToNat] at ho41; rw [← Ny195.out] at ho41)); have n0_ := mk_ (bX ho41 (aC (Short.hB HB))); have n1_ := mk_ (bB_ BK193 hb); have n2_ := mk_ (aA (Short.hB HB) hb); clear BK193 HB; revert n0_ n1_ n2_; intro HO197 BK193 HB; clear hb ho41; obtain ⟨hcz_0, hcz_1, hcz_2, hfz_0, hfz_1, hfz_2⟩ := Short.c3 BK193.out) | ((with_reducible refine aY (N := 14) rfl ?_); refine R_lit (Kd.int .u8) _ 5 ?hg (N := 14) ?hd (xs := ([(a0_0) % 256] : List Int)) (inner := [.int .u8 ((a0_0) % 256)]) (ok := fun _ => True) (okp := fun _ => True) ?hr ?hp (fun _ hk => hk) trivial (Below.refl _ _) (Nat.le_refl _) z6_ ?_; (case hd => rfl); (case hg => rfl); (case hr => first | (go_simp; done) | (go_simp; rfl)); (case hp => exact (Reps.one (show Kd.M (Kd.int .u8) _ _ _ ((a0_0) % 256) [.int .u8 ((a0_0) % 256)] from rfl) (Reps.none _ _))); intro v196 w_14 ho32 hb hg_ hnew_; clear hg_ hnew_; (first | rw [← Ny195.out] at ho32 | (simp only [Int.reduceToNat] at ho32; rw [← Ny195.out] at ho32)); have n0_ := mk_ (bX ho32 (aC (Short.hB HB))); have n1_ := mk_ (bB_ BK193 hb); have n2_ := mk_ (aA (Short.hB HB) hb); clear BK193 HB; revert n0_ n1_ n2_; intro HO197 BK193 HB; clear hb ho32; obtain ⟨hcz_0, hcz_1, hcz_2, hfz_0, hfz_1, hfz_2⟩ := Short.c3 BK193.out; obtain ⟨Ao34, co34, eo34⟩ := cX HO197.out; subst eo34) | ((with_reducible refine aJ (f := 80) rfl ?_); refine Short.gL (some 38) Tryz.func80 #[.slice Ao34 y195.length co34, .string a0_2] (h := ?_); (with_reducible refine (wire_PutText.calls _ _ y195 a0_2 t205 t206 _ ?side1 ?side2 A26.out).mono ?_); (case side1 => exact cX_ (R_reads' HO197.out).2.2); (case side2 => exact (R_reads' HO197.out).2.1); rintro e w_38 ⟨v207, rfl, ho0, hb⟩; refine ⟨_, rfl, ?_⟩; have n0_ := mk_ (R_elder' (ZKR HO197) (R_base ho0) hb); have n1_ := mk_ (bX (R_new' ho0 (R_lt (ZKR HO197))) (aC (Short.hB HB))); have n2_ := mk_ (bB_ BK193 hb); have n3_ := mk_ (aA (Short.hB HB) hb); clear HO197 BK193 HB; revert n0_ n1_ n2_ n3_; intro HO197 HO208 BK193 HB; (try clear hb ho0)) | ((with_reducible refine aY (N := 14) rfl ?_); refine R_lit (Kd.int .u8) _ 5 ?hg (N := 14) ?hd (xs := ([(a0_0) % 256] : List Int)) (inner := [.int .u8 ((a0_0) % 256)]) (ok := fun _ => True) (okp := fun _ => True) ?hr ?hp (fun _ hk => hk) trivial (Below.refl _ _) (Nat.le_refl _) z6_ ?_; (case hd => rfl); (case hg => rfl); (case hr => first | (go_simp; done) | (go_simp; rfl)); (case hp => exact (Reps.one (show Kd.M (Kd.int .u8) _ _ _ ((a0_0) % 256) [.int .u8 ((a0_0) % 256)] from rfl) (Reps.none _ _))); intro v196 w_14 ho21 hb hg_ hnew_; clear hg_ hnew_; (first | rw [← Ny195.out] at ho21 | (simp only [Int.reduceToNat] at ho21; rw [← Ny195.out] at ho21)); have n0_ := mk_ (bX ho21 (aC (Short.hB HB))); have n1_ := mk_ (bB_ BK193 hb); have n2_ := mk_ (aA (Short.hB HB) hb); clear BK193 HB; revert n0_ n1_ n2_; intro HO197 BK193 HB; clear hb ho21; obtain ⟨hcz_0, hcz_1, hcz_2, hfz_0, hfz_1, hfz_2⟩ := Short.c3 BK193.out; obtain ⟨Ao23, co23, eo23⟩ := cX HO197.out; subst eo23) | ((with_reducible refine aJ (f := 99) rfl ?_); refine Short.gL (some 30) Tryz.func99 #[.slice Ao23 y195.length co23, .int .i64 a0_1] (h := ?_); (with_reducible refine (dH.calls k _ _ y195 a0_1 t201 t202 _ ?side1 ?side2 A15.out).mono ?_); (case side1 => exact cX_ (R_reads' HO197.out).2.2); (case side2 => exact (R_reads' HO197.out).2.1); rintro e w_30 ⟨v203, rfl, ho0, hb⟩; refine ⟨_, rfl, ?_⟩; have n0_ := mk_ (R_elder' (ZKR HO197) (R_base ho0) hb); have n1_ := mk_ (bX (R_new' ho0 (R_lt (ZKR HO197))) (aC (Short.hB HB))); have n2_ := mk_ (bB_ BK193 hb); have n3_ := mk_ (aA (Short.hB HB) hb); clear HO197 BK193 HB; revert n0_ n1_ n2_ n3_; intro HO197 HO204 BK193 HB; (try clear hb ho0)) | ((with_reducible refine aY (N := 14) rfl ?_); refine R_lit (Kd.int .u8) _ 5 ?hg (N := 14) ?hd (xs := ([(a0_0) % 256] : List Int)) (inner := [.int .u8 ((a0_0) % 256)]) (ok := fun _ => True) (okp := fun _ => True) ?hr ?hp (fun _ hk => hk) trivial (Below.refl _ _) (Nat.le_refl _) z6_ ?_; (case hd => rfl); (case hg => rfl); (case hr => first | (go_simp; done) | (go_simp; rfl)); (case hp => exact (Reps.one (show Kd.M (Kd.int .u8) _ _ _ ((a0_0) % 256) [.int .u8 ((a0_0) % 256)] from rfl) (Reps.none _ _))); intro v196 w_14 ho11 hb hg_ hnew_; clear hg_ hnew_; (first | rw [← Ny195.out] at ho11 | (simp only [Int.reduceToNat] at ho11; rw [← Ny195.out] at ho11)); have n0_ := mk_ (bX ho11 (aC (Short.hB HB))); have n1_ := mk_ (bB_ BK193 hb); have n2_ := mk_ (aA (Short.hB HB) hb); clear BK193 HB; revert n0_ n1_ n2_; intro HO197 BK193 HB; clear hb ho11; obtain ⟨hcz_0, hcz_1, hcz_2, hfz_0, hfz_1, hfz_2⟩ := Short.c3 BK193.out) | ((with_reducible refine cM (b := .append) (xs := #[.tmp 19, .tmp 23]) rfl ?_); at_builtin; refine fR (Kd.int .u8) (w0 := w) w.heap.size rfl (.tmp 19) (.tmp 23) 36 5 (.int .u8 0) 1 rfl Tryz.underlying36 info5 rfl z5_ z4_ v196 y195 ((a0_1) % 256) [.int .u8 ((a0_1) % 256)] (fun _ => True) (fun _ => False) rfl rfl ?aP (fun _ hk => hk.elim) ?aF ?aO ?aB ?aS ?aL ?_; (case aP => exact rfl); (case aB => exact (Short.hB HB)); (case aF => exact (fun _ _ => trivial)); (case aO => exact (ZKR HO197)); (case aS => exact (aC (Short.hB HB))); (case aL => have := LMc5.out; omega); intro v199 w_x3 ho hb hg hat; rw [← Ny198.out] at ho; have n0_ := mk_ (dJ (g := gb193) (o := .cells #[.int .i64 a0_0, .int .i64 a0_1, .string a0_2] 102 (0, 0)) (Short.bK BK193) hg (R_ne HO197.out BK193.out z5_)); have n1_ := mk_ (hb); have n2_ := mk_ (ho); clear BK193 HB HO197; revert n0_ n1_ n2_; intro BK193 HB HO200; clear ho hb hg hat))
  go_ret2
  first | exact ⟨_, by first | rfl | (simp [bA, bB] <;> rfl) | (simp [*, bA, bB] <;> rfl), by first | exact R_nil _ _ _ _ _ | exact N_nil _ _ _ _ _ | exact V_nil _ _ _ _ _ | exact Q_nil _ _ _ _ _ | exact S_nil _ _ _ _ _, Short.hB HB⟩ | exact ⟨_, by first | rfl | (simp [bA, bB] <;> rfl) | (simp [*, bA, bB] <;> rfl), by (with_reducible repeat (first | apply R_alloc | apply R_drewN | apply R_drew)); exact HO197.out, Short.hB HB⟩ | exact ⟨_, by first | rfl | (simp [bA, bB] <;> rfl) | (simp [*, bA, bB] <;> rfl), by (with_reducible repeat (first | apply R_alloc | apply R_drewN | apply R_drew)); exact R_mono HO208.out (fun _ hk => trivial), Short.hB HB⟩ | exact ⟨_, by first | rfl | (simp [bA, bB] <;> rfl) | (simp [*, bA, bB] <;> rfl), by (with_reducible repeat (first | apply R_alloc | apply R_drewN | apply R_drew)); exact R_mono HO204.out (fun _ hk => trivial), Short.hB HB⟩ | exact ⟨_, by first | rfl | (simp [bA, bB] <;> rfl) | (simp [*, bA, bB] <;> rfl), by (with_reducible repeat (first | apply R_alloc | apply R_drewN | apply R_drew)); exact HO200.out, Short.hB HB⟩
def row_Bytes.l0 : Nat → List Int → List (S102) → Int → Int → Option (List Int × Int)
 | 0, _, _, _, _ => none
 | k + 1, x5, x19, x20, x21 => if x21 < x20 then (if 0 ≤ x21 then (if x21 < (x19.length : Int) then ((gG.f k ((aK x19 x21).f0) ((aK x19 x21).f1) ((aK x19 x21).f2)).bind fun bt215 => (if x5.length + bt215.1.length < 140737488355328 then (row_Bytes.l0 k (x5 ++ bt215.1) x19 x20 (wrap64 (x21 + 1))) else (none))) else (none)) else (none)) else (some (x5, 0))
def row_Bytes.f (k : Nat) (l0 : List (S102)) : Option (List Int × Int) := (gH.f k l0).bind fun t209 => (if t209 = 0 then (row_Bytes.l0 k (([((l0.length : Int)) % 256] : List Int)) l0 (l0.length : Int) 0) else (some (([] : List Int), t209)))
theorem row_Bytes.calls (k : Nat) (A0 : Option Addr) (c0 : Nat) (l0 : List (S102)) (r1 : List Int) (r2 : Int) (w : World) (hr0 : Kd.C k102 w A0 l0.length l0) (hc0 : l0.length ≤ c0) (h : row_Bytes.f k l0 = some (r1, r2)) :
  Calls Tryz.prog 56 #[.slice A0 l0.length c0] w fun e w' => ∃ v0_ : Value, e = .returned (.tuple #[v0_, .int .i64 r2]) ∧ Kd.R (Kd.int .u8) 5 w' w.heap.size (fun _ => True) v0_ r1 ∧ Below w.heap.size w w' := by
 have hu102 := Tryz.underlying102
 have HR0 := mk_ hr0
 have HC0 := mk_ hc0
 clear hr0 hc0
 have HB := mk_ (Below.refl w.heap.size w)
 have H : ((gH.f k l0).bind fun t209 => (if t209 = 0 then (row_Bytes.l0 k (([((l0.length : Int)) % 256] : List Int)) l0 (l0.length : Int) 0) else (some (([] : List Int), t209)))) = some (r1, r2) := h
 clear h
 obtain ⟨t209, A2, H⟩ := Option.bind_eq_some_iff.mp H
 replace A2 := mk_ A2
 by_cases c3 : t209 = 0
 rotate_left
 ·
  rw [if_neg c3] at H
  have c3b0 : (t209 == 0) = false := beq_eq_false_iff_ne.mpr c3
  have c3b1 : (t209 != 0) = true := bne_iff_ne.mpr c3
  simp only [Option.some.injEq, Prod.mk.injEq] at H
  obtain ⟨rfl, rfl⟩ := H
  go_enter Tryz.func56, Tryz.ntmps56
  go_wp2_with (first | ((with_reducible refine aJ (f := 81) rfl ?_); refine Short.gL (some 11) Tryz.func81 #[.slice A0 l0.length c0] (h := ?_); (with_reducible refine (gH.calls k _ _ l0 t209 _ ?side1 ?side2 A2.out).mono ?_); (case side1 => repeat (first | exact HR0.out | (with_reducible refine C_alloc ?_ _) | (with_reducible refine C_drewN ?_ _) | (with_reducible refine C_drew ?_))); (case side2 => exact HC0.out); rintro e w17 ⟨rfl, hb⟩; refine ⟨_, rfl, ?_⟩; have n0_ := mk_ (aA (Short.hB HB) hb); clear HB; revert n0_; intro HB; (try clear hb)))
  go_ret2
  exact ⟨_, by first | rfl | (simp [bA, bB] <;> rfl) | (simp [*, bA, bB] <;> rfl), by first | exact R_nil _ _ _ _ _ | exact N_nil _ _ _ _ _ | exact V_nil _ _ _ _ _ | exact Q_nil _ _ _ _ _ | exact S_nil _ _ _ _ _, Short.hB HB⟩
 rw [if_pos c3] at H
 have c3b0 : (t209 == 0) = true := beq_iff_eq.mpr c3
 have c3b1 : (t209 != 0) = false := bne_eq_false_iff_eq.mpr c3
 clear c3
 obtain ⟨y210, hy210⟩ : ∃ y_ : List Int, y_ = (([((l0.length : Int)) % 256] : List Int)) := ⟨_, rfl⟩
 replace H : (row_Bytes.l0 k y210 l0 (l0.length : Int) 0) = some (r1, r2) := by first | (rw [hy210]; with_reducible exact H) | (have H2_ := (Option.bind_some _ _).symm.trans H; rw [hy210]; with_reducible exact H2_) | (have H2_ := (Option.bind_some _ _).symm.trans H; with_reducible exact H2_) | with_reducible exact H | (rw [hy210]; exact H) | exact H
 have Ny210 := mk_ hy210
 clear hy210
 have H' := mk_ H
 clear H
 go_enter Tryz.func56, Tryz.ntmps56
 go_wp2_with (first | ((with_reducible refine aJ (f := 81) rfl ?_); refine Short.gL (some 11) Tryz.func81 #[.slice A0 l0.length c0] (h := ?_); (with_reducible refine (gH.calls k _ _ l0 t209 _ ?side1 ?side2 A2.out).mono ?_); (case side1 => repeat (first | exact HR0.out | (with_reducible refine C_alloc ?_ _) | (with_reducible refine C_drewN ?_ _) | (with_reducible refine C_drew ?_))); (case side2 => exact HC0.out); rintro e w4 ⟨rfl, hb⟩; refine ⟨_, rfl, ?_⟩; have n0_ := mk_ (aA (Short.hB HB) hb); clear HB; revert n0_; intro HB; (try clear hb)) | ((with_reducible refine aY (N := 18) rfl ?_); refine R_lit (Kd.int .u8) _ 5 ?hg (N := 18) ?hd (xs := ([((l0.length : Int)) % 256] : List Int)) (inner := [.int .u8 (((l0.length : Int)) % 256)]) (ok := fun _ => True) (okp := fun _ => True) ?hr ?hp (fun _ hk => hk) trivial (Below.refl _ _) (Nat.le_refl _) z6_ ?_; (case hd => rfl); (case hg => rfl); (case hr => first | (go_simp; done) | (go_simp; rfl)); (case hp => exact (Reps.one (show Kd.M (Kd.int .u8) _ _ _ (((l0.length : Int)) % 256) [.int .u8 (((l0.length : Int)) % 256)] from rfl) (Reps.none _ _))); intro v211 w5 ho6 hb hg_ hnew_; clear hg_ hnew_; (first | rw [← Ny210.out] at ho6 | (simp only [Int.reduceToNat] at ho6; rw [← Ny210.out] at ho6)); have n0_ := mk_ (bX ho6 (aC (Short.hB HB))); have n1_ := mk_ (aA (Short.hB HB) hb); clear HB; revert n0_ n1_; intro HO212 HB; clear hb ho6))
 go_loopg [5, 21] k (fun kq v5 v21 w' => ∃ (x5_1 : List Int) (x21_1 : Int), v21 = .int .i64 x21_1 ∧ Aside0 (row_Bytes.l0 kq x5_1 l0 (l0.length : Int) x21_1 = some (r1, r2)) ∧ Aside0 (kq ≤ k) ∧ Aside0 (Kd.R (Kd.int .u8) 5 w' w.heap.size (fun _ => True) v5 x5_1) ∧ Aside0 (Below w.heap.size w w'))
 case atStart => exact ⟨(y210), (0), z3_, H', ⟨Nat.le_refl _⟩, ⟨by (with_reducible repeat (first | apply R_alloc | apply R_drewN | apply R_drew)); exact HO212.out⟩, ⟨Short.hB HB⟩⟩
 case round =>
  clear H'
  try clear p2
  try clear c3
  try clear c3b0
  try clear c3b1
  try clear c5
  obtain ⟨x5_1, x21_1, rfl, HA, HK1, HO_5, HB⟩ := hrel
  cases gk with
  | zero => exact absurd HA.out (by simp [row_Bytes.l0])
  | succ k1 =>
   have H := HA.out
   clear HA
   simp only [row_Bytes.l0] at H
   by_cases c7 : x21_1 < (l0.length : Int)
   rotate_left
   ·
    rw [if_neg c7] at H
    have c7b0 : decide (x21_1 < (l0.length : Int)) = false := decide_eq_false c7
    clear c7
    simp only [Option.some.injEq, Prod.mk.injEq] at H
    obtain ⟨rfl, rfl⟩ := H
    go_wp2
    go_ret2
    exact ⟨_, by first | rfl | (simp [bA, bB] <;> rfl) | (simp [*, bA, bB] <;> rfl), by (with_reducible repeat (first | apply R_alloc | apply R_drewN | apply R_drew)); exact HO_5.out, Short.hB HB⟩
   rw [if_pos c7] at H
   have c7b0 : decide (x21_1 < (l0.length : Int)) = true := decide_eq_true c7
   clear c7
   by_cases c8 : 0 ≤ x21_1
   rotate_left
   ·
    rw [if_neg c8] at H
    exact absurd H z6_
   rw [if_pos c8] at H
   have c8b0 : decide (0 ≤ x21_1) = true := decide_eq_true c8
   clear c8
   by_cases c9 : x21_1 < (l0.length : Int)
   rotate_left
   ·
    rw [if_neg c9] at H
    exact absurd H z6_
   rw [if_pos c9] at H
   have c9b0 : decide (x21_1 < (l0.length : Int)) = true := decide_eq_true c9
   clear c9
   obtain ⟨⟨t215, t218⟩, A10, H⟩ := Option.bind_eq_some_iff.mp H
   try dsimp only at H
   replace A10 := mk_ A10
   by_cases c11 : x5_1.length + t215.length < 140737488355328
   rotate_left
   ·
    rw [if_neg c11] at H
    exact absurd H z6_
   rw [if_pos c11] at H
   have LMc11 := mk_ c11
   clear c11
   obtain ⟨y219, hy219⟩ : ∃ y_ : List Int, y_ = (x5_1 ++ t215) := ⟨_, rfl⟩
   replace H : (row_Bytes.l0 k1 y219 l0 (l0.length : Int) (wrap64 (x21_1 + 1))) = some (r1, r2) := by first | (rw [hy219]; with_reducible exact H) | (have H2_ := (Option.bind_some _ _).symm.trans H; rw [hy219]; with_reducible exact H2_) | (have H2_ := (Option.bind_some _ _).symm.trans H; with_reducible exact H2_) | with_reducible exact H | (rw [hy219]; exact H) | exact H
   have Ny219 := mk_ hy219
   clear hy219
   have H' := mk_ H
   clear H
   have p213 : 0 ≤ (x21_1 : Int) := of_decide_eq_true z1_
   have q213 : x21_1 < (l0.length : Int) := of_decide_eq_true z1_
   obtain ⟨ad213, e213, hx213_0, hx213_1, hx213_2⟩ := fI HR0.out x21_1 p213 q213
   cases e213
   replace hx213_0 := up_ HB hx213_0
   replace hx213_1 := up_ HB hx213_1
   replace hx213_2 := up_ HB hx213_2
   replace p213 := eq_true p213
   replace q213 := eq_true q213
   go_wp2_with (first | ((with_reducible refine aY (N := 7) rfl ?_); refine aZ ?hg (N := 7) ?hd (cs := #[.int .i64 0, .int .i64 0, .string (⟨#[]⟩ : ByteArray)]) (t := 102) ?hr ?_; (case hd => rfl); (case hg => rfl); (case hr => first | (go_simp; done) | (go_simp; rfl)); intro gb214 hg w12 hbox hb; have n0_ := mk_ (bY (ZKR HO_5) hb); have n1_ := mk_ (aA (Short.hB HB) hb); have n2_ := mk_ (hbox); have n3_ := mk_ ((by rw [hg]; exact (aC (Short.hB HB)) : w.heap.size ≤ gb214)); have n4_ := mk_ ((by rw [hg]; exact (aC (Short.hB HB)) : w.heap.size ≤ gb214)); clear HO_5 HB; revert n0_ n1_ n2_ n3_ n4_; intro HO_5 HB BK214 GW214 GE214; clear hb hbox hg; obtain ⟨hcz_0, hcz_1, hcz_2, hfz_0, hfz_1, hfz_2⟩ := Short.c3 BK214.out) | ((with_reducible refine aJ (f := 82) rfl ?_); refine Short.gL (some 27) Tryz.func82 #[.agg #[.int .i64 ((aK l0 x21_1).f0), .int .i64 ((aK l0 x21_1).f1), .string ((aK l0 x21_1).f2)]] (h := ?_); (with_reducible refine (gG.calls k1 ((aK l0 x21_1).f0) ((aK l0 x21_1).f1) ((aK l0 x21_1).f2) t215 t218 _ A10.out).mono ?_); rintro e w14 ⟨v216, rfl, ho0, hb⟩; refine ⟨_, rfl, ?_⟩; have n0_ := mk_ (R_elder' (by (with_reducible repeat (first | apply R_alloc | apply R_drewN | apply R_drew)); exact (R_mono (R_far (p := ⟨gb214, 2, none⟩) (R_far (p := ⟨gb214, 1, none⟩) (R_far (p := ⟨gb214, 0, none⟩) (eP HO_5.out BK214.out z5_) (fun _ hk => hk.2) (.int .i64 ((aK l0 x21_1).f0))) (fun _ hk => hk.2) (.int .i64 ((aK l0 x21_1).f1))) (fun _ hk => hk.2) (.string ((aK l0 x21_1).f2))) (fun _ h_ => h_.1))) (R_base ho0) hb); have n1_ := mk_ (bX (R_new' ho0 (R_lt (by (with_reducible repeat (first | apply R_alloc | apply R_drewN | apply R_drew)); exact (R_mono (R_far (p := ⟨gb214, 2, none⟩) (R_far (p := ⟨gb214, 1, none⟩) (R_far (p := ⟨gb214, 0, none⟩) (eP HO_5.out BK214.out z5_) (fun _ hk => hk.2) (.int .i64 ((aK l0 x21_1).f0))) (fun _ hk => hk.2) (.int .i64 ((aK l0 x21_1).f1))) (fun _ hk => hk.2) (.string ((aK l0 x21_1).f2))) (fun _ h_ => h_.1))))) (aC (Short.hB HB))); have n2_ := mk_ (bQ (g := gb214) (o := .cells #[.int .i64 ((aK l0 x21_1).f0), .int .i64 ((aK l0 x21_1).f1), .string ((aK l0 x21_1).f2)] 102 (0, 0)) (by (with_reducible repeat (first | refine aG ?_ _ | refine aH ?_ | refine aE ?_ _)); refine bD (cs := #[.int .i64 ((aK l0 x21_1).f0), .int .i64 ((aK l0 x21_1).f1), .string (⟨#[]⟩ : ByteArray)]) ?_ 2 _ rfl; (with_reducible repeat (first | refine aG ?_ _ | refine aH ?_ | refine aE ?_ _)); refine bD (cs := #[.int .i64 ((aK l0 x21_1).f0), .int .i64 0, .string (⟨#[]⟩ : ByteArray)]) ?_ 1 _ rfl; (with_reducible repeat (first | refine aG ?_ _ | refine aH ?_ | refine aE ?_ _)); refine bD (cs := #[.int .i64 0, .int .i64 0, .string (⟨#[]⟩ : ByteArray)]) ?_ 0 _ rfl; (with_reducible repeat (first | refine aG ?_ _ | refine aH ?_ | refine aE ?_ _)); exact BK214.out) hb); have n3_ := mk_ (aA (Short.hB HB) hb); clear HO_5 BK214 HB; revert n0_ n1_ n2_ n3_; intro HO_5 HO217 BK214 HB; (try clear hb ho0); obtain ⟨Ao16, co16, eo16⟩ := cX HO217.out; subst eo16) | ((with_reducible refine cM (b := .append) (xs := #[.tmp 30, .tmp 31]) rfl ?_); at_builtin; refine eD (Kd.int .u8) (w0 := w) w.heap.size rfl (.tmp 30) (.tmp 31) 36 5 (.int .u8 0) 1 rfl Tryz.underlying36 info5 rfl z5_ z4_ u5 x5_1 t215 _ _ _ (fun k_ => nb_ k_ (.slice Ao16 t215.length co16)) (fun _ => False) rfl rfl ?aO ?aR (fun _ _ h => h) (fun _ h => h.elim) ?aF ?aB ?aS ?aL ?_; (case aR => exact cX_ (R_reads' HO217.out).2.2); (case aB => exact (Short.hB HB)); (case aF => exact (fun k_ hk => Kd.fresh' (R_lt (ZKR HO217)) k_ hk)); (case aO => exact (rM_ HO_5 (fun _ hk => hk.2))); (case aS => exact (aC (Short.hB HB))); (case aL => have := LMc11.out; omega); intro v220 w15 ho hb hg hat; rw [← Ny219.out] at ho; have n0_ := mk_ (dJ (g := gb214) (o := .cells #[.int .i64 ((aK l0 x21_1).f0), .int .i64 ((aK l0 x21_1).f1), .string ((aK l0 x21_1).f2)] 102 (0, 0)) (Short.bK BK214) hg (R_ne HO_5.out BK214.out z5_)); have n1_ := mk_ (dT (ok := (fun _ => True)) (ZKR HO217) hg hat); have n2_ := mk_ (hb); have n3_ := mk_ (ho); clear BK214 HO217 HB HO_5; revert n0_ n1_ n2_ n3_; intro BK214 HO217 HB HO221; clear ho hb hg hat))
   go_roundg k1
   case measure => have := HK1.out; omega
   case rel => exact ⟨(y219), (wrap64 (x21_1 + 1)), z3_, H', ⟨by have := HK1.out; omega⟩, ⟨by (with_reducible repeat (first | apply R_alloc | apply R_drewN | apply R_drew)); exact R_mono HO221.out (fun _ hk => trivial)⟩, ⟨Short.hB HB⟩⟩
end Go.Proofs.YtjnjfogfpmeacaaGreat.PAll
end
section
namespace Go.Proofs.YtjnjfogfpmeacaaGreat.PAll
open Go.RowKit PrintWords PrintLast PrintMore ZipT PrintWords.Kd PrintMore.Kd
attribute [local go_sem] eE eG eX eY dQ dP eF eC   -- for this text's walks alone
set_option linter.unusedVariables false
set_option linter.unusedSimpArgs false
mutual
def bT.j0 : Nat → List Int → Int → Bool → Option (Int × Int × Int)
 | 0, _, _, _ => none
 | k + 1, x0, x1, x15 => if x15 = true then (some (0, 0, 1)) else (if (wrap64 ((x0.length : Int) - x1)) < 9 then (bT.j1 k x0 x1 true) else (if 0 ≤ x1 then (if x1 < (x0.length : Int) then (bT.j1 k x0 x1 (decide ((rd x0 x1) > 1))) else (none)) else (none)))
def bT.j1 : Nat → List Int → Int → Bool → Option (Int × Int × Int)
 | 0, _, _, _ => none
 | k + 1, x0, x1, x27 => if x27 = true then (some (0, 0, 3)) else (if 0 ≤ (wrap64 (x1 + 1)) then (if (wrap64 (x1 + 1)) ≤ (wrap64 (x1 + 9)) then (if (wrap64 (x1 + 9)) ≤ (x0.length : Int) then ((eO.f k ((x0.take ((wrap64 (x1 + 9)) : Int).toNat).drop ((wrap64 (x1 + 1)) : Int).toNat)).bind fun t386 => (if t386 > 1152921504606846976 then (bT.j2 k x0 x1 t386 true) else (if 0 ≤ x1 then (if x1 < (x0.length : Int) then (if (rd x0 x1) = 1 then (bT.j2 k x0 x1 t386 (t386 == 0)) else (bT.j2 k x0 x1 t386 false)) else (none)) else (none)))) else (none)) else (none)) else (none))
def bT.j2 : Nat → List Int → Int → Int → Bool → Option (Int × Int × Int)
 | 0, _, _, _, _ => none
 | k + 1, x0, x1, x7, x35 => if x35 = true then (some (0, 0, 3)) else (if 0 ≤ x1 then (if x1 < (x0.length : Int) then (if (rd x0 x1) = 1 then (some (wrap64 (-(wrap64 (x7))), wrap64 (x1 + 9), 0)) else (some (wrap64 (x7), wrap64 (x1 + 9), 0))) else (none)) else (none))
end
def bT.f (k : Nat) (l0 : List Int) (a1 : Int) : Option (Int × Int × Int) := if a1 < 0 then (bT.j0 k l0 a1 true) else (bT.j0 k l0 a1 (decide (a1 > (l0.length : Int))))
theorem bT.calls (k : Nat) (A0 : Option Addr) (c0 : Nat) (l0 : List Int) (a1 : Int) (r1 : Int) (r2 : Int) (r3 : Int) (w : World) (hr0 : Kd.C (Kd.int .u8) w A0 l0.length l0) (hc0 : l0.length ≤ c0) (h : bT.f k l0 a1 = some (r1, r2, r3)) :
  Calls Tryz.prog 109 #[.slice A0 l0.length c0, .int .i64 a1] w fun e w' => e = .returned (.tuple #[.int .i64 r1, .int .i64 r2, .int .i64 r3]) ∧ Drawn0 w w' := by
 have HR0 := mk_ hr0
 have HC0 := mk_ hc0
 clear hr0 hc0
 have H : (if a1 < 0 then (bT.j0 k l0 a1 true) else (bT.j0 k l0 a1 (decide (a1 > (l0.length : Int))))) = some (r1, r2, r3) := h
 clear h
 have HC3 := mk_ H
 clear H
 go_enter Tryz.func109, Tryz.ntmps109
 go_upto_region 1 with (fail)
 go_cut [15] (fun v15 wc => ∃ (kq : Nat) (x15_2 : Bool), v15 = .bool x15_2 ∧ Aside0 (bT.j0 kq l0 a1 x15_2 = some (r1, r2, r3)) ∧ Aside0 (kq ≤ k) ∧ Drawn0 w wc)
 case first =>
  have H := HC3.out
  clear HC3
  by_cases c4 : a1 < 0
  ·
   rw [if_pos c4] at H
   have c4b0 : decide (a1 < 0) = true := decide_eq_true c4
   clear c4
   (first | rw [c4b0] | (simp only [i64_w, i32_w]; rw [c4b0]) | skip)
   have H' := mk_ H
   clear H
   go_wp2
   go_meet
   case rel => exact ⟨_, (true), z3_, H', ⟨by first | omega | exact Nat.le_refl _⟩, by repeat (first | exact Drawn0.refl _ | apply Drawn0.step)⟩
  rw [if_neg c4] at H
  have c4b0 : decide (a1 < 0) = false := decide_eq_false c4
  clear c4
  (first | rw [c4b0] | (simp only [i64_w, i32_w]; rw [c4b0]) | skip)
  have H' := mk_ H
  clear H
  go_wp2
  go_meet
  case rel => exact ⟨_, (decide (a1 > (l0.length : Int))), z3_, H', ⟨by first | omega | exact Nat.le_refl _⟩, by repeat (first | exact Drawn0.refl _ | apply Drawn0.step)⟩
 case rest => as_aux_lemma =>
  clear HC3
  try clear c1
  try clear p2
  try clear c4
  try clear c4b0
  obtain ⟨kq, x15_2, rfl, HA, HJ2, ⟨mc2, rfl⟩⟩ := hcut
  cases kq with
  | zero => exact absurd HA.out (by simp [bT.j0])
  | succ kj2 =>
   have H := HA.out
   clear HA
   simp only [bT.j0] at H
   by_cases c5 : x15_2 = true
   ·
    subst c5
    rw [if_pos rfl] at H
    simp only [Option.some.injEq, Prod.mk.injEq] at H
    obtain ⟨rfl, rfl, rfl⟩ := H
    go_wp2
    go_ret3
    exact ⟨z3_, by repeat (first | exact Drawn0.refl _ | apply Drawn0.step)⟩
   ·
    replace c5 := Bool.eq_false_iff.mpr c5
    subst c5
    rw [if_neg (show ¬ (false = true) by decide)] at H
    have HC6 := mk_ H
    clear H
    go_upto_region 3 with (fail)
    go_cut [27] (fun v27 wc => ∃ (kq : Nat) (x27_5 : Bool), v27 = .bool x27_5 ∧ Aside0 (bT.j1 kq l0 a1 x27_5 = some (r1, r2, r3)) ∧ Aside0 (kq ≤ kj2) ∧ Drawn0 w wc)
    case first =>
     have H := HC6.out
     clear HC6
     by_cases c7 : (wrap64 ((l0.length : Int) - a1)) < 9
     ·
      rw [if_pos c7] at H
      have c7b0 : decide ((wrap64 ((l0.length : Int) - a1)) < 9) = true := decide_eq_true c7
      clear c7
      (first | rw [c7b0] | (simp only [i64_w, i32_w]; rw [c7b0]) | skip)
      have H' := mk_ H
      clear H
      go_wp2
      go_meet
      case rel => exact ⟨_, (true), z3_, H', ⟨by have := HJ2.out; first | omega | exact Nat.le_refl _⟩, by repeat (first | exact Drawn0.refl _ | apply Drawn0.step)⟩
     ·
      rw [if_neg c7] at H
      have c7b0 : decide ((wrap64 ((l0.length : Int) - a1)) < 9) = false := decide_eq_false c7
      clear c7
      (first | rw [c7b0] | (simp only [i64_w, i32_w]; rw [c7b0]) | skip)
      by_cases c8 : 0 ≤ a1
      ·
       rw [if_pos c8] at H
       have c8b0 : decide (0 ≤ a1) = true := decide_eq_true c8
       clear c8
       by_cases c9 : a1 < (l0.length : Int)
       ·
        rw [if_pos c9] at H
        have c9b0 : decide (a1 < (l0.length : Int)) = true := decide_eq_true c9
        clear c9
        have H' := mk_ H
        clear H
        have p384 : 0 ≤ (a1 : Int) := of_decide_eq_true z1_
        have q384 : a1 < (l0.length : Int) := of_decide_eq_true z1_
        obtain ⟨ad384, e384, hx384_0⟩ := Kd.at_int HR0.out a1 p384 q384
        cases e384
        replace p384 := eq_true p384
        replace q384 := eq_true q384
        go_wp2
        go_meet
        case rel => exact ⟨_, (decide ((rd l0 a1) > 1)), z3_, H', ⟨by have := HJ2.out; first | omega | exact Nat.le_refl _⟩, by repeat (first | exact Drawn0.refl _ | apply Drawn0.step)⟩
       ·
        rw [if_neg c9] at H
        exact absurd H z6_
      ·
       rw [if_neg c8] at H
       exact absurd H z6_
    case rest => as_aux_lemma =>
     clear HC6
     try clear c1
     try clear c2
     try clear p2
     try clear p3
     try clear q3
     try clear hx3
     try clear c4
     try clear c4b0
     try clear c5
     try clear p6
     try clear c7
     try clear c7b0
     try clear c8
     try clear c8b0
     try clear c9
     try clear c9b0
     try clear hx384_0
     try clear p2
     try clear p384
     try clear q384
     obtain ⟨kq, x27_5, rfl, HA, HJ5, ⟨mc5, rfl⟩⟩ := hcut
     cases kq with
     | zero => exact absurd HA.out (by simp [bT.j1])
     | succ kj5 =>
      have H := HA.out
      clear HA
      simp only [bT.j1] at H
      by_cases c10 : x27_5 = true
      ·
       subst c10
       rw [if_pos rfl] at H
       simp only [Option.some.injEq, Prod.mk.injEq] at H
       obtain ⟨rfl, rfl, rfl⟩ := H
       go_wp2
       go_ret3
       exact ⟨z3_, by repeat (first | exact Drawn0.refl _ | apply Drawn0.step)⟩
      ·
       replace c10 := Bool.eq_false_iff.mpr c10
       subst c10
       rw [if_neg (show ¬ (false = true) by decide)] at H
       obtain ⟨ji11, hji11⟩ : ∃ j_ : Int, (wrap64 (a1 + 1)) = j_ := ⟨_, rfl⟩
       replace H : (if 0 ≤ (ji11) then (if (ji11) ≤ (wrap64 (a1 + 9)) then (if (wrap64 (a1 + 9)) ≤ (l0.length : Int) then ((eO.f kj5 ((l0.take ((wrap64 (a1 + 9)) : Int).toNat).drop ((ji11) : Int).toNat)).bind fun t386 => (if t386 > 1152921504606846976 then (bT.j2 kj5 l0 a1 t386 true) else (if 0 ≤ a1 then (if a1 < (l0.length : Int) then (if (rd l0 a1) = 1 then (bT.j2 kj5 l0 a1 t386 (t386 == 0)) else (bT.j2 kj5 l0 a1 t386 false)) else (none)) else (none)))) else (none)) else (none)) else (none)) = some (r1, r2, r3) := by first | (rw [hji11] at H; exact H) | (simp only [hji11] at H ⊢; exact H)
       have hji11w : (IntKind.i64.wrap (a1 + 1)) = ji11 := (i64_w _).trans hji11
       by_cases c12 : 0 ≤ (ji11)
       ·
        rw [if_pos c12] at H
        have c12b0 := eq_true c12
        have c12b1 : decide (0 ≤ (ji11)) = true := decide_eq_true c12
        clear c12
        by_cases c13 : (ji11) ≤ (wrap64 (a1 + 9))
        ·
         rw [if_pos c13] at H
         have c13b0 := eq_true c13
         have c13b1 : decide ((ji11) ≤ (wrap64 (a1 + 9))) = true := decide_eq_true c13
         by_cases c14 : (wrap64 (a1 + 9)) ≤ (l0.length : Int)
         ·
          rw [if_pos c14] at H
          have c14b0 := eq_true c14
          have c14b1 : decide ((wrap64 (a1 + 9)) ≤ (l0.length : Int)) = true := decide_eq_true c14
          obtain ⟨t386, A15, H⟩ := Option.bind_eq_some_iff.mp H
          replace A15 := mk_ A15
          have HC16 := mk_ H
          clear H
          obtain ⟨i017, hi017, _, hsz17, _⟩ := info_parts info5
          obtain ⟨A17, hcut17, hA17, hC17⟩ := hO (P := Tryz.prog) (Value.int .u8) 0 36 5 .i64 .i64 Tryz.underlying36 hi017 hsz17 A0 c0 l0 (ji11) (wrap64 (a1 + 9)) (of_decide_eq_true z1_) (by first | omega | exact of_decide_eq_true z1_) (of_decide_eq_true z1_) HC0.out
          have HR385 := mk_ (iO (h1 := fun _ => rfl) (hA17 _ (Kd.reads_of_C HR0.out)))
          have HC385 := mk_ hC17
          clear hA17 hC17 hi017 hsz17
          go_upto_region 6 with (first | ((with_reducible refine aJ (f := 108) rfl ?_); refine goesL_ (some 34) rfl rfl Tryz.func108 z2_ rfl #[.slice A17 ((l0.take ((wrap64 (a1 + 9)) : Int).toNat).drop ((ji11) : Int).toNat).length (c0 - (ji11).toNat)] rfl (by (try simp only [List.map_toArray, List.map_cons, List.map_nil]); first | done | (rw [show ((l0.take ((wrap64 (a1 + 9)) : Int).toNat).drop ((ji11) : Int).toNat).length = ((wrap64 (a1 + 9)).toNat - (ji11).toNat) from (by rw [List.length_drop, List.length_take]; have h_ : ((wrap64 (a1 + 9)) : Int) ≤ (l0.length : Int) := of_decide_eq_true z1_; omega)] <;> rfl) | (simp only [hji11]; rfl) | rfl | (simp only [List.length_drop, List.length_take]; rfl) | (go_simp; done) | (simp; done)) ?_; (with_reducible refine (eO.calls kj5 _ _ ((l0.take ((wrap64 (a1 + 9)) : Int).toNat).drop ((ji11) : Int).toNat) t386 _ ?side1 ?side2 A15.out).mono ?_); (case side1 => repeat (first | exact HR385.out | (with_reducible refine C_alloc ?_ _) | (with_reducible refine C_drewN ?_ _) | (with_reducible refine C_drew ?_))); (case side2 => exact HC385.out); rintro e w' ⟨rfl, ⟨nd, rfl⟩⟩; refine ⟨_, rfl, ?_⟩))
          (try simp only [Act.put, List.setIfInBounds_toArray, List.set_cons_zero, List.set_cons_succ])
          go_cut [35] (fun v35 wc => ∃ (kq : Nat) (x35_15 : Bool), v35 = .bool x35_15 ∧ Aside0 (bT.j2 kq l0 a1 t386 x35_15 = some (r1, r2, r3)) ∧ Aside0 (kq ≤ kj5) ∧ Drawn0 w wc)
          case first =>
           have H := HC16.out
           clear HC16
           by_cases c18 : t386 > 1152921504606846976
           ·
            rw [if_pos c18] at H
            have c18b0 : decide (1152921504606846976 < t386) = true := decide_eq_true c18
            clear c18
            (first | rw [c18b0] | (simp only [i64_w, i32_w]; rw [c18b0]) | skip)
            have H' := mk_ H
            clear H
            go_wp2
            go_meet
            case rel => exact ⟨_, (true), z3_, H', ⟨by have := HJ2.out; have := HJ5.out; first | omega | exact Nat.le_refl _⟩, by repeat (first | exact Drawn0.refl _ | apply Drawn0.step)⟩
           ·
            rw [if_neg c18] at H
            have c18b0 : decide (1152921504606846976 < t386) = false := decide_eq_false c18
            clear c18
            (first | rw [c18b0] | (simp only [i64_w, i32_w]; rw [c18b0]) | skip)
            by_cases c19 : 0 ≤ a1
            ·
             rw [if_pos c19] at H
             have c19b0 : decide (0 ≤ a1) = true := decide_eq_true c19
             clear c19
             by_cases c20 : a1 < (l0.length : Int)
             ·
              rw [if_pos c20] at H
              have c20b0 : decide (a1 < (l0.length : Int)) = true := decide_eq_true c20
              clear c20
              by_cases c21 : (rd l0 a1) = 1
              ·
               rw [if_pos c21] at H
               have c21b0 : ((rd l0 a1) == 1) = true := beq_iff_eq.mpr c21
               have c21b1 : ((rd l0 a1) != 1) = false := bne_eq_false_iff_eq.mpr c21
               clear c21
               have H' := mk_ H
               clear H
               have p387 : 0 ≤ (a1 : Int) := of_decide_eq_true z1_
               have q387 : a1 < (l0.length : Int) := of_decide_eq_true z1_
               obtain ⟨ad387, e387, hx387_0⟩ := Kd.at_int HR0.out a1 p387 q387
               cases e387
               replace p387 := eq_true p387
               replace q387 := eq_true q387
               go_wp2
               go_meet
               case rel => exact ⟨_, ((t386 == 0)), z3_, H', ⟨by have := HJ2.out; have := HJ5.out; first | omega | exact Nat.le_refl _⟩, by repeat (first | exact Drawn0.refl _ | apply Drawn0.step)⟩
              ·
               rw [if_neg c21] at H
               have c21b0 : ((rd l0 a1) == 1) = false := beq_eq_false_iff_ne.mpr c21
               have c21b1 : ((rd l0 a1) != 1) = true := bne_iff_ne.mpr c21
               have H' := mk_ H
               clear H
               have p387 : 0 ≤ (a1 : Int) := of_decide_eq_true z1_
               have q387 : a1 < (l0.length : Int) := of_decide_eq_true z1_
               obtain ⟨ad387, e387, hx387_0⟩ := Kd.at_int HR0.out a1 p387 q387
               cases e387
               replace p387 := eq_true p387
               replace q387 := eq_true q387
               go_wp2
               go_meet
               case rel => exact ⟨_, (false), z3_, H', ⟨by have := HJ2.out; have := HJ5.out; first | omega | exact Nat.le_refl _⟩, by repeat (first | exact Drawn0.refl _ | apply Drawn0.step)⟩
             ·
              rw [if_neg c20] at H
              exact absurd H z6_
            ·
             rw [if_neg c19] at H
             exact absurd H z6_
          case rest => as_aux_lemma =>
           clear HC16
           try clear c1
           try clear c2
           try clear p2
           try clear p3
           try clear q3
           try clear hx3
           try clear c4
           try clear c4b0
           try clear c5
           try clear p6
           try clear c7
           try clear c7b0
           try clear c8
           try clear c8b0
           try clear c9
           try clear c9b0
           try clear c10
           try clear c12
           try clear c12b0
           try clear c12b1
           try clear c13
           try clear c13b0
           try clear c13b1
           try clear c14
           try clear c14b0
           try clear c14b1
           try clear c18
           try clear c18b0
           try clear c19
           try clear c19b0
           try clear c20
           try clear c20b0
           try clear c21
           try clear c21b0
           try clear c21b1
           try clear hx384_0
           try clear hx387_0
           try clear p2
           try clear p3
           try clear p384
           try clear p387
           try clear p6
           try clear q3
           try clear q384
           try clear q387
           obtain ⟨kq, x35_15, rfl, HA, HJ15, ⟨mc15, rfl⟩⟩ := hcut
           cases kq with
           | zero => exact absurd HA.out (by simp [bT.j2])
           | succ kj15 =>
            have H := HA.out
            clear HA
            simp only [bT.j2] at H
            by_cases c22 : x35_15 = true
            ·
             subst c22
             rw [if_pos rfl] at H
             simp only [Option.some.injEq, Prod.mk.injEq] at H
             obtain ⟨rfl, rfl, rfl⟩ := H
             go_wp2
             go_ret3
             exact ⟨by first | rfl | (simp; done) | (simp only [← hji11] <;> (first | rfl | simp)) | (simp [*]; done), by repeat (first | exact Drawn0.refl _ | apply Drawn0.step)⟩
            ·
             replace c22 := Bool.eq_false_iff.mpr c22
             subst c22
             rw [if_neg (show ¬ (false = true) by decide)] at H
             by_cases c23 : 0 ≤ a1
             ·
              rw [if_pos c23] at H
              have c23b0 : decide (0 ≤ a1) = true := decide_eq_true c23
              clear c23
              by_cases c24 : a1 < (l0.length : Int)
              ·
               rw [if_pos c24] at H
               have c24b0 : decide (a1 < (l0.length : Int)) = true := decide_eq_true c24
               clear c24
               by_cases c25 : (rd l0 a1) = 1
               ·
                rw [if_pos c25] at H
                have c25b0 : ((rd l0 a1) == 1) = true := beq_iff_eq.mpr c25
                have c25b1 : ((rd l0 a1) != 1) = false := bne_eq_false_iff_eq.mpr c25
                clear c25
                simp only [Option.some.injEq, Prod.mk.injEq] at H
                obtain ⟨rfl, rfl, rfl⟩ := H
                have p388 : 0 ≤ (a1 : Int) := of_decide_eq_true z1_
                have q388 : a1 < (l0.length : Int) := of_decide_eq_true z1_
                obtain ⟨ad388, e388, hx388_0⟩ := Kd.at_int HR0.out a1 p388 q388
                cases e388
                replace p388 := eq_true p388
                replace q388 := eq_true q388
                go_wp2
                go_ret3
                exact ⟨by first | rfl | (simp; done) | (simp only [← hji11] <;> (first | rfl | simp)) | (simp [*]; done), by repeat (first | exact Drawn0.refl _ | apply Drawn0.step)⟩
               ·
                rw [if_neg c25] at H
                have c25b0 : ((rd l0 a1) == 1) = false := beq_eq_false_iff_ne.mpr c25
                have c25b1 : ((rd l0 a1) != 1) = true := bne_iff_ne.mpr c25
                simp only [Option.some.injEq, Prod.mk.injEq] at H
                obtain ⟨rfl, rfl, rfl⟩ := H
                have p388 : 0 ≤ (a1 : Int) := of_decide_eq_true z1_
                have q388 : a1 < (l0.length : Int) := of_decide_eq_true z1_
                obtain ⟨ad388, e388, hx388_0⟩ := Kd.at_int HR0.out a1 p388 q388
                cases e388
                replace p388 := eq_true p388
                replace q388 := eq_true q388
                go_wp2
                go_ret3
                exact ⟨by first | rfl | (simp; done) | (simp only [← hji11] <;> (first | rfl | simp)) | (simp [*]; done), by repeat (first | exact Drawn0.refl _ | apply Drawn0.step)⟩
              ·
               rw [if_neg c24] at H
               exact absurd H z6_
             ·
              rw [if_neg c23] at H
              exact absurd H z6_
         ·
          rw [if_neg c14] at H
          exact absurd H z6_
        ·
         rw [if_neg c13] at H
         exact absurd H z6_
       ·
        rw [if_neg c12] at H
        exact absurd H z6_
def gB.f (k : Nat) (l0 : List Int) (a1 : Int) : Option (Int × Int × ByteArray × Int × Int) := (wire_Get.f k l0 a1 1).bind fun bt390 => (if bt390.2.2 = 0 then (if bt390.1 = 2 then ((wire_Get.f k l0 bt390.2.1 1).bind fun bt393 => (if bt393.2.2 = 0 then ((bV.f bt390.1 bt393.1 (⟨#[]⟩ : ByteArray)).bind fun t396 => (if t396 = 0 then (some (bt390.1, bt393.1, (⟨#[]⟩ : ByteArray), bt393.2.1, 0)) else (some (0, 0, (⟨#[]⟩ : ByteArray), 0, 3)))) else (some (0, 0, (⟨#[]⟩ : ByteArray), 0, 3)))) else (if bt390.1 = 3 then ((bT.f k l0 bt390.2.1).bind fun bt397 => (if bt397.2.2 = 0 then ((bV.f bt390.1 bt397.1 (⟨#[]⟩ : ByteArray)).bind fun t400 => (if t400 = 0 then (some (bt390.1, bt397.1, (⟨#[]⟩ : ByteArray), bt397.2.1, 0)) else (some (0, 0, (⟨#[]⟩ : ByteArray), 0, 3)))) else (some (0, 0, (⟨#[]⟩ : ByteArray), 0, 3)))) else (if bt390.1 = 4 then ((wire_GetText.f k l0 bt390.2.1).bind fun bt401 => (if bt401.2.2 = 0 then ((bV.f bt390.1 0 bt401.1).bind fun t404 => (if t404 = 0 then (some (bt390.1, 0, bt401.1, bt401.2.1, 0)) else (some (0, 0, (⟨#[]⟩ : ByteArray), 0, 3)))) else (some (0, 0, (⟨#[]⟩ : ByteArray), 0, 3)))) else ((bV.f bt390.1 0 (⟨#[]⟩ : ByteArray)).bind fun t405 => (if t405 = 0 then (some (bt390.1, 0, (⟨#[]⟩ : ByteArray), bt390.2.1, 0)) else (some (0, 0, (⟨#[]⟩ : ByteArray), 0, 3))))))) else (some (0, 0, (⟨#[]⟩ : ByteArray), 0, bt390.2.2)))
theorem gB.calls (k : Nat) (A0 : Option Addr) (c0 : Nat) (l0 : List Int) (a1 : Int) (r1 : Int) (r2 : Int) (r3 : ByteArray) (r4 : Int) (r5 : Int) (w : World) (hr0 : Kd.C (Kd.int .u8) w A0 l0.length l0) (hc0 : l0.length ≤ c0) (h : gB.f k l0 a1 = some (r1, r2, r3, r4, r5)) :
  Calls Tryz.prog 93 #[.slice A0 l0.length c0, .int .i64 a1] w fun e w' => e = .returned (.tuple #[.agg #[.int .i64 r1, .int .i64 r2, .string r3], .int .i64 r4, .int .i64 r5]) ∧ Below w.heap.size w w' := by
 have hu102 := Tryz.underlying102
 have HR0 := mk_ hr0
 have HC0 := mk_ hc0
 clear hr0 hc0
 have HB := mk_ (Below.refl w.heap.size w)
 have H : ((wire_Get.f k l0 a1 1).bind fun bt390 => (if bt390.2.2 = 0 then (if bt390.1 = 2 then ((wire_Get.f k l0 bt390.2.1 1).bind fun bt393 => (if bt393.2.2 = 0 then ((bV.f bt390.1 bt393.1 (⟨#[]⟩ : ByteArray)).bind fun t396 => (if t396 = 0 then (some (bt390.1, bt393.1, (⟨#[]⟩ : ByteArray), bt393.2.1, 0)) else (some (0, 0, (⟨#[]⟩ : ByteArray), 0, 3)))) else (some (0, 0, (⟨#[]⟩ : ByteArray), 0, 3)))) else (if bt390.1 = 3 then ((bT.f k l0 bt390.2.1).bind fun bt397 => (if bt397.2.2 = 0 then ((bV.f bt390.1 bt397.1 (⟨#[]⟩ : ByteArray)).bind fun t400 => (if t400 = 0 then (some (bt390.1, bt397.1, (⟨#[]⟩ : ByteArray), bt397.2.1, 0)) else (some (0, 0, (⟨#[]⟩ : ByteArray), 0, 3)))) else (some (0, 0, (⟨#[]⟩ : ByteArray), 0, 3)))) else (if bt390.1 = 4 then ((wire_GetText.f k l0 bt390.2.1).bind fun bt401 => (if bt401.2.2 = 0 then ((bV.f bt390.1 0 bt401.1).bind fun t404 => (if t404 = 0 then (some (bt390.1, 0, bt401.1, bt401.2.1, 0)) else (some (0, 0, (⟨#[]⟩ : ByteArray), 0, 3)))) else (some (0, 0, (⟨#[]⟩ : ByteArray), 0, 3)))) else ((bV.f bt390.1 0 (⟨#[]⟩ : ByteArray)).bind fun t405 => (if t405 = 0 then (some (bt390.1, 0, (⟨#[]⟩ : ByteArray), bt390.2.1, 0)) else (some (0, 0, (⟨#[]⟩ : ByteArray), 0, 3))))))) else (some (0, 0, (⟨#[]⟩ : ByteArray), 0, bt390.2.2)))) = some (r1, r2, r3, r4, r5) := h
 clear h
 obtain ⟨⟨t390, t391, t392⟩, A3, H⟩ := Option.bind_eq_some_iff.mp H
 try dsimp only at H
 replace A3 := mk_ A3
 by_cases c4 : t392 = 0
 rotate_left
 rw [if_neg c4] at H
 have c4b0 : (t392 == 0) = false := beq_eq_false_iff_ne.mpr c4
 have c4b1 : (t392 != 0) = true := bne_iff_ne.mpr c4
 simp only [Option.some.injEq, Prod.mk.injEq] at H
 obtain ⟨rfl, rfl, rfl, rfl, rfl⟩ := H
 rotate_right
 rw [if_pos c4] at H
 have c4b0 : (t392 == 0) = true := beq_iff_eq.mpr c4
 have c4b1 : (t392 != 0) = false := bne_eq_false_iff_eq.mpr c4
 clear c4
 by_cases c5 : t390 = 2
 rotate_left
 rw [if_neg c5] at H
 have c5b0 : (t390 == 2) = false := beq_eq_false_iff_ne.mpr c5
 have c5b1 : (t390 != 2) = true := bne_iff_ne.mpr c5
 by_cases c20 : t390 = 3
 rotate_left
 rw [if_neg c20] at H
 have c20b0 : (t390 == 3) = false := beq_eq_false_iff_ne.mpr c20
 have c20b1 : (t390 != 3) = true := bne_iff_ne.mpr c20
 by_cases c35 : t390 = 4
 rotate_left
 rw [if_neg c35] at H
 have c35b0 : (t390 == 4) = false := beq_eq_false_iff_ne.mpr c35
 have c35b1 : (t390 != 4) = true := bne_iff_ne.mpr c35
 obtain ⟨t405, A50, H⟩ := Option.bind_eq_some_iff.mp H
 replace A50 := mk_ A50
 by_cases c51 : t405 = 0
 rotate_left
 rw [if_neg c51] at H
 have c51b0 : (t405 == 0) = false := beq_eq_false_iff_ne.mpr c51
 have c51b1 : (t405 != 0) = true := bne_iff_ne.mpr c51
 simp only [Option.some.injEq, Prod.mk.injEq] at H
 obtain ⟨rfl, rfl, rfl, rfl, rfl⟩ := H
 rotate_right
 rw [if_pos c51] at H
 have c51b0 : (t405 == 0) = true := beq_iff_eq.mpr c51
 have c51b1 : (t405 != 0) = false := bne_eq_false_iff_eq.mpr c51
 clear c51
 simp only [Option.some.injEq, Prod.mk.injEq] at H
 obtain ⟨rfl, rfl, rfl, rfl, rfl⟩ := H
 rotate_right
 rw [if_pos c35] at H
 have c35b0 : (t390 == 4) = true := beq_iff_eq.mpr c35
 have c35b1 : (t390 != 4) = false := bne_eq_false_iff_eq.mpr c35
 clear c35
 obtain ⟨⟨t401, t402, t403⟩, A36, H⟩ := Option.bind_eq_some_iff.mp H
 try dsimp only at H
 replace A36 := mk_ A36
 by_cases c37 : t403 = 0
 rotate_left
 rw [if_neg c37] at H
 have c37b0 : (t403 == 0) = false := beq_eq_false_iff_ne.mpr c37
 have c37b1 : (t403 != 0) = true := bne_iff_ne.mpr c37
 simp only [Option.some.injEq, Prod.mk.injEq] at H
 obtain ⟨rfl, rfl, rfl, rfl, rfl⟩ := H
 rotate_right
 rw [if_pos c37] at H
 have c37b0 : (t403 == 0) = true := beq_iff_eq.mpr c37
 have c37b1 : (t403 != 0) = false := bne_eq_false_iff_eq.mpr c37
 clear c37
 obtain ⟨t404, A38, H⟩ := Option.bind_eq_some_iff.mp H
 replace A38 := mk_ A38
 by_cases c39 : t404 = 0
 rotate_left
 rw [if_neg c39] at H
 have c39b0 : (t404 == 0) = false := beq_eq_false_iff_ne.mpr c39
 have c39b1 : (t404 != 0) = true := bne_iff_ne.mpr c39
 simp only [Option.some.injEq, Prod.mk.injEq] at H
 obtain ⟨rfl, rfl, rfl, rfl, rfl⟩ := H
 rotate_right
 rw [if_pos c39] at H
 have c39b0 : (t404 == 0) = true := beq_iff_eq.mpr c39
 have c39b1 : (t404 != 0) = false := bne_eq_false_iff_eq.mpr c39
 clear c39
 simp only [Option.some.injEq, Prod.mk.injEq] at H
 obtain ⟨rfl, rfl, rfl, rfl, rfl⟩ := H
 rotate_right
 rw [if_pos c20] at H
 have c20b0 : (t390 == 3) = true := beq_iff_eq.mpr c20
 have c20b1 : (t390 != 3) = false := bne_eq_false_iff_eq.mpr c20
 clear c20
 obtain ⟨⟨t397, t398, t399⟩, A21, H⟩ := Option.bind_eq_some_iff.mp H
 try dsimp only at H
 replace A21 := mk_ A21
 by_cases c22 : t399 = 0
 rotate_left
 rw [if_neg c22] at H
 have c22b0 : (t399 == 0) = false := beq_eq_false_iff_ne.mpr c22
 have c22b1 : (t399 != 0) = true := bne_iff_ne.mpr c22
 simp only [Option.some.injEq, Prod.mk.injEq] at H
 obtain ⟨rfl, rfl, rfl, rfl, rfl⟩ := H
 rotate_right
 rw [if_pos c22] at H
 have c22b0 : (t399 == 0) = true := beq_iff_eq.mpr c22
 have c22b1 : (t399 != 0) = false := bne_eq_false_iff_eq.mpr c22
 clear c22
 obtain ⟨t400, A23, H⟩ := Option.bind_eq_some_iff.mp H
 replace A23 := mk_ A23
 by_cases c24 : t400 = 0
 rotate_left
 rw [if_neg c24] at H
 have c24b0 : (t400 == 0) = false := beq_eq_false_iff_ne.mpr c24
 have c24b1 : (t400 != 0) = true := bne_iff_ne.mpr c24
 simp only [Option.some.injEq, Prod.mk.injEq] at H
 obtain ⟨rfl, rfl, rfl, rfl, rfl⟩ := H
 rotate_right
 rw [if_pos c24] at H
 have c24b0 : (t400 == 0) = true := beq_iff_eq.mpr c24
 have c24b1 : (t400 != 0) = false := bne_eq_false_iff_eq.mpr c24
 clear c24
 simp only [Option.some.injEq, Prod.mk.injEq] at H
 obtain ⟨rfl, rfl, rfl, rfl, rfl⟩ := H
 rotate_right
 rw [if_pos c5] at H
 have c5b0 : (t390 == 2) = true := beq_iff_eq.mpr c5
 have c5b1 : (t390 != 2) = false := bne_eq_false_iff_eq.mpr c5
 clear c5
 obtain ⟨⟨t393, t394, t395⟩, A6, H⟩ := Option.bind_eq_some_iff.mp H
 try dsimp only at H
 replace A6 := mk_ A6
 by_cases c7 : t395 = 0
 rotate_left
 rw [if_neg c7] at H
 have c7b0 : (t395 == 0) = false := beq_eq_false_iff_ne.mpr c7
 have c7b1 : (t395 != 0) = true := bne_iff_ne.mpr c7
 simp only [Option.some.injEq, Prod.mk.injEq] at H
 obtain ⟨rfl, rfl, rfl, rfl, rfl⟩ := H
 rotate_right
 rw [if_pos c7] at H
 have c7b0 : (t395 == 0) = true := beq_iff_eq.mpr c7
 have c7b1 : (t395 != 0) = false := bne_eq_false_iff_eq.mpr c7
 clear c7
 obtain ⟨t396, A8, H⟩ := Option.bind_eq_some_iff.mp H
 replace A8 := mk_ A8
 by_cases c9 : t396 = 0
 rotate_left
 rw [if_neg c9] at H
 have c9b0 : (t396 == 0) = false := beq_eq_false_iff_ne.mpr c9
 have c9b1 : (t396 != 0) = true := bne_iff_ne.mpr c9
 simp only [Option.some.injEq, Prod.mk.injEq] at H
 obtain ⟨rfl, rfl, rfl, rfl, rfl⟩ := H
 rotate_right
 rw [if_pos c9] at H
 have c9b0 : (t396 == 0) = true := beq_iff_eq.mpr c9
 have c9b1 : (t396 != 0) = false := bne_eq_false_iff_eq.mpr c9
 clear c9
 simp only [Option.some.injEq, Prod.mk.injEq] at H
 obtain ⟨rfl, rfl, rfl, rfl, rfl⟩ := H
 all_goals
  go_enter Tryz.func93, Tryz.ntmps93
  go_wp2_with (first | ((with_reducible refine aY (N := 4) rfl ?_); refine aZ ?hg (N := 4) ?hd (cs := #[.int .i64 0, .int .i64 0, .string (⟨#[]⟩ : ByteArray)]) (t := 102) ?hr ?_; (case hd => rfl); (case hg => rfl); (case hr => first | (go_simp; done) | (go_simp; rfl)); intro gb389 hg w_4 hbox hb; have n0_ := mk_ (aA (Short.hB HB) hb); have n1_ := mk_ (hbox); have n2_ := mk_ ((by rw [hg]; exact (aC (Short.hB HB)) : w.heap.size ≤ gb389)); have n3_ := mk_ ((by rw [hg]; exact (aC (Short.hB HB)) : w.heap.size ≤ gb389)); clear HB; revert n0_ n1_ n2_ n3_; intro HB BK389 GW389 GE389; clear hb hbox hg) | ((with_reducible refine aJ (f := 91) rfl ?_); refine Short.gL (some 11) Tryz.func91 #[.slice A0 l0.length c0, .int .i64 a1, .int .i64 1] (h := ?_); (with_reducible refine (wire_Get.calls k _ _ l0 a1 1 t390 t391 t392 _ ?side1 ?side2 A3.out).mono ?_); (case side1 => exact cX_ (aV HR0.out HB.out)); (case side2 => exact HC0.out); rintro e w' ⟨rfl, ⟨nd, rfl⟩⟩; refine ⟨_, rfl, ?_⟩; (try (rw [drewN_self w_4]; generalize hq_ : World.drewN w_4 _ = w_4; have n0_ : Aside0 (w_4.heap[gb389]? = some (.cells #[.int .i64 0, .int .i64 0, .string (⟨#[]⟩ : ByteArray)] 102 (0, 0))) := ⟨by rw [← hq_]; exact (Short.bK BK389)⟩; have n1_ : Aside0 (Below w.heap.size w w_4) := ⟨by rw [← hq_]; exact (Short.hB HB)⟩; clear BK389 HB hq_; revert n0_ n1_; intro BK389 HB)); obtain ⟨hcz_0, hcz_1, hcz_2, hfz_0, hfz_1, hfz_2⟩ := Short.c3 BK389.out) | (go_at_call 98; (with_reducible refine (bV.calls t390 0 (⟨#[]⟩ : ByteArray) t405 _ A50.out).mono ?_); rintro e w_x2 ⟨rfl, hb⟩; have n0_ := mk_ (bQ (g := gb389) (o := .cells #[.int .i64 t390, .int .i64 0, .string (⟨#[]⟩ : ByteArray)] 102 (0, 0)) (by (with_reducible repeat (first | refine aG ?_ _ | refine aH ?_ | refine aE ?_ _)); refine bD (cs := #[.int .i64 0, .int .i64 0, .string (⟨#[]⟩ : ByteArray)]) ?_ 0 _ rfl; (with_reducible repeat (first | refine aG ?_ _ | refine aH ?_ | refine aE ?_ _)); exact BK389.out) hb); have n1_ := mk_ (aA (Short.hB HB) hb); clear BK389 HB; revert n0_ n1_; intro BK389 HB; (try clear hb); (try clear hb2); (try clear hk); (try clear hi); obtain ⟨hcz_0, hcz_1, hcz_2, hfz_0, hfz_1, hfz_2⟩ := Short.c3 BK389.out) | ((with_reducible refine aJ (f := 92) rfl ?_); refine Short.gL (some 47) Tryz.func92 #[.slice A0 l0.length c0, .int .i64 t391] (h := ?_); (with_reducible refine (wire_GetText.calls k _ _ l0 t391 t401 t402 t403 _ ?side1 ?side2 A36.out).mono ?_); (case side1 => exact aV HR0.out (Short.hB HB)); (case side2 => exact HC0.out); rintro e w' ⟨rfl, ⟨nd, rfl⟩⟩; refine ⟨_, rfl, ?_⟩) | (go_at_call 98; (with_reducible refine (bV.calls t390 0 t401 t404 _ A38.out).mono ?_); rintro e w_x3 ⟨rfl, hb⟩; have n0_ := mk_ (bQ (g := gb389) (o := .cells #[.int .i64 t390, .int .i64 0, .string t401] 102 (0, 0)) (by (with_reducible repeat (first | refine aG ?_ _ | refine aH ?_ | refine aE ?_ _)); refine bD (cs := #[.int .i64 t390, .int .i64 0, .string (⟨#[]⟩ : ByteArray)]) ?_ 2 _ rfl; (with_reducible repeat (first | refine aG ?_ _ | refine aH ?_ | refine aE ?_ _)); refine bD (cs := #[.int .i64 0, .int .i64 0, .string (⟨#[]⟩ : ByteArray)]) ?_ 0 _ rfl; (with_reducible repeat (first | refine aG ?_ _ | refine aH ?_ | refine aE ?_ _)); exact BK389.out) hb); have n1_ := mk_ (aA (Short.hB HB) hb); clear BK389 HB; revert n0_ n1_; intro BK389 HB; (try clear hb); (try clear hb2); (try clear hk); (try clear hi); obtain ⟨hcz_0, hcz_1, hcz_2, hfz_0, hfz_1, hfz_2⟩ := Short.c3 BK389.out) | ((with_reducible refine aJ (f := 109) rfl ?_); refine Short.gL (some 37) Tryz.func109 #[.slice A0 l0.length c0, .int .i64 t391] (h := ?_); (with_reducible refine (bT.calls k _ _ l0 t391 t397 t398 t399 _ ?side1 ?side2 A21.out).mono ?_); (case side1 => exact aV HR0.out (Short.hB HB)); (case side2 => exact HC0.out); rintro e w' ⟨rfl, ⟨nd, rfl⟩⟩; refine ⟨_, rfl, ?_⟩) | (go_at_call 98; (with_reducible refine (bV.calls t390 t397 (⟨#[]⟩ : ByteArray) t400 _ A23.out).mono ?_); rintro e w_x3 ⟨rfl, hb⟩; have n0_ := mk_ (bQ (g := gb389) (o := .cells #[.int .i64 t390, .int .i64 t397, .string (⟨#[]⟩ : ByteArray)] 102 (0, 0)) (by (with_reducible repeat (first | refine aG ?_ _ | refine aH ?_ | refine aE ?_ _)); refine bD (cs := #[.int .i64 t390, .int .i64 0, .string (⟨#[]⟩ : ByteArray)]) ?_ 1 _ rfl; (with_reducible repeat (first | refine aG ?_ _ | refine aH ?_ | refine aE ?_ _)); refine bD (cs := #[.int .i64 0, .int .i64 0, .string (⟨#[]⟩ : ByteArray)]) ?_ 0 _ rfl; (with_reducible repeat (first | refine aG ?_ _ | refine aH ?_ | refine aE ?_ _)); exact BK389.out) hb); have n1_ := mk_ (aA (Short.hB HB) hb); clear BK389 HB; revert n0_ n1_; intro BK389 HB; (try clear hb); (try clear hb2); (try clear hk); (try clear hi); obtain ⟨hcz_0, hcz_1, hcz_2, hfz_0, hfz_1, hfz_2⟩ := Short.c3 BK389.out) | ((with_reducible refine aJ (f := 91) rfl ?_); refine Short.gL (some 27) Tryz.func91 #[.slice A0 l0.length c0, .int .i64 t391, .int .i64 1] (h := ?_); (with_reducible refine (wire_Get.calls k _ _ l0 t391 1 t393 t394 t395 _ ?side1 ?side2 A6.out).mono ?_); (case side1 => exact aV HR0.out (Short.hB HB)); (case side2 => exact HC0.out); rintro e w' ⟨rfl, ⟨nd, rfl⟩⟩; refine ⟨_, rfl, ?_⟩) | (go_at_call 98; (with_reducible refine (bV.calls t390 t393 (⟨#[]⟩ : ByteArray) t396 _ A8.out).mono ?_); rintro e w_x3 ⟨rfl, hb⟩; have n0_ := mk_ (bQ (g := gb389) (o := .cells #[.int .i64 t390, .int .i64 t393, .string (⟨#[]⟩ : ByteArray)] 102 (0, 0)) (by (with_reducible repeat (first | refine aG ?_ _ | refine aH ?_ | refine aE ?_ _)); refine bD (cs := #[.int .i64 t390, .int .i64 0, .string (⟨#[]⟩ : ByteArray)]) ?_ 1 _ rfl; (with_reducible repeat (first | refine aG ?_ _ | refine aH ?_ | refine aE ?_ _)); refine bD (cs := #[.int .i64 0, .int .i64 0, .string (⟨#[]⟩ : ByteArray)]) ?_ 0 _ rfl; (with_reducible repeat (first | refine aG ?_ _ | refine aH ?_ | refine aE ?_ _)); exact BK389.out) hb); have n1_ := mk_ (aA (Short.hB HB) hb); clear BK389 HB; revert n0_ n1_; intro BK389 HB; (try clear hb); (try clear hb2); (try clear hk); (try clear hi); obtain ⟨hcz_0, hcz_1, hcz_2, hfz_0, hfz_1, hfz_2⟩ := Short.c3 BK389.out))
  first | refine bodyPost_ret (dS rfl _ _ gb389 102 #[.int .i64 0, .int .i64 0, .string (⟨#[]⟩ : ByteArray)] (0, 0) _ rfl (by (with_reducible repeat (first | refine aG ?_ _ | refine aH ?_ | refine aE ?_ _)); refine bD (cs := #[.int .i64 0, .int .i64 0, .string (⟨#[]⟩ : ByteArray)]) ?_ 2 _ rfl; (with_reducible repeat (first | refine aG ?_ _ | refine aH ?_ | refine aE ?_ _)); refine bD (cs := #[.int .i64 0, .int .i64 0, .string (⟨#[]⟩ : ByteArray)]) ?_ 1 _ rfl; (with_reducible repeat (first | refine aG ?_ _ | refine aH ?_ | refine aE ?_ _)); refine bD (cs := #[.int .i64 0, .int .i64 0, .string (⟨#[]⟩ : ByteArray)]) ?_ 0 _ rfl; (with_reducible repeat (first | refine aG ?_ _ | refine aH ?_ | refine aE ?_ _)); exact BK389.out) Tryz.underlying102 rfl z2_) rfl ?_ | refine bodyPost_ret (dS rfl _ _ gb389 102 #[.int .i64 0, .int .i64 0, .string (⟨#[]⟩ : ByteArray)] (0, 0) _ rfl (by (with_reducible repeat (first | refine aG ?_ _ | refine aH ?_ | refine aE ?_ _)); refine bD (cs := #[.int .i64 0, .int .i64 0, .string (⟨#[]⟩ : ByteArray)]) ?_ 2 _ rfl; (with_reducible repeat (first | refine aG ?_ _ | refine aH ?_ | refine aE ?_ _)); refine bD (cs := #[.int .i64 0, .int .i64 0, .string (⟨#[]⟩ : ByteArray)]) ?_ 1 _ rfl; (with_reducible repeat (first | refine aG ?_ _ | refine aH ?_ | refine aE ?_ _)); refine bD (cs := #[.int .i64 t390, .int .i64 0, .string (⟨#[]⟩ : ByteArray)]) ?_ 0 _ rfl; (with_reducible repeat (first | refine aG ?_ _ | refine aH ?_ | refine aE ?_ _)); exact BK389.out) Tryz.underlying102 rfl z2_) rfl ?_ | refine bodyPost_ret (dS rfl _ _ gb389 102 #[.int .i64 t390, .int .i64 0, .string (⟨#[]⟩ : ByteArray)] (0, 0) _ rfl (by (with_reducible repeat (first | refine aG ?_ _ | refine aH ?_ | refine aE ?_ _)); refine bD (cs := #[.int .i64 t390, .int .i64 0, .string (⟨#[]⟩ : ByteArray)]) ?_ 2 _ rfl; (with_reducible repeat (first | refine aG ?_ _ | refine aH ?_ | refine aE ?_ _)); refine bD (cs := #[.int .i64 t390, .int .i64 0, .string (⟨#[]⟩ : ByteArray)]) ?_ 1 _ rfl; (with_reducible repeat (first | refine aG ?_ _ | refine aH ?_ | refine aE ?_ _)); refine bD (cs := #[.int .i64 t390, .int .i64 0, .string (⟨#[]⟩ : ByteArray)]) ?_ 0 _ rfl; (with_reducible repeat (first | refine aG ?_ _ | refine aH ?_ | refine aE ?_ _)); exact BK389.out) Tryz.underlying102 rfl z2_) rfl ?_ | refine bodyPost_ret (dS rfl _ _ gb389 102 #[.int .i64 0, .int .i64 0, .string (⟨#[]⟩ : ByteArray)] (0, 0) _ rfl (by (with_reducible repeat (first | refine aG ?_ _ | refine aH ?_ | refine aE ?_ _)); refine bD (cs := #[.int .i64 0, .int .i64 0, .string t401]) ?_ 2 _ rfl; (with_reducible repeat (first | refine aG ?_ _ | refine aH ?_ | refine aE ?_ _)); refine bD (cs := #[.int .i64 0, .int .i64 0, .string t401]) ?_ 1 _ rfl; (with_reducible repeat (first | refine aG ?_ _ | refine aH ?_ | refine aE ?_ _)); refine bD (cs := #[.int .i64 t390, .int .i64 0, .string t401]) ?_ 0 _ rfl; (with_reducible repeat (first | refine aG ?_ _ | refine aH ?_ | refine aE ?_ _)); refine bD (cs := #[.int .i64 t390, .int .i64 0, .string (⟨#[]⟩ : ByteArray)]) ?_ 2 _ rfl; (with_reducible repeat (first | refine aG ?_ _ | refine aH ?_ | refine aE ?_ _)); refine bD (cs := #[.int .i64 0, .int .i64 0, .string (⟨#[]⟩ : ByteArray)]) ?_ 0 _ rfl; (with_reducible repeat (first | refine aG ?_ _ | refine aH ?_ | refine aE ?_ _)); exact BK389.out) Tryz.underlying102 rfl z2_) rfl ?_ | refine bodyPost_ret (dS rfl _ _ gb389 102 #[.int .i64 0, .int .i64 0, .string (⟨#[]⟩ : ByteArray)] (0, 0) _ rfl (by (with_reducible repeat (first | refine aG ?_ _ | refine aH ?_ | refine aE ?_ _)); refine bD (cs := #[.int .i64 0, .int .i64 0, .string t401]) ?_ 2 _ rfl; (with_reducible repeat (first | refine aG ?_ _ | refine aH ?_ | refine aE ?_ _)); refine bD (cs := #[.int .i64 0, .int .i64 0, .string t401]) ?_ 1 _ rfl; (with_reducible repeat (first | refine aG ?_ _ | refine aH ?_ | refine aE ?_ _)); refine bD (cs := #[.int .i64 t390, .int .i64 0, .string t401]) ?_ 0 _ rfl; (with_reducible repeat (first | refine aG ?_ _ | refine aH ?_ | refine aE ?_ _)); exact BK389.out) Tryz.underlying102 rfl z2_) rfl ?_ | refine bodyPost_ret (dS rfl _ _ gb389 102 #[.int .i64 t390, .int .i64 0, .string t401] (0, 0) _ rfl (by (with_reducible repeat (first | refine aG ?_ _ | refine aH ?_ | refine aE ?_ _)); refine bD (cs := #[.int .i64 t390, .int .i64 0, .string t401]) ?_ 2 _ rfl; (with_reducible repeat (first | refine aG ?_ _ | refine aH ?_ | refine aE ?_ _)); refine bD (cs := #[.int .i64 t390, .int .i64 0, .string t401]) ?_ 1 _ rfl; (with_reducible repeat (first | refine aG ?_ _ | refine aH ?_ | refine aE ?_ _)); refine bD (cs := #[.int .i64 t390, .int .i64 0, .string t401]) ?_ 0 _ rfl; (with_reducible repeat (first | refine aG ?_ _ | refine aH ?_ | refine aE ?_ _)); exact BK389.out) Tryz.underlying102 rfl z2_) rfl ?_ | refine bodyPost_ret (dS rfl _ _ gb389 102 #[.int .i64 0, .int .i64 0, .string (⟨#[]⟩ : ByteArray)] (0, 0) _ rfl (by (with_reducible repeat (first | refine aG ?_ _ | refine aH ?_ | refine aE ?_ _)); refine bD (cs := #[.int .i64 0, .int .i64 0, .string (⟨#[]⟩ : ByteArray)]) ?_ 2 _ rfl; (with_reducible repeat (first | refine aG ?_ _ | refine aH ?_ | refine aE ?_ _)); refine bD (cs := #[.int .i64 0, .int .i64 t397, .string (⟨#[]⟩ : ByteArray)]) ?_ 1 _ rfl; (with_reducible repeat (first | refine aG ?_ _ | refine aH ?_ | refine aE ?_ _)); refine bD (cs := #[.int .i64 t390, .int .i64 t397, .string (⟨#[]⟩ : ByteArray)]) ?_ 0 _ rfl; (with_reducible repeat (first | refine aG ?_ _ | refine aH ?_ | refine aE ?_ _)); refine bD (cs := #[.int .i64 t390, .int .i64 0, .string (⟨#[]⟩ : ByteArray)]) ?_ 1 _ rfl; (with_reducible repeat (first | refine aG ?_ _ | refine aH ?_ | refine aE ?_ _)); refine bD (cs := #[.int .i64 0, .int .i64 0, .string (⟨#[]⟩ : ByteArray)]) ?_ 0 _ rfl; (with_reducible repeat (first | refine aG ?_ _ | refine aH ?_ | refine aE ?_ _)); exact BK389.out) Tryz.underlying102 rfl z2_) rfl ?_ | refine bodyPost_ret (dS rfl _ _ gb389 102 #[.int .i64 0, .int .i64 0, .string (⟨#[]⟩ : ByteArray)] (0, 0) _ rfl (by (with_reducible repeat (first | refine aG ?_ _ | refine aH ?_ | refine aE ?_ _)); refine bD (cs := #[.int .i64 0, .int .i64 0, .string (⟨#[]⟩ : ByteArray)]) ?_ 2 _ rfl; (with_reducible repeat (first | refine aG ?_ _ | refine aH ?_ | refine aE ?_ _)); refine bD (cs := #[.int .i64 0, .int .i64 t397, .string (⟨#[]⟩ : ByteArray)]) ?_ 1 _ rfl; (with_reducible repeat (first | refine aG ?_ _ | refine aH ?_ | refine aE ?_ _)); refine bD (cs := #[.int .i64 t390, .int .i64 t397, .string (⟨#[]⟩ : ByteArray)]) ?_ 0 _ rfl; (with_reducible repeat (first | refine aG ?_ _ | refine aH ?_ | refine aE ?_ _)); exact BK389.out) Tryz.underlying102 rfl z2_) rfl ?_ | refine bodyPost_ret (dS rfl _ _ gb389 102 #[.int .i64 t390, .int .i64 t397, .string (⟨#[]⟩ : ByteArray)] (0, 0) _ rfl (by (with_reducible repeat (first | refine aG ?_ _ | refine aH ?_ | refine aE ?_ _)); refine bD (cs := #[.int .i64 t390, .int .i64 t397, .string (⟨#[]⟩ : ByteArray)]) ?_ 2 _ rfl; (with_reducible repeat (first | refine aG ?_ _ | refine aH ?_ | refine aE ?_ _)); refine bD (cs := #[.int .i64 t390, .int .i64 t397, .string (⟨#[]⟩ : ByteArray)]) ?_ 1 _ rfl; (with_reducible repeat (first | refine aG ?_ _ | refine aH ?_ | refine aE ?_ _)); refine bD (cs := #[.int .i64 t390, .int .i64 t397, .string (⟨#[]⟩ : ByteArray)]) ?_ 0 _ rfl; (with_reducible repeat (first | refine aG ?_ _ | refine aH ?_ | refine aE ?_ _)); exact BK389.out) Tryz.underlying102 rfl z2_) rfl ?_ | refine bodyPost_ret (dS rfl _ _ gb389 102 #[.int .i64 0, .int .i64 0, .string (⟨#[]⟩ : ByteArray)] (0, 0) _ rfl (by (with_reducible repeat (first | refine aG ?_ _ | refine aH ?_ | refine aE ?_ _)); refine bD (cs := #[.int .i64 0, .int .i64 0, .string (⟨#[]⟩ : ByteArray)]) ?_ 2 _ rfl; (with_reducible repeat (first | refine aG ?_ _ | refine aH ?_ | refine aE ?_ _)); refine bD (cs := #[.int .i64 0, .int .i64 t393, .string (⟨#[]⟩ : ByteArray)]) ?_ 1 _ rfl; (with_reducible repeat (first | refine aG ?_ _ | refine aH ?_ | refine aE ?_ _)); refine bD (cs := #[.int .i64 t390, .int .i64 t393, .string (⟨#[]⟩ : ByteArray)]) ?_ 0 _ rfl; (with_reducible repeat (first | refine aG ?_ _ | refine aH ?_ | refine aE ?_ _)); refine bD (cs := #[.int .i64 t390, .int .i64 0, .string (⟨#[]⟩ : ByteArray)]) ?_ 1 _ rfl; (with_reducible repeat (first | refine aG ?_ _ | refine aH ?_ | refine aE ?_ _)); refine bD (cs := #[.int .i64 0, .int .i64 0, .string (⟨#[]⟩ : ByteArray)]) ?_ 0 _ rfl; (with_reducible repeat (first | refine aG ?_ _ | refine aH ?_ | refine aE ?_ _)); exact BK389.out) Tryz.underlying102 rfl z2_) rfl ?_ | refine bodyPost_ret (dS rfl _ _ gb389 102 #[.int .i64 0, .int .i64 0, .string (⟨#[]⟩ : ByteArray)] (0, 0) _ rfl (by (with_reducible repeat (first | refine aG ?_ _ | refine aH ?_ | refine aE ?_ _)); refine bD (cs := #[.int .i64 0, .int .i64 0, .string (⟨#[]⟩ : ByteArray)]) ?_ 2 _ rfl; (with_reducible repeat (first | refine aG ?_ _ | refine aH ?_ | refine aE ?_ _)); refine bD (cs := #[.int .i64 0, .int .i64 t393, .string (⟨#[]⟩ : ByteArray)]) ?_ 1 _ rfl; (with_reducible repeat (first | refine aG ?_ _ | refine aH ?_ | refine aE ?_ _)); refine bD (cs := #[.int .i64 t390, .int .i64 t393, .string (⟨#[]⟩ : ByteArray)]) ?_ 0 _ rfl; (with_reducible repeat (first | refine aG ?_ _ | refine aH ?_ | refine aE ?_ _)); exact BK389.out) Tryz.underlying102 rfl z2_) rfl ?_ | refine bodyPost_ret (dS rfl _ _ gb389 102 #[.int .i64 t390, .int .i64 t393, .string (⟨#[]⟩ : ByteArray)] (0, 0) _ rfl (by (with_reducible repeat (first | refine aG ?_ _ | refine aH ?_ | refine aE ?_ _)); refine bD (cs := #[.int .i64 t390, .int .i64 t393, .string (⟨#[]⟩ : ByteArray)]) ?_ 2 _ rfl; (with_reducible repeat (first | refine aG ?_ _ | refine aH ?_ | refine aE ?_ _)); refine bD (cs := #[.int .i64 t390, .int .i64 t393, .string (⟨#[]⟩ : ByteArray)]) ?_ 1 _ rfl; (with_reducible repeat (first | refine aG ?_ _ | refine aH ?_ | refine aE ?_ _)); refine bD (cs := #[.int .i64 t390, .int .i64 t393, .string (⟨#[]⟩ : ByteArray)]) ?_ 0 _ rfl; (with_reducible repeat (first | refine aG ?_ _ | refine aH ?_ | refine aE ?_ _)); exact BK389.out) Tryz.underlying102 rfl z2_) rfl ?_
  exact ⟨q0, Short.hB HB⟩
def row_Read.l0 : Nat → List Int → List (S102) → Int → Int → Int → Option ((List (S102)) × Int × Int)
 | 0, _, _, _, _, _ => none
 | k + 1, x0, x4, x5, x23, x24 => if x24 < x23 then ((gB.f k x0 x5).bind fun bt409 => (if bt409.2.2.2.2 = 0 then (if x4.length < 4398046511104 then (row_Read.l0 k x0 (x4 ++ [(⟨bt409.1, bt409.2.1, bt409.2.2.1⟩ : S102)]) bt409.2.2.2.1 x23 (wrap64 (x24 + 1))) else (none)) else (some (([] : List (S102)), 0, 3)))) else (some (x4, x5, 0))
def row_Read.f (k : Nat) (l0 : List Int) (a1 : Int) : Option ((List (S102)) × Int × Int) := (wire_Get.f k l0 a1 1).bind fun bt406 => (if bt406.2.2 = 0 then (if bt406.1 > 12 then (some (([] : List (S102)), 0, 3)) else (row_Read.l0 k l0 ([] : List (S102)) bt406.2.1 bt406.1 0)) else (some (([] : List (S102)), 0, bt406.2.2)))
theorem row_Read.calls (k : Nat) (A0 : Option Addr) (c0 : Nat) (l0 : List Int) (a1 : Int) (r1 : List (S102)) (r2 : Int) (r3 : Int) (w : World) (hr0 : Kd.C (Kd.int .u8) w A0 l0.length l0) (hc0 : l0.length ≤ c0) (h : row_Read.f k l0 a1 = some (r1, r2, r3)) :
  Calls Tryz.prog 75 #[.slice A0 l0.length c0, .int .i64 a1] w fun e w' => ∃ v0_ : Value, e = .returned (.tuple #[v0_, .int .i64 r2, .int .i64 r3]) ∧ Kd.R k102 102 w' w.heap.size (fun _ => True) v0_ r1 ∧ Below w.heap.size w w' := by
 have hu102 := Tryz.underlying102
 have HR0 := mk_ hr0
 have HC0 := mk_ hc0
 clear hr0 hc0
 have HB := mk_ (Below.refl w.heap.size w)
 have H : ((wire_Get.f k l0 a1 1).bind fun bt406 => (if bt406.2.2 = 0 then (if bt406.1 > 12 then (some (([] : List (S102)), 0, 3)) else (row_Read.l0 k l0 ([] : List (S102)) bt406.2.1 bt406.1 0)) else (some (([] : List (S102)), 0, bt406.2.2)))) = some (r1, r2, r3) := h
 clear h
 obtain ⟨⟨t406, t407, t408⟩, A3, H⟩ := Option.bind_eq_some_iff.mp H
 try dsimp only at H
 replace A3 := mk_ A3
 by_cases c4 : t408 = 0
 rotate_left
 ·
  rw [if_neg c4] at H
  have c4b0 : (t408 == 0) = false := beq_eq_false_iff_ne.mpr c4
  have c4b1 : (t408 != 0) = true := bne_iff_ne.mpr c4
  simp only [Option.some.injEq, Prod.mk.injEq] at H
  obtain ⟨rfl, rfl, rfl⟩ := H
  go_enter Tryz.func75, Tryz.ntmps75
  go_wp2_with (first | ((with_reducible refine aJ (f := 91) rfl ?_); refine Short.gL (some 14) Tryz.func91 #[.slice A0 l0.length c0, .int .i64 a1, .int .i64 1] (h := ?_); (with_reducible refine (wire_Get.calls k _ _ l0 a1 1 t406 t407 t408 _ ?side1 ?side2 A3.out).mono ?_); (case side1 => repeat (first | exact HR0.out | (with_reducible refine C_alloc ?_ _) | (with_reducible refine C_drewN ?_ _) | (with_reducible refine C_drew ?_))); (case side2 => exact HC0.out); rintro e w' ⟨rfl, ⟨nd, rfl⟩⟩; refine ⟨_, rfl, ?_⟩))
  go_ret3
  exact ⟨_, by first | rfl | (simp [bA, bB] <;> rfl) | (simp [*, bA, bB] <;> rfl), by first | exact R_nil _ _ _ _ _ | exact N_nil _ _ _ _ _ | exact V_nil _ _ _ _ _ | exact Q_nil _ _ _ _ _ | exact S_nil _ _ _ _ _, Short.hB HB⟩
 rw [if_pos c4] at H
 have c4b0 : (t408 == 0) = true := beq_iff_eq.mpr c4
 have c4b1 : (t408 != 0) = false := bne_eq_false_iff_eq.mpr c4
 clear c4
 by_cases c5 : t406 > 12
 ·
  rw [if_pos c5] at H
  have c5b0 : decide (12 < t406) = true := decide_eq_true c5
  clear c5
  simp only [Option.some.injEq, Prod.mk.injEq] at H
  obtain ⟨rfl, rfl, rfl⟩ := H
  go_enter Tryz.func75, Tryz.ntmps75
  go_wp2_with (first | ((with_reducible refine aJ (f := 91) rfl ?_); refine Short.gL (some 14) Tryz.func91 #[.slice A0 l0.length c0, .int .i64 a1, .int .i64 1] (h := ?_); (with_reducible refine (wire_Get.calls k _ _ l0 a1 1 t406 t407 t408 _ ?side1 ?side2 A3.out).mono ?_); (case side1 => repeat (first | exact HR0.out | (with_reducible refine C_alloc ?_ _) | (with_reducible refine C_drewN ?_ _) | (with_reducible refine C_drew ?_))); (case side2 => exact HC0.out); rintro e w' ⟨rfl, ⟨nd, rfl⟩⟩; refine ⟨_, rfl, ?_⟩))
  go_ret3
  exact ⟨_, by first | rfl | (simp [bA, bB] <;> rfl) | (simp [*, bA, bB] <;> rfl), by first | exact R_nil _ _ _ _ _ | exact N_nil _ _ _ _ _ | exact V_nil _ _ _ _ _ | exact Q_nil _ _ _ _ _ | exact S_nil _ _ _ _ _, Short.hB HB⟩
 rw [if_neg c5] at H
 have c5b0 : decide (12 < t406) = false := decide_eq_false c5
 clear c5
 have H' := mk_ H
 clear H
 go_enter Tryz.func75, Tryz.ntmps75
 go_wp2_with (first | ((with_reducible refine aJ (f := 91) rfl ?_); refine Short.gL (some 14) Tryz.func91 #[.slice A0 l0.length c0, .int .i64 a1, .int .i64 1] (h := ?_); (with_reducible refine (wire_Get.calls k _ _ l0 a1 1 t406 t407 t408 _ ?side1 ?side2 A3.out).mono ?_); (case side1 => repeat (first | exact HR0.out | (with_reducible refine C_alloc ?_ _) | (with_reducible refine C_drewN ?_ _) | (with_reducible refine C_drew ?_))); (case side2 => exact HC0.out); rintro e w' ⟨rfl, ⟨nd, rfl⟩⟩; refine ⟨_, rfl, ?_⟩))
 go_loopg [4, 5, 24] k (fun kq v4 v5 v24 w' => ∃ (x4_1 : List (S102)) (x5_1 : Int) (x24_1 : Int), v5 = .int .i64 x5_1 ∧ v24 = .int .i64 x24_1 ∧ Aside0 (row_Read.l0 kq l0 x4_1 x5_1 t406 x24_1 = some (r1, r2, r3)) ∧ Aside0 (kq ≤ k) ∧ Aside0 (Kd.R k102 102 w' w.heap.size (fun _ => True) v4 x4_1) ∧ Aside0 (Below w.heap.size w w'))
 case atStart => exact ⟨(([] : List (S102))), (t407), (0), z3_, z3_, H', ⟨Nat.le_refl _⟩, ⟨by first | exact R_nil _ _ _ _ _ | exact N_nil _ _ _ _ _ | exact V_nil _ _ _ _ _ | exact Q_nil _ _ _ _ _ | exact S_nil _ _ _ _ _⟩, ⟨Short.hB HB⟩⟩
 case round =>
  clear H'
  try clear p2
  try clear c4
  try clear c4b0
  try clear c4b1
  try clear c5
  try clear c5b0
  obtain ⟨x4_1, x5_1, x24_1, rfl, rfl, HA, HK1, HO_4, HB⟩ := hrel
  cases gk with
  | zero => exact absurd HA.out (by simp [row_Read.l0])
  | succ k1 =>
   have H := HA.out
   clear HA
   simp only [row_Read.l0] at H
   by_cases c6 : x24_1 < t406
   rotate_left
   ·
    rw [if_neg c6] at H
    have c6b0 : decide (x24_1 < t406) = false := decide_eq_false c6
    clear c6
    simp only [Option.some.injEq, Prod.mk.injEq] at H
    obtain ⟨rfl, rfl, rfl⟩ := H
    go_wp2
    go_ret3
    exact ⟨_, by first | rfl | (simp [bA, bB] <;> rfl) | (simp [*, bA, bB] <;> rfl), by (with_reducible repeat (first | apply R_alloc | apply R_drewN | apply R_drew)); exact HO_4.out, Short.hB HB⟩
   rw [if_pos c6] at H
   have c6b0 : decide (x24_1 < t406) = true := decide_eq_true c6
   clear c6
   obtain ⟨⟨t409, t410, t411, t412, t413⟩, A7, H⟩ := Option.bind_eq_some_iff.mp H
   try dsimp only at H
   replace A7 := mk_ A7
   by_cases c8 : t413 = 0
   rotate_left
   ·
    rw [if_neg c8] at H
    have c8b0 : (t413 == 0) = false := beq_eq_false_iff_ne.mpr c8
    have c8b1 : (t413 != 0) = true := bne_iff_ne.mpr c8
    simp only [Option.some.injEq, Prod.mk.injEq] at H
    obtain ⟨rfl, rfl, rfl⟩ := H
    go_wp2_with (first | ((with_reducible refine aJ (f := 93) rfl ?_); refine Short.gL (some 29) Tryz.func93 #[.slice A0 l0.length c0, .int .i64 x5_1] (h := ?_); (with_reducible refine (gB.calls k1 _ _ l0 x5_1 t409 t410 t411 t412 t413 _ ?side1 ?side2 A7.out).mono ?_); (case side1 => exact cX_ (aV HR0.out HB.out)); (case side2 => exact HC0.out); rintro e w14 ⟨rfl, hb⟩; refine ⟨_, rfl, ?_⟩; have n0_ := mk_ (bY (ZKR HO_4) hb); have n1_ := mk_ (aA (Short.hB HB) hb); clear HO_4 HB; revert n0_ n1_; intro HO_4 HB; (try clear hb)) | ((with_reducible refine aY (N := 8) rfl ?_); refine aZ ?hg (N := 8) ?hd (cs := #[.int .i64 0, .int .i64 0, .string (⟨#[]⟩ : ByteArray)]) (t := 102) ?hr ?_; (case hd => rfl); (case hg => rfl); (case hr => first | (go_simp; done) | (go_simp; rfl)); intro gb414 hg w15 hbox hb; have n0_ := mk_ (bY (R_elderB (ZKR HO_4) gb414 (Nat.le_of_eq hg.symm)) hb); have n1_ := mk_ (aA (Short.hB HB) hb); have n2_ := mk_ (hbox); have n3_ := mk_ ((by rw [hg]; exact (aC (Short.hB HB)) : w.heap.size ≤ gb414)); have n4_ := mk_ ((by rw [hg]; exact (aC (Short.hB HB)) : w.heap.size ≤ gb414)); clear HO_4 HB; revert n0_ n1_ n2_ n3_ n4_; intro HO_4 HB BK414 GW414 GE414; clear hb hbox hg; obtain ⟨hcz_0, hcz_1, hcz_2, hfz_0, hfz_1, hfz_2⟩ := Short.c3 BK414.out))
    go_ret3
    exact ⟨_, by first | rfl | (simp [bA, bB] <;> rfl) | (simp [*, bA, bB] <;> rfl), by first | exact R_nil _ _ _ _ _ | exact N_nil _ _ _ _ _ | exact V_nil _ _ _ _ _ | exact Q_nil _ _ _ _ _ | exact S_nil _ _ _ _ _, Short.hB HB⟩
   rw [if_pos c8] at H
   have c8b0 : (t413 == 0) = true := beq_iff_eq.mpr c8
   have c8b1 : (t413 != 0) = false := bne_eq_false_iff_eq.mpr c8
   clear c8
   by_cases c9 : x4_1.length < 4398046511104
   rotate_left
   ·
    rw [if_neg c9] at H
    exact absurd H z6_
   rw [if_pos c9] at H
   have LMc9 := mk_ c9
   clear c9
   obtain ⟨y415, hy415⟩ : ∃ y_ : List (S102), y_ = (x4_1 ++ [(⟨t409, t410, t411⟩ : S102)]) := ⟨_, rfl⟩
   replace H : (row_Read.l0 k1 l0 y415 t412 t406 (wrap64 (x24_1 + 1))) = some (r1, r2, r3) := by first | (rw [hy415]; with_reducible exact H) | (have H2_ := (Option.bind_some _ _).symm.trans H; rw [hy415]; with_reducible exact H2_) | (have H2_ := (Option.bind_some _ _).symm.trans H; with_reducible exact H2_) | with_reducible exact H | (rw [hy415]; exact H) | exact H
   have Ny415 := mk_ hy415
   clear hy415
   have H' := mk_ H
   clear H
   go_wp2_with (first | ((with_reducible refine aJ (f := 93) rfl ?_); refine Short.gL (some 29) Tryz.func93 #[.slice A0 l0.length c0, .int .i64 x5_1] (h := ?_); (with_reducible refine (gB.calls k1 _ _ l0 x5_1 t409 t410 t411 t412 t413 _ ?side1 ?side2 A7.out).mono ?_); (case side1 => exact cX_ (aV HR0.out HB.out)); (case side2 => exact HC0.out); rintro e w10 ⟨rfl, hb⟩; refine ⟨_, rfl, ?_⟩; have n0_ := mk_ (bY (ZKR HO_4) hb); have n1_ := mk_ (aA (Short.hB HB) hb); clear HO_4 HB; revert n0_ n1_; intro HO_4 HB; (try clear hb)) | ((with_reducible refine aY (N := 8) rfl ?_); refine aZ ?hg (N := 8) ?hd (cs := #[.int .i64 0, .int .i64 0, .string (⟨#[]⟩ : ByteArray)]) (t := 102) ?hr ?_; (case hd => rfl); (case hg => rfl); (case hr => first | (go_simp; done) | (go_simp; rfl)); intro gb414 hg w11 hbox hb; have n0_ := mk_ (bY (R_elderB (ZKR HO_4) gb414 (Nat.le_of_eq hg.symm)) hb); have n1_ := mk_ (aA (Short.hB HB) hb); have n2_ := mk_ (hbox); have n3_ := mk_ ((by rw [hg]; exact (aC (Short.hB HB)) : w.heap.size ≤ gb414)); have n4_ := mk_ ((by rw [hg]; exact (aC (Short.hB HB)) : w.heap.size ≤ gb414)); clear HO_4 HB; revert n0_ n1_ n2_ n3_ n4_; intro HO_4 HB BK414 GW414 GE414; clear hb hbox hg; obtain ⟨hcz_0, hcz_1, hcz_2, hfz_0, hfz_1, hfz_2⟩ := Short.c3 BK414.out) | ((with_reducible refine cM (b := .append) (xs := #[.tmp 35, .tmp 37]) rfl ?_); at_builtin; refine fR k102 (w0 := w) w.heap.size rfl (.tmp 35) (.tmp 37) 28 102 (.agg #[(.int .i64 0), (.int .i64 0), (.string ⟨#[]⟩)]) 32 rfl Tryz.underlying28 info102 rfl z5_ z4_ u4 x4_1 (⟨t409, t410, t411⟩ : S102) [.int .i64 t409, .int .i64 t410, .string t411] (fun k_ => k_ ≠ gb414) (fun _ => False) rfl (by first | (go_simp; done) | (go_simp; rfl)) ?aP (fun _ hk => hk.elim) ?aF ?aO ?aB ?aS ?aL ?_; (case aP => exact k102_mkM _ _ _ (⟨t409, t410, t411⟩ : S102)); (case aB => exact (Short.hB HB)); (case aF => exact (fun k_ hk => Kd.freshB (g := gb414) (o := .cells #[.int .i64 t409, .int .i64 t410, .string t411] 102 (0, 0)) (by (with_reducible repeat (first | refine aG ?_ _ | refine aH ?_ | refine aE ?_ _)); refine bD (cs := #[.int .i64 t409, .int .i64 t410, .string (⟨#[]⟩ : ByteArray)]) ?_ 2 _ rfl; (with_reducible repeat (first | refine aG ?_ _ | refine aH ?_ | refine aE ?_ _)); refine bD (cs := #[.int .i64 t409, .int .i64 0, .string (⟨#[]⟩ : ByteArray)]) ?_ 1 _ rfl; (with_reducible repeat (first | refine aG ?_ _ | refine aH ?_ | refine aE ?_ _)); refine bD (cs := #[.int .i64 0, .int .i64 0, .string (⟨#[]⟩ : ByteArray)]) ?_ 0 _ rfl; (with_reducible repeat (first | refine aG ?_ _ | refine aH ?_ | refine aE ?_ _)); exact BK414.out) k_ hk)); (case aO => exact (by (with_reducible repeat (first | apply R_alloc | apply R_drewN | apply R_drew)); exact R_mono (R_far (p := ⟨gb414, 2, none⟩) (R_far (p := ⟨gb414, 1, none⟩) (R_far (p := ⟨gb414, 0, none⟩) (R_mono HO_4.out (fun k_ hk => (⟨hk, hk.2⟩ : _ ∧ k_ ≠ gb414))) (fun _ hk => hk.2) (.int .i64 t409)) (fun _ hk => hk.2) (.int .i64 t410)) (fun _ hk => hk.2) (.string t411)) (fun _ hk => hk.1.2))); (case aS => exact (aC (Short.hB HB))); (case aL => have := LMc9.out; omega); intro v416 w13 ho hb hg hat; rw [← Ny415.out] at ho; have n0_ := mk_ (dJ (g := gb414) (o := .cells #[.int .i64 t409, .int .i64 t410, .string t411] 102 (0, 0)) (by (with_reducible repeat (first | refine aG ?_ _ | refine aH ?_ | refine aE ?_ _)); refine bD (cs := #[.int .i64 t409, .int .i64 t410, .string (⟨#[]⟩ : ByteArray)]) ?_ 2 _ rfl; (with_reducible repeat (first | refine aG ?_ _ | refine aH ?_ | refine aE ?_ _)); refine bD (cs := #[.int .i64 t409, .int .i64 0, .string (⟨#[]⟩ : ByteArray)]) ?_ 1 _ rfl; (with_reducible repeat (first | refine aG ?_ _ | refine aH ?_ | refine aE ?_ _)); refine bD (cs := #[.int .i64 0, .int .i64 0, .string (⟨#[]⟩ : ByteArray)]) ?_ 0 _ rfl; (with_reducible repeat (first | refine aG ?_ _ | refine aH ?_ | refine aE ?_ _)); exact BK414.out) hg (R_away HO_4.out (fun _ hk => hk.2))); have n1_ := mk_ (hb); have n2_ := mk_ (ho); clear BK414 HB HO_4; revert n0_ n1_ n2_; intro BK414 HB HO417; clear ho hb hg hat))
   go_roundg k1
   case measure => have := HK1.out; omega
   case rel => exact ⟨(y415), (t412), (wrap64 (x24_1 + 1)), z3_, z3_, H', ⟨by have := HK1.out; omega⟩, ⟨by (with_reducible repeat (first | apply R_alloc | apply R_drewN | apply R_drew)); exact R_mono HO417.out (fun _ hk => trivial)⟩, ⟨Short.hB HB⟩⟩
end Go.Proofs.YtjnjfogfpmeacaaGreat.PAll
end
section
namespace Go.Proofs.YtjnjfogfpmeacaaGreat.Plain
open Go.RowKit PAll PrintWords PrintLast PrintMore ZipT PrintWords.Kd PrintMore.Kd
set_option linter.unusedVariables false
set_option linter.unusedSimpArgs false
theorem pow256 (s : Nat) : (2 : Int) ^ (8 * s) = 256 ^ s := by rw [Int.pow_mul]; rfl
theorem pow256_le {s : Nat} (h : s ≤ 7) : (256 : Int) ^ s ≤ 72057594037927936 := by
 have : s = 0 ∨ s = 1 ∨ s = 2 ∨ s = 3 ∨ s = 4 ∨ s = 5 ∨ s = 6 ∨ s = 7 := by omega
 rcases this with rfl | rfl | rfl | rfl | rfl | rfl | rfl | rfl <;> decide
theorem shr_bytes (n : Int) (i : Nat) (hi : i ≤ 8) : shr .i64 n (8 * i) = n / 256 ^ i := by
 unfold shr
 have h1 : (8 * (i : Int)).toNat = 8 * i := by omega
 rw [h1, Nat.min_eq_left (by simp [IntKind.bits]; omega), pow256]
theorem shl_bytes (i : Nat) (hi : i ≤ 7) : shl .i64 1 (8 * i) = 256 ^ i := by
 unfold shl
 have h1 : (8 * (i : Int)).toNat = 8 * i := by omega
 have h2 := pow256_le hi
 have h3 := pow_pos i
 rw [h1, Nat.min_eq_left (by simp [IntKind.bits]; omega), pow256, wi64, Int.one_mul, w64 z4_ z4_]
theorem jL (l : List Int) (hl : l.length ≤ 1000000) : cA.f l = some l := by
 unfold cA.f
 simp only [Option.bind_some, List.length_nil, List.nil_append]
 rw [if_pos z4_]
theorem big_l0 (n : Int) (i : Nat) : ∀ (k : Nat) (out : List Int), i ≤ 8 → out.length + i ≤ 1000000 → i < k → dK.l0 k n out ((i : Int) - 1) = some (out ++ big n i) := by
 induction i with
 | zero =>
  intro k out _ _ hk
  obtain ⟨k, rfl⟩ : ∃ m, k = m + 1 := ⟨k - 1, by omega⟩
  simp only [dK.l0]
  rw [if_neg z4_]
  simp [big]
 | succ i ih =>
  intro k out hi ho hk
  obtain ⟨k, rfl⟩ : ∃ m, k = m + 1 := ⟨k - 1, by omega⟩
  simp only [dK.l0]
  have e : (((i + 1 : Nat) : Int) - 1) = (i : Int) := by omega
  rw [e, if_pos z4_, w64 z4_ z4_, if_pos z4_, if_pos z4_, shr_bytes n i z4_, w64 z4_ z4_, ih k _ z4_ (by simp; omega) z4_]
  simp [big]
theorem big_eq (k : Nat) (l : List Int) (n size : Int) (h0 : 0 ≤ size) (h1 : size ≤ 8) (hl : l.length ≤ 900000) (hk : 10 ≤ k) : dK.f k l n size = some (l ++ big n size.toNat) := by
 obtain ⟨s, rfl⟩ := Int.eq_ofNat_of_zero_le h0
 unfold dK.f
 rw [jL l z4_, Option.bind_some, w64 z4_ z4_, Int.toNat_natCast]
 exact big_l0 n s k l z4_ z4_ z4_
def sPut (l : List Int) (n size : Int) : List Int × Int := if 1 ≤ size ∧ size ≤ 7 ∧ 0 ≤ n ∧ n < 256 ^ size.toNat then (l ++ big n size.toNat, 0) else ([], 1)
theorem put_eq (k : Nat) (l : List Int) (n size : Int) (hl : l.length ≤ 900000) (hk : 10 ≤ k) : wire_Put.f k l n size = some (sPut l n size) := by
 unfold wire_Put.f sPut
 by_cases h1 : size < 1
 ·
  rw [if_pos h1, if_neg z4_]
 rw [if_neg h1]
 by_cases h2 : size > 7
 ·
  rw [if_pos h2, if_neg z4_]
 rw [if_neg h2]
 by_cases h3 : n < 0
 ·
  rw [if_pos h3, if_neg z4_]
 obtain ⟨s, rfl⟩ := Int.eq_ofNat_of_zero_le (show 0 ≤ size by omega)
 rw [if_neg h3, w64 z4_ z4_, if_pos z4_, shl_bytes s z4_, Int.toNat_natCast]
 by_cases h4 : n ≥ 256 ^ s
 ·
  rw [if_pos h4, if_neg z4_]
 rw [if_neg h4, big_eq k l n s z4_ z4_ hl hk, Option.bind_some, Int.toNat_natCast, if_pos z4_]
def intB (n : Int) : List Int := if n < 0 then 1 :: big (-n) 8 else 0 :: big n 8
def sPutInt (l : List Int) (n : Int) : List Int × Int := if -1152921504606846976 ≤ n ∧ n ≤ 1152921504606846976 then (l ++ intB n, 0) else ([], 1)
theorem putInt_eq (k : Nat) (l : List Int) (n : Int) (hl : l.length ≤ 800000) (hk : 20 ≤ k) : dH.f k l n = some (sPutInt l n) := by
 obtain ⟨k, rfl⟩ : ∃ m, k = m + 1 := ⟨k - 1, by omega⟩
 unfold dH.f sPutInt
 by_cases h1 : n < -1152921504606846976
 ·
  rw [if_pos h1, if_neg z4_]
  simp [dH.j0]
 rw [if_neg h1]
 by_cases h2 : n > 1152921504606846976
 ·
  rw [if_neg z4_]
  simp [dH.j0, h2]
 rw [if_pos z4_]
 simp only [dH.j0, h2, decide_false]
 rw [if_neg z6_]
 unfold intB
 by_cases h3 : n < 0
 ·
  rw [if_pos h3, if_pos h3, jL l z4_, Option.bind_some, if_pos z4_, w64 z4_ z4_, big_eq k _ _ 8 z4_ z4_ (by simp; omega) z4_]
  simp
 rw [if_neg h3, if_neg h3, jL l z4_, Option.bind_some, if_pos z4_, big_eq k _ _ 8 z4_ z4_ (by simp; omega) z4_]
 simp
def sPutText (l : List Int) (s : ByteArray) : List Int × Int := if s.size ≤ 24 then (l ++ (s.size : Int) :: bytesOf s, 0) else ([], 2)
theorem putText_eq (l : List Int) (s : ByteArray) (hl : l.length ≤ 800000) : wire_PutText.f l s = some (sPutText l s) := by
 unfold wire_PutText.f sPutText
 by_cases h1 : (s.size : Int) > 24
 ·
  rw [if_pos h1, if_neg z4_]
 rw [if_neg h1, if_pos z4_, jL l z4_, Option.bind_some, if_pos z4_]
 simp only [Option.bind_some]
 rw [if_pos (by simp; omega), show ((s.size : Int) % 256) = s.size from by omega]
 simp
theorem iD (l : List Int) : ∀ a : Int, 0 ≤ a → Bytes l → 0 ≤ val a l := by
 induction l with
 | nil => intro a h _; exact h
 | cons b l ih =>
  intro a h hb
  have := hb.head
  exact ih _ (by unfold Byte at this; omega) hb.tail
theorem val_lt (l : List Int) : ∀ a : Int, 0 ≤ a → Bytes l → val a l < (a + 1) * 256 ^ l.length := by
 induction l with
 | nil => intro a h _; simp [val]; omega
 | cons b l ih =>
  intro a h hb
  have h1 := hb.head
  unfold Byte at h1
  have h2 := ih (a * 256 + b) z4_ hb.tail
  have h3 := pow_pos l.length
  rw [val]
  refine Int.lt_of_lt_of_le h2 ?_
  rw [List.length_cons, Int.pow_succ, Int.mul_comm ((256 : Int) ^ l.length), ← Int.mul_assoc]
  exact Int.mul_le_mul_of_nonneg_right z4_ z4_
theorem or_u64 (a b : Int) (h0 : 0 ≤ a) (h1 : a * 256 < 18446744073709551616) (hb : Byte b) : Go.bits .or .u64 (IntKind.u64.wrap (a * 256)) (IntKind.u64.wrap b) = a * 256 + b := by
 unfold Byte at hb
 rw [wu64 z4_ h1, wu64 z4_ z4_]
 exact bits_join .u64 64 z5_ (fun n h h' => wu64 h z4_) 8 _ _ z4_ z4_ z4_ z4_ z4_ z4_
theorem fZ {l : List Int} {i : Nat} {b : Int} {m : List Int} (h : l.drop i = b :: m) : rd l i = b := by
 have hi : i < l.length := by
  rcases Nat.lt_or_ge i l.length with h1 | h1
  ·
   exact h1
  ·
   rw [List.drop_eq_nil_of_le h1] at h; cases h
 show l.getD (i : Int).toNat 0 = b
 rw [List.getD_eq_getElem?_getD, Int.toNat_natCast, List.getElem?_eq_getElem hi]
 have := List.drop_eq_getElem_cons hi
 rw [this] at h
 injection h
theorem drop_tail {l : List Int} {i : Nat} {b : Int} {m : List Int} (h : l.drop i = b :: m) : l.drop (i + 1) = m := by
 have := congrArg List.tail h
 rwa [List.tail_drop] at this
theorem drop_lt {l : List Int} {i : Nat} {b : Int} {m : List Int} (h : l.drop i = b :: m) : i < l.length := by
 rcases Nat.lt_or_ge i l.length with h1 | h1
 ·
  exact h1
 ·
  rw [List.drop_eq_nil_of_le h1] at h; cases h
theorem drop_end {l : List Int} {i : Nat} (h : l.drop i = []) : l.length ≤ i := by
 rcases Nat.lt_or_ge i l.length with h1 | h1
 ·
  have := List.drop_eq_getElem_cons h1; rw [this] at h; cases h
 ·
  exact h1
theorem num_l0 (l : List Int) (hb : Bytes l) (m : List Int) : ∀ (k i : Nat) (a : Int), l.drop i = m → 0 ≤ a → (a + 1) * 256 ^ m.length ≤ 18446744073709551616 → i + m.length ≤ 1000 → m.length < k →
  eO.l0 k a l (l.length : Int) i = some (val a m) := by
 induction m with
 | nil =>
  intro k i a h h0 h1 hi hk
  obtain ⟨k, rfl⟩ : ∃ m, k = m + 1 := ⟨k - 1, by omega⟩
  have := drop_end h
  simp only [eO.l0]
  rw [if_neg z4_]
  rfl
 | cons b m ih =>
  intro k i a h h0 h1 hi hk
  obtain ⟨k, rfl⟩ : ∃ m, k = m + 1 := ⟨k - 1, by omega⟩
  have hlt := drop_lt h
  have hbb : Byte b := by have := hb.rd i; rw [fZ h] at this; exact this
  have hbb' := hbb
  unfold Byte at hbb'
  simp only [List.length_cons] at hi hk h1
  have hp := pow_pos m.length
  have h2 : (a * 256 + b + 1) * 256 ^ m.length ≤ 18446744073709551616 := by
   refine Int.le_trans ?_ h1
   rw [Int.pow_succ, Int.mul_comm ((256 : Int) ^ m.length), ← Int.mul_assoc]
   exact Int.mul_le_mul_of_nonneg_right z4_ z4_
  have h3 : (a * 256 + b + 1) * 1 ≤ (a * 256 + b + 1) * 256 ^ m.length := Int.mul_le_mul_of_nonneg_left z4_ z4_
  simp only [eO.l0]
  rw [if_pos z4_, if_pos z4_, if_pos z4_, fZ h, or_u64 a b h0 z4_ hbb, w64 z4_ z4_]
  exact ih k (i + 1) _ (drop_tail h) z4_ h2 z4_ z4_
theorem num_eq (k : Nat) (l : List Int) (hb : Bytes l) (hl : l.length ≤ 8) (hk : 10 ≤ k) : eO.f k l = some (val 0 l) := by
 unfold eO.f
 refine num_l0 l hb l k 0 0 rfl z4_ ?_ z4_ z4_
 have : l.length = 8 ∨ l.length ≤ 7 := by omega
 rcases this with h | h
 ·
  rw [h]; decide
 ·
  have := pow256_le h; omega
def sub (l : List Int) (a b : Nat) : List Int := (l.take b).drop a
theorem fL {l : List Int} {a b : Nat} (h : b ≤ l.length) : (sub l a b).length = b - a := by simp [sub]; omega
theorem fW {l : List Int} (h : Bytes l) (a b : Nat) : Bytes (sub l a b) := (h.take b).drop a
def sGet (l : List Int) (at_ size : Int) : Int × Int × Int :=
 if 1 ≤ size ∧ size ≤ 7 ∧ 0 ≤ at_ ∧ at_ ≤ l.length then (if l.length - at_ < size then (0, 0, 3) else (val 0 (sub l at_.toNat (at_ + size).toNat), at_ + size, 0)) else (0, 0, 1)
theorem val7 {l : List Int} (hb : Bytes l) (h : l.length ≤ 7) : 0 ≤ val 0 l ∧ val 0 l < 72057594037927936 := by
 have h1 := val_lt l 0 z4_ hb
 have h2 := pow256_le h
 exact ⟨iD l 0 z4_ hb, by omega⟩
theorem get_eq (k : Nat) (l : List Int) (at_ size : Int) (hb : Bytes l) (hl : l.length ≤ 1000000) (ha : at_ ≤ 9223372036854775807) (hk : 20 ≤ k) : wire_Get.f k l at_ size = some (sGet l at_ size) := by
 obtain ⟨k, rfl⟩ : ∃ m, k = m + 1 := ⟨k - 1, by omega⟩
 unfold wire_Get.f sGet
 by_cases h1 : size < 1
 ·
  rw [if_pos h1, if_neg z4_]; simp [wire_Get.j0]
 rw [if_neg h1]
 by_cases h2 : size > 7
 ·
  rw [if_pos h2, if_neg z4_]; simp [wire_Get.j0]
 rw [if_neg h2]
 by_cases h3 : at_ < 0
 ·
  rw [if_pos h3, if_neg z4_]; simp [wire_Get.j0]
 rw [if_neg h3]
 by_cases h4 : at_ > (l.length : Int)
 ·
  rw [if_neg z4_]; simp [wire_Get.j0, h4]
 rw [if_pos z4_]
 simp only [wire_Get.j0, h4, decide_false]
 rw [if_neg z6_, w64 z4_ z4_]
 by_cases h5 : (l.length : Int) - at_ < size
 ·
  rw [if_pos h5, if_pos h5]
 have hs : (sub l at_.toNat (at_ + size).toNat).length ≤ 7 := by rw [fL z4_]; omega
 have hv := val7 (fW hb at_.toNat (at_ + size).toNat) hs
 rw [if_neg h5, if_neg h5, w64 z4_ z4_, if_pos z4_, if_pos z4_, if_pos z4_]
 have := num_eq k (sub l at_.toNat (at_ + size).toNat) (fW hb _ _) z4_ z4_
 unfold sub at this
 rw [this, Option.bind_some, ]
 unfold sub at hv
 rw [w64 z4_ z4_]
 rfl
def sGetInt (l : List Int) (at_ : Int) : Int × Int × Int :=
  if 0 ≤ at_ ∧ at_ ≤ l.length then
    (if l.length - at_ < 9 ∨ rd l at_ > 1 ∨ val 0 (sub l (at_ + 1).toNat (at_ + 9).toNat) > 1152921504606846976 ∨ (rd l at_ = 1 ∧ val 0 (sub l (at_ + 1).toNat (at_ + 9).toNat) = 0) then (0, 0, 3)
     else if rd l at_ = 1 then (-(val 0 (sub l (at_ + 1).toNat (at_ + 9).toNat)), at_ + 9, 0) else (val 0 (sub l (at_ + 1).toNat (at_ + 9).toNat), at_ + 9, 0))
  else (0, 0, 1)
theorem getInt_eq (k : Nat) (l : List Int) (at_ : Int) (hb : Bytes l) (hl : l.length ≤ 1000000) (ha : at_ ≤ 9223372036854775807) (hk : 20 ≤ k) : bT.f k l at_ = some (sGetInt l at_) := by
 obtain ⟨k, rfl⟩ : ∃ m, k = m + 3 := ⟨k - 3, by omega⟩
 unfold bT.f sGetInt
 by_cases h1 : at_ < 0
 ·
  rw [if_pos h1, if_neg z4_]; simp [bT.j0]
 rw [if_neg h1]
 by_cases h2 : at_ > (l.length : Int)
 ·
  rw [if_neg z4_]; simp [bT.j0, h2]
 rw [if_pos z4_]
 simp only [bT.j0, h2, decide_false]
 rw [if_neg z6_, w64 z4_ z4_]
 by_cases h3 : (l.length : Int) - at_ < 9
 ·
  rw [if_pos h3, if_pos (Or.inl h3)]; simp [bT.j1]
 rw [if_neg h3, if_pos z4_, if_pos z4_]
 by_cases h4 : rd l at_ > 1
 ·
  rw [if_pos (Or.inr (Or.inl h4))]; simp [bT.j1, h4]
 have hs : (sub l (at_ + 1).toNat (at_ + 9).toNat).length = 8 := by rw [fL z4_]; omega
 have hn := fun k' (hk' : 10 ≤ k') => num_eq k' (sub l (at_ + 1).toNat (at_ + 9).toNat) (fW hb _ _) z4_ hk'
 have hv := iD (sub l (at_ + 1).toNat (at_ + 9).toNat) 0 z4_ (fW hb _ _)
 have hr := hb.rd at_
 unfold Byte at hr
 simp only [bT.j1, h4, decide_false]
 rw [if_neg z6_, w64 z4_ z4_, w64 z4_ z4_, if_pos z4_, if_pos z4_, if_pos z4_]
 generalize hV : val 0 (sub l (at_ + 1).toNat (at_ + 9).toNat) = V at *
 unfold sub at hn
 rw [hn _ z4_, Option.bind_some]
 by_cases h5 : V > 1152921504606846976
 ·
  rw [if_pos h5, if_pos z4_]; simp [bT.j2]
 rw [if_neg h5, if_pos z4_, if_pos z4_]
 by_cases h6 : rd l at_ = 1
 rotate_left
 ·
  rw [if_neg h6, if_neg (by simp; omega), if_neg h6]
  simp only [bT.j2]
  rw [if_neg z6_, if_pos z4_, if_pos z4_, if_neg h6, w64 (x := V) z4_ z4_, w64 (x := at_ + 9) z4_ z4_]
 rw [if_pos h6]
 by_cases h7 : V = 0
 ·
  rw [if_pos z4_]; simp [bT.j2, h7]
 have h7' : (V == 0) = false := by simpa using h7
 rw [if_neg (by simp; omega), if_pos h6]
 simp only [bT.j2, h7']
 rw [if_neg z6_, if_pos z4_, if_pos z4_, if_pos h6, w64 (x := V) z4_ z4_, w64 (x := -V) z4_ z4_, w64 (x := at_ + 9) z4_ z4_]
def sGetText (l : List Int) (at_ : Int) : ByteArray × Int × Int :=
  if 0 ≤ at_ ∧ at_ ≤ l.length then
    (if at_ = l.length ∨ rd l at_ > 24 ∨ l.length - at_ - 1 < rd l at_ then (⟨#[]⟩, 0, 3)
     else (strOfNums (sub l (at_ + 1).toNat (at_ + 1 + rd l at_).toNat), at_ + 1 + rd l at_, 0))
  else (⟨#[]⟩, 0, 1)
theorem getText_eq (k : Nat) (l : List Int) (at_ : Int) (hb : Bytes l) (hl : l.length ≤ 1000000) (ha : at_ ≤ 9223372036854775807) (hk : 20 ≤ k) : wire_GetText.f k l at_ = some (sGetText l at_) := by
 obtain ⟨k, rfl⟩ : ∃ m, k = m + 1 := ⟨k - 1, by omega⟩
 unfold wire_GetText.f sGetText
 by_cases h1 : at_ < 0
 ·
  rw [if_pos h1, if_neg z4_]; simp [wire_GetText.j0]
 rw [if_neg h1]
 by_cases h2 : at_ > (l.length : Int)
 ·
  rw [if_neg z4_]; simp [wire_GetText.j0, h2]
 rw [if_pos z4_]
 simp only [wire_GetText.j0, h2, decide_false]
 rw [if_neg z6_]
 by_cases h3 : at_ = (l.length : Int)
 ·
  rw [if_pos h3, if_pos (Or.inl h3)]
 have hr := hb.rd at_
 unfold Byte at hr
 rw [if_neg h3, if_pos z4_, if_pos z4_, w64 z4_ z4_]
 by_cases h4 : rd l at_ > 24
 ·
  rw [if_pos h4, if_pos (Or.inr (Or.inl h4))]
 rw [if_neg h4, w64 (x := (l.length : Int) - at_) z4_ z4_, w64 z4_ z4_]
 by_cases h5 : (l.length : Int) - at_ - 1 < rd l at_
 ·
  rw [if_pos h5, if_pos (Or.inr (Or.inr h5))]
 rw [if_neg h5, w64 (x := at_ + 1) z4_ z4_, w64 (x := at_ + 1 + rd l at_) z4_ z4_, if_pos z4_, if_pos z4_, if_pos z4_, if_neg z4_]
 rfl
end Go.Proofs.YtjnjfogfpmeacaaGreat.Plain
end
section
namespace Go.Proofs.YtjnjfogfpmeacaaGreat.Plain
open Go.RowKit PAll PrintWords PrintLast PrintMore ZipT PrintWords.Kd PrintMore.Kd
set_option linter.unusedVariables false
set_option linter.unusedSimpArgs false
theorem jQ (s : ByteArray) : strOfNums (bytesOf s) = s := by
 unfold strOfNums bytesOf
 rw [List.map_map]
 have : (fun n : Int => UInt8.ofNat n.toNat) ∘ (fun b : UInt8 => (b.toNat : Int)) = id := by
  funext b; simp
 rw [this, List.map_id]
theorem jE (s : ByteArray) : Bytes (bytesOf s) := by
 intro b hb
 unfold bytesOf at hb
 obtain ⟨c, _, rfl⟩ := List.mem_map.1 hb
 have := c.toNat_lt
 exact ⟨by omega, by omega⟩
theorem jK {l : List Int} (h : Bytes l) : bytesOf (strOfNums l) = l := by
 unfold strOfNums bytesOf
 simp only [List.map_map]
 induction l with
 | nil => rfl
 | cons b l ih =>
  have hb := h.head
  unfold Byte at hb
  rw [List.map_cons, ih h.tail]
  congr 1
  simp
  omega
theorem iW (l : List Int) : (strOfNums l).size = l.length := by
 unfold strOfNums; simp [ByteArray.size]
theorem gX (n : Int) : (intB n).length = 9 := by unfold intB; split <;> simp [cF]
theorem intB_bytes (n : Int) : Bytes (intB n) := by
 unfold intB
 split
 ·
  exact Bytes.cons ⟨by decide, by decide⟩ (fG _ _)
 ·
  exact Bytes.cons ⟨by decide, by decide⟩ (fG _ _)
theorem sub_mid (a b c : List Int) {i j : Nat} (hi : i = a.length) (hj : j = a.length + b.length) : sub (a ++ b ++ c) i j = b := by
 subst hi hj
 unfold sub
 rw [List.take_append_of_le_length z6_, ← List.length_append, List.take_length, List.drop_left]
theorem iP (a : List Int) (b : Int) (c : List Int) {i : Int} (hi : i = a.length) : rd (a ++ b :: c) i = b := by
 subst hi
 exact fZ (m := c) (by rw [List.drop_left])
theorem pow8 : (256 : Int) ^ 8 = 18446744073709551616 := by decide
theorem val_big8 {n : Int} (h0 : 0 ≤ n) (h1 : n < 18446744073709551616) : val 0 (big n 8) = n := by
 rw [val_big, pow8]; omega
theorem getInt_put (a c : List Int) (n : Int) (h0 : -1152921504606846976 ≤ n) (h1 : n ≤ 1152921504606846976) :
  sGetInt (a ++ intB n ++ c) a.length = (n, (a.length : Int) + 9, 0) := by
 unfold sGetInt
 have hl : (a ++ intB n ++ c).length = a.length + 9 + c.length := by simp [gX]; omega
 rw [if_pos z4_]
 by_cases h : n < 0
 rotate_left
 ·
  have e : a ++ intB n ++ c = a ++ 0 :: (big n 8 ++ c) := by unfold intB; rw [if_neg h]; simp
  have e2 : a ++ intB n ++ c = (a ++ [0]) ++ big n 8 ++ c := by unfold intB; rw [if_neg h]; simp
  have hs : sub (a ++ intB n ++ c) ((a.length : Int) + 1).toNat ((a.length : Int) + 9).toNat = big n 8 := by
   rw [e2]; exact sub_mid _ _ _ (by simp <;> omega) (by simp [cF] <;> omega)
  have hr : rd (a ++ intB n ++ c) (a.length : Int) = 0 := by rw [e]; exact iP _ _ _ rfl
  rw [hs, val_big8 z4_ z4_, hr, if_neg z4_, if_neg z5_]
 have e : a ++ intB n ++ c = a ++ 1 :: (big (-n) 8 ++ c) := by unfold intB; rw [if_pos h]; simp
 have e2 : a ++ intB n ++ c = (a ++ [1]) ++ big (-n) 8 ++ c := by unfold intB; rw [if_pos h]; simp
 have hs : sub (a ++ intB n ++ c) ((a.length : Int) + 1).toNat ((a.length : Int) + 9).toNat = big (-n) 8 := by
  rw [e2]; exact sub_mid _ _ _ (by simp <;> omega) (by simp [cF] <;> omega)
 have hr : rd (a ++ intB n ++ c) (a.length : Int) = 1 := by rw [e]; exact iP _ _ _ rfl
 rw [hs, val_big8 z4_ z4_, hr, if_neg z4_, if_pos rfl]
 simp
theorem get_put (a c : List Int) (n : Int) (s : Nat) (hs0 : 1 ≤ s) (hs : s ≤ 7) (h0 : 0 ≤ n) (h1 : n < 256 ^ s) :
  sGet (a ++ big n s ++ c) a.length s = (n, (a.length : Int) + s, 0) := by
 unfold sGet
 have hl : (a ++ big n s ++ c).length = a.length + s + c.length := by simp [cF]; omega
 rw [if_pos z4_, if_neg z4_, sub_mid _ _ _ z4_ (by simp [cF]; omega), val_big]
 simp
 exact Int.emod_eq_of_lt h0 h1
theorem getText_put (a c : List Int) (s : ByteArray) (h : s.size ≤ 24) :
  sGetText (a ++ (s.size : Int) :: bytesOf s ++ c) a.length = (s, (a.length : Int) + 1 + s.size, 0) := by
 unfold sGetText
 have hl : (a ++ (s.size : Int) :: bytesOf s ++ c).length = a.length + 1 + s.size + c.length := by simp [dO]; omega
 have e : a ++ (s.size : Int) :: bytesOf s ++ c = a ++ (s.size : Int) :: (bytesOf s ++ c) := by simp
 have e2 : a ++ (s.size : Int) :: bytesOf s ++ c = (a ++ [(s.size : Int)]) ++ bytesOf s ++ c := by simp
 have hr : rd (a ++ (s.size : Int) :: bytesOf s ++ c) (a.length : Int) = s.size := by rw [e]; exact iP _ _ _ rfl
 have hs : sub (a ++ (s.size : Int) :: bytesOf s ++ c) ((a.length : Int) + 1).toNat ((a.length : Int) + 1 + s.size).toNat = bytesOf s := by
  rw [e2]; exact sub_mid _ _ _ (by simp <;> omega) (by simp [dO] <;> omega)
 rw [if_pos z4_, hr, if_neg z4_, hs, jQ]
end Go.Proofs.YtjnjfogfpmeacaaGreat.Plain
end
