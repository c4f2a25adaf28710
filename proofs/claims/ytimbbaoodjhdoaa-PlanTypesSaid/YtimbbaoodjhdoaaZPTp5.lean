-- Put together by a program of this session (wip/slice2.py) out of the seat's texts.
import Derived.Test.YtimbbaoodjhdoaaZPTp4
import Derived.Lib.AppendZerosOnto
import Derived.Lib.Walk
set_option maxHeartbeats 8000000
set_option maxRecDepth 100000
open Go.Proofs.YtimbbaoodjhdoaaW Go.Proofs.Ytimbbaoodjhdoaa
section
namespace Go.Proofs.Ytimbbaoodjhdoaa.Plan
open Go.RowKit Go.Lib PAll Plain PrintWords PrintLast PrintMore ZipT PrintWords.Kd PrintMore.Kd
set_option linter.unusedVariables false
set_option linter.unusedSimpArgs false
theorem R_room {w : World} {base g cap : Nat} {cur : Array Value} (hb : base ≤ g) (h : w.heap[g]? = some (.cells cur 3 (0, 0))) (hc : cap ≤ maxLen) (hs : cur.size = cap) : (Kd.int .i64).R 3 w base (fun _ => True) (.slice (some ⟨g, 0, none⟩) 0 cap) [] :=
 ⟨fun _ _ => trivial, [], ⟨rfl, .inr ⟨g, cap, cur, rfl, hb, h, Nat.zero_le _, hc, by rw [hs]; exact (Nat.mul_one _).symm, by simp⟩⟩, ⟨rfl, fun j p hj => by simp at hj⟩⟩
theorem grow_calls (n : Nat) (hn : n ≤ 1000000) (w : World) : Calls Try.prog 72 #[.slice none 0 0, .int .i64 (n : Int)] w fun e w' => ∃ u, e = .returned u ∧ (Kd.int .i64).R 3 w' w.heap.size (fun _ => True) u [] ∧ Below w.heap.size w w' := by
 have h1 : ¬ ((n : Int) < 0) := by omega
 have h2 : wrap64 ((0 : Int) - 0) = 0 := by unfold wrap64; omega
 have h3 : wrap64 ((n : Int) - 0) = (n : Int) := by unfold wrap64; omega
 rcases Nat.eq_zero_or_pos n with rfl | hpos
 ·
  go_enter Try.func72, Try.ntmps72
  go_wp2
  go_ret
  exact ⟨_, rfl, R_nil _ _ _ _ _, Below.refl _ _⟩
 ·
  obtain ⟨i0, hi, hzz⟩ := Option.map_eq_some_iff.1 PAll.info3
  simp only [Prod.mk.injEq] at hzz
  obtain ⟨hz0, hz1, hz2⟩ := hzz
  have hGn := grownCap_ge w n 0 3
  have hG63 := grownCap_le_maxLen w n 0 3 (by unfold maxLen; omega)
  have hrz : ∀ ty, (Builtin.append_ #[32, 3] ty #[.slice none 0 0, .int .i64 (n : Int)]).run Try.prog w = .ok (.slice (some ⟨w.heap.size, 0, none⟩) n (grownCap w n 0 3)) (w.drew.alloc (.cells (([] : List Value).toArray ++ Builtin.zeroCells (Value.int .i64 0).cells n ++ Builtin.zeroCells (Value.int .i64 0).cells (grownCap w n 0 3 - n)) 3)) := fun ty => by
   have h := Lib.run_append_grow_zeros (P := Try.prog) w 32 3 ty 3 i0 (.int .i64 0) .i64 .i64 Try.underlying32 Try.underlying3 hi hz0 none 0 0 [] (run_firstCells_none w.drew i0.size 0 0 0) n hpos z5_ z5_ z5_ (by rw [hz2]; omega) (by rw [Nat.zero_add, hz2]; exact growslice_fits z5_ z5_)
   rw [Nat.zero_add] at h
   exact h
  have h4 : (n : Int) > 0 := by omega
  have h4b : decide ((n : Int) > 0) = true := decide_eq_true h4
  have h4c : decide (0 < n) = true := decide_eq_true hpos
  have h1b : decide ((n : Int) < 0) = false := decide_eq_false h1
  have hsz : (([] : List Value).toArray ++ Builtin.zeroCells (Value.int .i64 0).cells n ++ Builtin.zeroCells (Value.int .i64 0).cells (grownCap w n 0 3 - n)).size = grownCap w n 0 3 := by
   rw [Array.size_append, Array.size_append, size_zeroCells, size_zeroCells]
   show 0 + n * 1 + (grownCap w n 0 3 - n) * 1 = _
   omega
  generalize (([] : List Value).toArray ++ Builtin.zeroCells (Value.int .i64 0).cells n ++ Builtin.zeroCells (Value.int .i64 0).cells (grownCap w n 0 3 - n)) = cells at *
  generalize grownCap w n 0 3 = G at *
  have HG := mk_ hG63
  have hG2 : G ≤ 9223372036854775807 := by unfold maxLen at hG63; omega
  have HS := mk_ hsz
  clear hG63 hsz hi hz0 hz1 hz2 h1 h4
  go_enter Try.func72, Try.ntmps72
  go_wp2_with (at_builtin; refine Lib.wpList_append_run _ rfl _ _ _ _ rfl _ _ rfl rfl _ _ (hrz _) ?_)
  go_ret
  refine ⟨_, rfl, R_room (cur := cells) (Nat.le_refl _) ?_ HG.out HS.out, aM (bP (Below.refl _ _)) _⟩
  exact cJ w.drew _
def total (ls : List (List Int)) : Nat := (ls.map List.length).sum
theorem total_succ (ls : List (List Int)) (i : Nat) (hi : i < ls.length) : total (ls.take (i + 1)) = total (ls.take i) + (ls.getD i []).length := by
 rw [List.take_add_one, List.getElem?_eq_getElem hi, List.getD_eq_getElem?_getD, List.getElem?_eq_getElem hi]
 show total (ls.take i ++ [ls[i]]) = total (ls.take i) + ls[i].length
 unfold total
 rw [List.map_append, List.sum_append_nat]
 rfl
theorem total_le (ls : List (List Int)) (i : Nat) : total (ls.take i) ≤ total ls := by
 have h : total (ls.take i) + total (ls.drop i) = total ls := by
  unfold total
  rw [← List.sum_append_nat, ← List.map_append, List.take_append_drop]
 omega
theorem total_flatten (ls : List (List Int)) : ls.flatten.length = total ls := by rw [List.length_flatten]; rfl
theorem flatten_succ (ls : List (List Int)) (i : Nat) (hi : i < ls.length) : (ls.take (i + 1)).flatten = (ls.take i).flatten ++ ls.getD i [] := by
 rw [List.take_add_one, List.getElem?_eq_getElem hi, List.getD_eq_getElem?_getD, List.getElem?_eq_getElem hi]
 show (ls.take i ++ [ls[i]]).flatten = (ls.take i).flatten ++ ls[i]
 rw [List.flatten_append]
 congr 1
 exact List.append_nil _
def kRw : Kd (List Int) := Kd.slice 3 (Kd.int .i64)
theorem at_row {w : World} {A : Option Addr} {n : Nat} {ls : List (List Int)} (h : kRw.C w A n ls) (i : Nat) (hi : i < n) : ∃ ad B c, A = some ad ∧ w.cell? (ad.add i) = some (.slice B (ls.getD i []).length c) ∧ (ls.getD i []).length ≤ c ∧ (Kd.int .i64).C w B (ls.getD i []).length (ls.getD i []) := by
 obtain ⟨ad, cs, rfl, hcl, ⟨B, c, rfl, hl, hC⟩, hcc⟩ := C_get h ([] : List Int) (i : Int) z5_ z5_
 rw [Int.toNat_natCast] at hl hC hcc
 refine ⟨ad, B, c, rfl, ?_, hl, hC⟩
 have := hcc 0 _ rfl
 rwa [show i * kRw.sz + 0 = i from by show i * 1 + 0 = i; omega] at this
theorem concat_calls (A : Option Addr) (c : Nat) (ls : List (List Int)) (w : World) (hC : kRw.C w A ls.length ls) (hl : ls.length ≤ 1000) (ht : total ls ≤ 1000000) :
  Calls Try.prog 64 #[.slice A ls.length c] w fun e w' => ∃ u, e = .returned u ∧ (Kd.int .i64).R 3 w' w.heap.size (fun _ => True) u ls.flatten ∧ Below w.heap.size w w' := by
 have HC := mk_ hC
 have HT := mk_ ht
 clear hC ht
 go_enter Try.func64, Try.ntmps64
 go_wp2
 go_loopg [11, 3, 5] (ls.length + 1) (fun kq v11 v3 v5 w' => ∃ i : Nat, v11 = .int .i64 (i : Int) ∧ v3 = .int .i64 (total (ls.take i) : Int) ∧ Aside0 (kq + i = ls.length + 1) ∧ Aside0 (i ≤ ls.length) ∧ w = w')
 case atStart => exact ⟨0, rfl, rfl, ⟨rfl⟩, ⟨Nat.zero_le _⟩, rfl⟩
 case round =>
  obtain ⟨i, rfl, rfl, HK, HI, rfl⟩ := hrel
  obtain ⟨k1, rfl⟩ : ∃ k1, gk = k1 + 1 := ⟨gk - 1, by have := HK.out; have := HI.out; omega⟩
  by_cases hi : i < ls.length
  ·
   obtain ⟨ad, B, cB, rfl, hx, hcB, _⟩ := at_row HC.out i hi
   have hb0 : (0 ≤ (i : Int)) = True := eq_true z5_
   have hb1 : ((i : Int) < (ls.length : Int)) = True := eq_true z5_
   have hb2 : decide ((i : Int) < (ls.length : Int)) = true := decide_eq_true z5_
   have hb3 : decide (i < ls.length) = true := decide_eq_true hi
   have htk := total_succ ls i hi
   have hle := total_le ls (i + 1)
   have HI2 := mk_ hi
   have hT := HT.out
   have hw1 : IntKind.i64.wrap ((total (ls.take i) : Int) + ((ls.getD i []).length : Int)) = (total (ls.take (i + 1)) : Int) := by rw [IntWalk.i64_in _ z5_]; omega
   have hw2 : IntKind.i64.wrap ((i : Int) + 1) = ((i + 1 : Nat) : Int) := by rw [IntWalk.i64_in _ z5_]; omega
   have hb4 : decide ((total (ls.take (i + 1)) : Int) < 0) = false := decide_eq_false z5_
   clear hi htk hle hT
   generalize (ls.getD i []).length = m at *
   go_wp2
   go_roundg k1
   case measure => exact Nat.lt_succ_self _
   case rel => exact ⟨i + 1, rfl, rfl, ⟨by have := HK.out; omega⟩, ⟨by have := HI2.out; omega⟩, rfl⟩
  have hie : i = ls.length := by have := HI.out; omega
  subst hie
  rw [List.take_length]
  have hb3 : decide ((ls.length : Int) < (ls.length : Int)) = false := decide_eq_false z5_
  have hb4 : decide (ls.length < ls.length) = false := decide_eq_false z5_
  clear hi HK HI
  go_wp2_with (go_at_call 72; refine (grow_calls (total ls) HT.out w).mono ?_; rintro e w1 ⟨u1, rfl, hr1, hq1⟩; have HR1 := mk_ hr1; have HB1 := mk_ hq1; clear hr1 hq1)
  go_loopg [27, 6, 8] (ls.length + 1) (fun kq v27 v6 v8 w' => ∃ i : Nat, v27 = .int .i64 (i : Int) ∧ Aside0 ((Kd.int .i64).R 3 w' w.heap.size (fun _ => True) v6 (ls.take i).flatten) ∧ Aside0 (kq + i = ls.length + 1) ∧ Aside0 (i ≤ ls.length) ∧ Aside0 (Below w.heap.size w w'))
  case atStart => exact ⟨0, rfl, HR1, ⟨rfl⟩, ⟨Nat.zero_le _⟩, HB1⟩
  case round =>
   clear HR1 HB1
   obtain ⟨i, rfl, HR, HK, HI, HB⟩ := hrel
   obtain ⟨k1, rfl⟩ : ∃ k1, gk = k1 + 1 := ⟨gk - 1, by have := HK.out; have := HI.out; omega⟩
   by_cases hi : i < ls.length
   rotate_left
   ·
    have hie : i = ls.length := by have := HI.out; omega
    subst hie
    rw [List.take_length] at HR
    have hb3 : decide ((ls.length : Int) < (ls.length : Int)) = false := decide_eq_false z5_
    have hb4 : decide (ls.length < ls.length) = false := decide_eq_false z5_
    clear hi HK HI
    go_wp2
    go_ret
    exact ⟨_, rfl, HR.out, HB.out⟩
   obtain ⟨ad, B, cB, rfl, hx, hcB, hCB⟩ := at_row HC.out i hi
   replace hx := aE HB.out hx
   have hb0 : (0 ≤ (i : Int)) = True := eq_true z5_
   have hb1 : ((i : Int) < (ls.length : Int)) = True := eq_true z5_
   have hb2 : decide ((i : Int) < (ls.length : Int)) = true := decide_eq_true z5_
   have hb3 : decide (i < ls.length) = true := decide_eq_true hi
   have HI2 := mk_ hi
   have hlen : (ls.take i).flatten.length + (ls.getD i []).length ≤ 1000000 := by have h1 := total_flatten (ls.take i); have h2 := total_succ ls i hi; have h3 := total_le ls (i + 1); have := HT.out; omega
   have hnx := flatten_succ ls i hi
   obtain ⟨l, hle⟩ : ∃ l, ls.getD i [] = l := ⟨_, rfl⟩
   obtain ⟨acc, hac⟩ : ∃ acc, (ls.take i).flatten = acc := ⟨_, rfl⟩
   rw [hle] at hx hcB hCB hlen hnx
   rw [hac] at HR hlen hnx
   obtain ⟨A6, c6, rfl⟩ := bE HR.out
   have HCB := mk_ hCB
   have HLN := mk_ hlen
   have HNX := mk_ hnx
   clear hi hCB hlen hnx hle hac
   go_wp2_with ((with_reducible refine cZ (b := .append) (xs := #[.tmp 31, .tmp 32]) rfl ?_); at_builtin; refine dV (Kd.int .i64) (w0 := w) w.heap.size rfl (.tmp 31) (.tmp 32) 32 3 (.int .i64 0) 8 rfl Try.underlying32 PAll.info3 rfl z10_ z5_ (.slice A6 acc.length c6) acc l B l.length cB (fun _ => True) (fun _ => False) rfl rfl HR.out (aN HCB.out HB.out) (fun _ _ h => h) (fun _ h => h.elim) (fun _ _ => trivial) HB.out HB.out.size (by have := HLN.out; omega) ?_; intro v1 w2 hr2 hb2' _ _; have HR2 := mk_ hr2; have HB2 := mk_ hb2'; clear hr2 hb2')
   go_roundg k1
   case measure => exact Nat.lt_succ_self _
   case rel => exact ⟨i + 1, by rw [w64 z5_ (by have := HI2.out; omega)]; rfl, ⟨by rw [HNX.out]; exact HR2.out⟩, ⟨by have := HK.out; omega⟩, ⟨by have := HI2.out; omega⟩, HB2⟩
end Go.Proofs.Ytimbbaoodjhdoaa.Plan
end
