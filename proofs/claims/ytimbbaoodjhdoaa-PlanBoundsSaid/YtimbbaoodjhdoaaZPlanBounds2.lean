-- wip/slice2.py
import Derived.Test.YtimbbaoodjhdoaaZPlanBounds1

section
namespace Go.Proofs.Ytimbbaoodjhdoaa.PAll
open Go.RowKit Go.Proofs.YtimbbaoodjhdoaaW.PrintWords Go.Proofs.YtimbbaoodjhdoaaW.PrintLast Go.Proofs.YtimbbaoodjhdoaaW.PrintMore Go.Proofs.Ytimbbaoodjhdoaa.ZipT Go.Proofs.YtimbbaoodjhdoaaW.PrintWords.Kd Go.Proofs.YtimbbaoodjhdoaaW.PrintMore.Kd
attribute [local go_sem] max2_int min2_int max_two min_two max_three min_three max_four min_four   -- for this text's walks alone
set_option linter.unusedVariables false
set_option linter.unusedSimpArgs false
theorem k29_heap : Kd.Heap k29 := Kd.heap_iso _ (Kd.heap_pair (Kd.heap_int .i64) (Kd.heap_pair (Kd.heap_int .i64) Kd.heap_string))
theorem at_T29 {w : World} {A : Option Addr} {n : Nat} {xs : List S29} (h : Kd.C k29 w A n xs) (i : Int) (h0 : 0 ≤ i) (h1 : i < n) : ∃ ad , A = some ad ∧ w.cell? (ad.add (i.toNat * 3)) = some (.int .i64 (rd_T29 xs i).f0) ∧ w.cell? ⟨(ad.add (i.toNat * 3)).block, (ad.add (i.toNat * 3)).off + 1, none⟩ = some (.int .i64 (rd_T29 xs i).f1) ∧ w.cell? ⟨(ad.add (i.toNat * 3)).block, (ad.add (i.toNat * 3)).off + 2, none⟩ = some (.string (rd_T29 xs i).f2) := by
 obtain ⟨ad, c, e, _, hK, hc0⟩ := C_get h z29 i h0 h1
 have hc : ∀ j u, c[j]? = some u → w.cell? (ad.add (i.toNat * 3 + j)) = some u := hc0
 obtain rfl := k29_open hK
 exact ⟨ad, e, hc 0 _ rfl, by rw [← add_field _ _ 1 z5]; exact hc 1 _ rfl, by rw [← add_field _ _ 2 z5]; exact hc 2 _ rfl⟩
theorem k31_heap : Kd.Heap k31 := Kd.heap_iso _ (Kd.heap_pair (Kd.heap_int .i64) (Kd.heap_pair (Kd.heap_int .i64) (Kd.heap_pair (Kd.heap_int .i64) k29_heap)))
theorem k34_heap : Kd.Heap k34 := Kd.heap_iso _ (Kd.heap_pair (Kd.heap_int .i64) (Kd.heap_pair (Kd.heap_int .i64) (Kd.heap_pair (Kd.heap_int .i64) (Kd.heap_pair (Kd.heap_int .i64) (Kd.heap_pair k31_heap (Kd.heap_pair (Kd.heap_slice 3 (Kd.heap_int .i64)) (Kd.heap_pair (Kd.heap_slice 3 (Kd.heap_int .i64)) (Kd.heap_pair (Kd.heap_int .i64) (Kd.heap_int .i64)))))))))
end Go.Proofs.Ytimbbaoodjhdoaa.PAll
end
section
namespace Go.Proofs.Ytimbbaoodjhdoaa.PAll
open Go.RowKit Go.Proofs.YtimbbaoodjhdoaaW.PrintWords Go.Proofs.YtimbbaoodjhdoaaW.PrintLast Go.Proofs.YtimbbaoodjhdoaaW.PrintMore Go.Proofs.Ytimbbaoodjhdoaa.ZipT Go.Proofs.YtimbbaoodjhdoaaW.PrintWords.Kd Go.Proofs.YtimbbaoodjhdoaaW.PrintMore.Kd
attribute [local go_sem] max2_int min2_int max_two min_two max_three min_three max_four min_four   -- for this text's walks alone
set_option linter.unusedVariables false
set_option linter.unusedSimpArgs false
def raddlelaw03_Long.l0 : Nat → List (S29) → Int → Option (Bool)
 | 0, _, _ => none
 | k + 1, x0, x3 => if x3 < (x0.length : Int) then (if 0 ≤ x3 then (if (((rd_T29 x0 x3).f2).size : Int) > 300 then (some true) else (raddlelaw03_Long.l0 k x0 (wrap64 (x3 + 1)))) else (none)) else (some false)
def raddlelaw03_Long.f (k : Nat) (l0 : List (S29)) : Option (Bool) := raddlelaw03_Long.l0 k l0 0
set_option maxHeartbeats 8000000 in
set_option maxRecDepth 100000 in
theorem raddlelaw03_Long.calls (k : Nat) (A0 : Option Addr) (c0 : Nat) (l0 : List (S29)) (r : Bool) (w : World) (hr0 : Kd.C k29 w A0 l0.length l0) (hc0 : l0.length ≤ c0) (h : raddlelaw03_Long.f k l0 = some r) :
  Calls Try.prog 30 #[.slice A0 l0.length c0] w fun e w' => e = .returned (.bool r) ∧ Drawn0 w w' := by
 have HR0 := mk_ hr0
 have HC0 := mk_ hc0
 clear hr0 hc0
 have H : (raddlelaw03_Long.l0 k l0 0) = some r := h
 clear h
 have H' := mk_ H
 clear H
 go_enter Try.func30, Try.ntmps30
 go_wp2
 go_loopg [3] k (fun kq v3 w' => ∃ (x3_1 : Int), v3 = .int .i64 x3_1 ∧ Aside0 (raddlelaw03_Long.l0 kq l0 x3_1 = some r) ∧ Aside0 (kq ≤ k) ∧ Drawn0 w w')
 case atStart => exact ⟨(0), z9, H', ⟨Nat.le_refl _⟩, by repeat (first | exact Drawn0.refl _ | apply Drawn0.step)⟩
 case round =>
  clear H'
  obtain ⟨x3_1, rfl, HA, HK1, ⟨m1, rfl⟩⟩ := hrel
  cases gk with
  | zero => exact absurd HA.out (by simp [raddlelaw03_Long.l0])
  | succ k1 =>
   have H := HA.out
   clear HA
   simp only [raddlelaw03_Long.l0] at H
   by_cases c2 : x3_1 < (l0.length : Int)
   ·
    rw [if_pos c2] at H
    have c2b0 : decide (x3_1 < (l0.length : Int)) = true := decide_eq_true c2
    clear c2
    by_cases c3 : 0 ≤ x3_1
    ·
     rw [if_pos c3] at H
     have c3b0 : decide (0 ≤ x3_1) = true := decide_eq_true c3
     clear c3
     by_cases c4 : (((rd_T29 l0 x3_1).f2).size : Int) > 300
     ·
      rw [if_pos c4] at H
      have c4b0 : decide (300 < (((rd_T29 l0 x3_1).f2).size : Int)) = true := decide_eq_true c4
      have c4b1 : decide (300 < ((rd_T29 l0 x3_1).f2).size) = true := decide_eq_true z5
      clear c4
      obtain rfl := Option.some.inj H
      have p362 : 0 ≤ (x3_1 : Int) := of_decide_eq_true z4
      have q362 : x3_1 < (l0.length : Int) := of_decide_eq_true z4
      obtain ⟨ad362, e362, hx362_0, hx362_1, hx362_2⟩ := at_T29 HR0.out x3_1 p362 q362
      cases e362
      replace p362 := eq_true p362
      replace q362 := eq_true q362
      go_wp2
      go_ret
      exact ⟨z9, by repeat (first | exact Drawn0.refl _ | apply Drawn0.step)⟩
     ·
      rw [if_neg c4] at H
      have c4b0 : decide (300 < (((rd_T29 l0 x3_1).f2).size : Int)) = false := decide_eq_false c4
      have c4b1 : decide (300 < ((rd_T29 l0 x3_1).f2).size) = false := decide_eq_false z5
      clear c4
      have H' := mk_ H
      clear H
      have p362 : 0 ≤ (x3_1 : Int) := of_decide_eq_true z4
      have q362 : x3_1 < (l0.length : Int) := of_decide_eq_true z4
      obtain ⟨ad362, e362, hx362_0, hx362_1, hx362_2⟩ := at_T29 HR0.out x3_1 p362 q362
      cases e362
      replace p362 := eq_true p362
      replace q362 := eq_true q362
      go_wp2
      go_roundg k1
      case measure => have := HK1.out; omega
      case rel => exact ⟨(wrap64 (x3_1 + 1)), z9, H', ⟨by have := HK1.out; omega⟩, by repeat (first | exact Drawn0.refl _ | apply Drawn0.step)⟩
    ·
     rw [if_neg c3] at H
     exact absurd H (by simp)
   ·
    rw [if_neg c2] at H
    have c2b0 : decide (x3_1 < (l0.length : Int)) = false := decide_eq_false c2
    clear c2
    obtain rfl := Option.some.inj H
    go_wp2
    go_ret
    exact ⟨z9, by repeat (first | exact Drawn0.refl _ | apply Drawn0.step)⟩
end Go.Proofs.Ytimbbaoodjhdoaa.PAll
end
section
namespace Go.Proofs.Ytimbbaoodjhdoaa.PAll
open Go.RowKit Go.Proofs.YtimbbaoodjhdoaaW.PrintWords Go.Proofs.YtimbbaoodjhdoaaW.PrintLast Go.Proofs.YtimbbaoodjhdoaaW.PrintMore Go.Proofs.Ytimbbaoodjhdoaa.ZipT Go.Proofs.YtimbbaoodjhdoaaW.PrintWords.Kd Go.Proofs.YtimbbaoodjhdoaaW.PrintMore.Kd
attribute [local go_sem] max2_int min2_int max_two min_two max_three min_three max_four min_four   -- for this text's walks alone
set_option linter.unusedVariables false
set_option linter.unusedSimpArgs false
def raddlelaw20_Heavy.l0 : Nat → List (S34) → Int → Option (Bool)
 | 0, _, _ => none
 | k + 1, x0, x3 => if x3 < (x0.length : Int) then (if 0 ≤ x3 then (if (((rd_T34 x0 x3).f5).length : Int) > 40 then (some true) else (if (((rd_T34 x0 x3).f6).length : Int) > 40 then (some true) else ((raddlelaw03_Long.f k (([(⟨(rd_T34 x0 x3).f4.f3.f0, (rd_T34 x0 x3).f4.f3.f1, (rd_T34 x0 x3).f4.f3.f2⟩ : S29)] : List (S29)))).bind fun t369 => (if t369 = true then (some true) else (raddlelaw20_Heavy.l0 k x0 (wrap64 (x3 + 1))))))) else (none)) else (some false)
def raddlelaw20_Heavy.f (k : Nat) (l0 : List (S34)) : Option (Bool) := if (l0.length : Int) > 40 then (some true) else (raddlelaw20_Heavy.l0 k l0 0)
set_option maxHeartbeats 8000000 in
set_option maxRecDepth 100000 in
theorem raddlelaw20_Heavy.calls (k : Nat) (A0 : Option Addr) (c0 : Nat) (l0 : List (S34)) (r : Bool) (w : World) (hr0 : Kd.C k34 w A0 l0.length l0) (hc0 : l0.length ≤ c0) (h : raddlelaw20_Heavy.f k l0 = some r) :
  Calls Try.prog 15 #[.slice A0 l0.length c0] w fun e w' => e = .returned (.bool r) ∧ Below w.heap.size w w' := by
 have hu29 := Try.underlying29
 have HR0 := mk_ hr0
 have HC0 := mk_ hc0
 clear hr0 hc0
 have HB := mk_ (Below.refl w.heap.size w)
 have H : (if (l0.length : Int) > 40 then (some true) else (raddlelaw20_Heavy.l0 k l0 0)) = some r := h
 clear h
 by_cases c2 : (l0.length : Int) > 40
 ·
  rw [if_pos c2] at H
  have c2b0 : decide (40 < (l0.length : Int)) = true := decide_eq_true c2
  have c2b1 : decide (40 < l0.length) = true := decide_eq_true z5
  clear c2
  obtain rfl := Option.some.inj H
  go_enter Try.func15, Try.ntmps15
  go_wp2
  go_ret
  exact ⟨by first | rfl | (simp [errW_none, errW_some] <;> rfl) | (simp [*, errW_none, errW_some] <;> rfl), Short.hB HB⟩
 ·
  rw [if_neg c2] at H
  have c2b0 : decide (40 < (l0.length : Int)) = false := decide_eq_false c2
  have c2b1 : decide (40 < l0.length) = false := decide_eq_false z5
  clear c2
  have H' := mk_ H
  clear H
  go_enter Try.func15, Try.ntmps15
  go_wp2
  go_loopg [3] k (fun kq v3 w' => ∃ (x3_1 : Int), v3 = .int .i64 x3_1 ∧ Aside0 (raddlelaw20_Heavy.l0 kq l0 x3_1 = some r) ∧ Aside0 (kq ≤ k) ∧ Aside0 (Below w.heap.size w w'))
  case atStart => exact ⟨(0), z9, H', ⟨Nat.le_refl _⟩, ⟨Short.hB HB⟩⟩
  case round =>
   clear H'
   try clear c1
   try clear c2
   try clear c2b0
   try clear c2b1
   try clear p2
   obtain ⟨x3_1, rfl, HA, HK1, HB⟩ := hrel
   cases gk with
   | zero => exact absurd HA.out (by simp [raddlelaw20_Heavy.l0])
   | succ k1 =>
    have H := HA.out
    clear HA
    simp only [raddlelaw20_Heavy.l0] at H
    by_cases c3 : x3_1 < (l0.length : Int)
    ·
     rw [if_pos c3] at H
     have c3b0 : decide (x3_1 < (l0.length : Int)) = true := decide_eq_true c3
     clear c3
     by_cases c4 : 0 ≤ x3_1
     ·
      rw [if_pos c4] at H
      have c4b0 : decide (0 ≤ x3_1) = true := decide_eq_true c4
      clear c4
      by_cases c5 : (((rd_T34 l0 x3_1).f5).length : Int) > 40
      ·
       rw [if_pos c5] at H
       have c5b0 : decide (40 < (((rd_T34 l0 x3_1).f5).length : Int)) = true := decide_eq_true c5
       have c5b1 : decide (40 < ((rd_T34 l0 x3_1).f5).length) = true := decide_eq_true z5
       clear c5
       obtain rfl := Option.some.inj H
       have p363 : 0 ≤ (x3_1 : Int) := of_decide_eq_true z4
       have q363 : x3_1 < (l0.length : Int) := of_decide_eq_true z4
       obtain ⟨ad363, A363_10, c363_10, A363_11, c363_11, e363, hx363_0, hx363_1, hx363_2, hx363_3, hx363_4, hx363_5, hx363_6, hx363_7, hx363_8, hx363_9, hx363_10, hx363_11, hx363_12, hx363_13, hl363_10, hi363_10, hl363_11, hi363_11⟩ := at_T34 HR0.out x3_1 p363 q363
       cases e363
       replace hx363_0 := (HB.out.cell (World.block_lt_of_cell? w _ hx363_0)).trans hx363_0
       replace hx363_1 := (HB.out.cell (World.block_lt_of_cell? w _ hx363_1)).trans hx363_1
       replace hx363_2 := (HB.out.cell (World.block_lt_of_cell? w _ hx363_2)).trans hx363_2
       replace hx363_3 := (HB.out.cell (World.block_lt_of_cell? w _ hx363_3)).trans hx363_3
       replace hx363_4 := (HB.out.cell (World.block_lt_of_cell? w _ hx363_4)).trans hx363_4
       replace hx363_5 := (HB.out.cell (World.block_lt_of_cell? w _ hx363_5)).trans hx363_5
       replace hx363_6 := (HB.out.cell (World.block_lt_of_cell? w _ hx363_6)).trans hx363_6
       replace hx363_7 := (HB.out.cell (World.block_lt_of_cell? w _ hx363_7)).trans hx363_7
       replace hx363_8 := (HB.out.cell (World.block_lt_of_cell? w _ hx363_8)).trans hx363_8
       replace hx363_9 := (HB.out.cell (World.block_lt_of_cell? w _ hx363_9)).trans hx363_9
       replace hx363_10 := (HB.out.cell (World.block_lt_of_cell? w _ hx363_10)).trans hx363_10
       replace hx363_11 := (HB.out.cell (World.block_lt_of_cell? w _ hx363_11)).trans hx363_11
       replace hx363_12 := (HB.out.cell (World.block_lt_of_cell? w _ hx363_12)).trans hx363_12
       replace hx363_13 := (HB.out.cell (World.block_lt_of_cell? w _ hx363_13)).trans hx363_13
       have HR363_10 := mk_ hi363_10
       have HC363_10 := mk_ hl363_10
       clear hi363_10 hl363_10
       have HR363_11 := mk_ hi363_11
       have HC363_11 := mk_ hl363_11
       clear hi363_11 hl363_11
       replace p363 := eq_true p363
       replace q363 := eq_true q363
       go_wp2
       go_ret
       exact ⟨by first | rfl | (simp [errW_none, errW_some] <;> rfl) | (simp [*, errW_none, errW_some] <;> rfl), Short.hB HB⟩
      ·
       rw [if_neg c5] at H
       have c5b0 : decide (40 < (((rd_T34 l0 x3_1).f5).length : Int)) = false := decide_eq_false c5
       have c5b1 : decide (40 < ((rd_T34 l0 x3_1).f5).length) = false := decide_eq_false z5
       clear c5
       by_cases c6 : (((rd_T34 l0 x3_1).f6).length : Int) > 40
       ·
        rw [if_pos c6] at H
        have c6b0 : decide (40 < (((rd_T34 l0 x3_1).f6).length : Int)) = true := decide_eq_true c6
        have c6b1 : decide (40 < ((rd_T34 l0 x3_1).f6).length) = true := decide_eq_true z5
        clear c6
        obtain rfl := Option.some.inj H
        have p363 : 0 ≤ (x3_1 : Int) := of_decide_eq_true z4
        have q363 : x3_1 < (l0.length : Int) := of_decide_eq_true z4
        obtain ⟨ad363, A363_10, c363_10, A363_11, c363_11, e363, hx363_0, hx363_1, hx363_2, hx363_3, hx363_4, hx363_5, hx363_6, hx363_7, hx363_8, hx363_9, hx363_10, hx363_11, hx363_12, hx363_13, hl363_10, hi363_10, hl363_11, hi363_11⟩ := at_T34 HR0.out x3_1 p363 q363
        cases e363
        replace hx363_0 := (HB.out.cell (World.block_lt_of_cell? w _ hx363_0)).trans hx363_0
        replace hx363_1 := (HB.out.cell (World.block_lt_of_cell? w _ hx363_1)).trans hx363_1
        replace hx363_2 := (HB.out.cell (World.block_lt_of_cell? w _ hx363_2)).trans hx363_2
        replace hx363_3 := (HB.out.cell (World.block_lt_of_cell? w _ hx363_3)).trans hx363_3
        replace hx363_4 := (HB.out.cell (World.block_lt_of_cell? w _ hx363_4)).trans hx363_4
        replace hx363_5 := (HB.out.cell (World.block_lt_of_cell? w _ hx363_5)).trans hx363_5
        replace hx363_6 := (HB.out.cell (World.block_lt_of_cell? w _ hx363_6)).trans hx363_6
        replace hx363_7 := (HB.out.cell (World.block_lt_of_cell? w _ hx363_7)).trans hx363_7
        replace hx363_8 := (HB.out.cell (World.block_lt_of_cell? w _ hx363_8)).trans hx363_8
        replace hx363_9 := (HB.out.cell (World.block_lt_of_cell? w _ hx363_9)).trans hx363_9
        replace hx363_10 := (HB.out.cell (World.block_lt_of_cell? w _ hx363_10)).trans hx363_10
        replace hx363_11 := (HB.out.cell (World.block_lt_of_cell? w _ hx363_11)).trans hx363_11
        replace hx363_12 := (HB.out.cell (World.block_lt_of_cell? w _ hx363_12)).trans hx363_12
        replace hx363_13 := (HB.out.cell (World.block_lt_of_cell? w _ hx363_13)).trans hx363_13
        have HR363_10 := mk_ hi363_10
        have HC363_10 := mk_ hl363_10
        clear hi363_10 hl363_10
        have HR363_11 := mk_ hi363_11
        have HC363_11 := mk_ hl363_11
        clear hi363_11 hl363_11
        replace p363 := eq_true p363
        replace q363 := eq_true q363
        have p364 : 0 ≤ (x3_1 : Int) := of_decide_eq_true z4
        have q364 : x3_1 < (l0.length : Int) := of_decide_eq_true z4
        obtain ⟨ad364, A364_10, c364_10, A364_11, c364_11, e364, hx364_0, hx364_1, hx364_2, hx364_3, hx364_4, hx364_5, hx364_6, hx364_7, hx364_8, hx364_9, hx364_10, hx364_11, hx364_12, hx364_13, hl364_10, hi364_10, hl364_11, hi364_11⟩ := at_T34 HR0.out x3_1 p364 q364
        obtain rfl : ad363 = ad364 := (by injection e364)
        replace hx364_0 := (HB.out.cell (World.block_lt_of_cell? w _ hx364_0)).trans hx364_0
        replace hx364_1 := (HB.out.cell (World.block_lt_of_cell? w _ hx364_1)).trans hx364_1
        replace hx364_2 := (HB.out.cell (World.block_lt_of_cell? w _ hx364_2)).trans hx364_2
        replace hx364_3 := (HB.out.cell (World.block_lt_of_cell? w _ hx364_3)).trans hx364_3
        replace hx364_4 := (HB.out.cell (World.block_lt_of_cell? w _ hx364_4)).trans hx364_4
        replace hx364_5 := (HB.out.cell (World.block_lt_of_cell? w _ hx364_5)).trans hx364_5
        replace hx364_6 := (HB.out.cell (World.block_lt_of_cell? w _ hx364_6)).trans hx364_6
        replace hx364_7 := (HB.out.cell (World.block_lt_of_cell? w _ hx364_7)).trans hx364_7
        replace hx364_8 := (HB.out.cell (World.block_lt_of_cell? w _ hx364_8)).trans hx364_8
        replace hx364_9 := (HB.out.cell (World.block_lt_of_cell? w _ hx364_9)).trans hx364_9
        replace hx364_10 := (HB.out.cell (World.block_lt_of_cell? w _ hx364_10)).trans hx364_10
        replace hx364_11 := (HB.out.cell (World.block_lt_of_cell? w _ hx364_11)).trans hx364_11
        replace hx364_12 := (HB.out.cell (World.block_lt_of_cell? w _ hx364_12)).trans hx364_12
        replace hx364_13 := (HB.out.cell (World.block_lt_of_cell? w _ hx364_13)).trans hx364_13
        have HR364_10 := mk_ hi364_10
        have HC364_10 := mk_ hl364_10
        clear hi364_10 hl364_10
        have HR364_11 := mk_ hi364_11
        have HC364_11 := mk_ hl364_11
        clear hi364_11 hl364_11
        replace p364 := eq_true p364
        replace q364 := eq_true q364
        have ea_ := Option.some.inj (hx363_10.symm.trans hx364_10)
        injection ea_ with ea_ en_ ec_
        subst ea_
        subst ec_
        clear en_
        have ea_ := Option.some.inj (hx363_11.symm.trans hx364_11)
        injection ea_ with ea_ en_ ec_
        subst ea_
        subst ec_
        clear en_
        go_wp2
        go_ret
        exact ⟨by first | rfl | (simp [errW_none, errW_some] <;> rfl) | (simp [*, errW_none, errW_some] <;> rfl), Short.hB HB⟩
       ·
        rw [if_neg c6] at H
        have c6b0 : decide (40 < (((rd_T34 l0 x3_1).f6).length : Int)) = false := decide_eq_false c6
        have c6b1 : decide (40 < ((rd_T34 l0 x3_1).f6).length) = false := decide_eq_false z5
        clear c6
        obtain ⟨y366, hy366⟩ : ∃ y_ : List (S29), y_ = (([(⟨(rd_T34 l0 x3_1).f4.f3.f0, (rd_T34 l0 x3_1).f4.f3.f1, (rd_T34 l0 x3_1).f4.f3.f2⟩ : S29)] : List (S29))) := ⟨_, rfl⟩
        replace H : ((raddlelaw03_Long.f k1 y366).bind fun t369 => (if t369 = true then (some true) else (raddlelaw20_Heavy.l0 k1 l0 (wrap64 (x3_1 + 1))))) = some r := by first | (rw [hy366]; with_reducible exact H) | (have H2_ := (Option.bind_some _ _).symm.trans H; rw [hy366]; with_reducible exact H2_) | (have H2_ := (Option.bind_some _ _).symm.trans H; with_reducible exact H2_) | with_reducible exact H | (rw [hy366]; exact H) | exact H
        have Ny366 := mk_ hy366
        clear hy366
        replace H := Option.bind_eq_some_iff.mp H
        obtain ⟨t369, A70, H⟩ := H
        replace H : (if t369 = true then (some true) else (raddlelaw20_Heavy.l0 k1 l0 (wrap64 (x3_1 + 1)))) = some r := H
        have A7 := mk_ A70
        clear A70
        by_cases c8 : t369 = true
        ·
         subst c8
         have H1 : (some true) = some r := by rw [if_pos rfl] at H; exact H
         clear H
         have H := H1
         clear H1
         obtain rfl := Option.some.inj H
         have p363 : 0 ≤ (x3_1 : Int) := of_decide_eq_true z4
         have q363 : x3_1 < (l0.length : Int) := of_decide_eq_true z4
         obtain ⟨ad363, A363_10, c363_10, A363_11, c363_11, e363, hx363_0, hx363_1, hx363_2, hx363_3, hx363_4, hx363_5, hx363_6, hx363_7, hx363_8, hx363_9, hx363_10, hx363_11, hx363_12, hx363_13, hl363_10, hi363_10, hl363_11, hi363_11⟩ := at_T34 HR0.out x3_1 p363 q363
         cases e363
         replace hx363_0 := (HB.out.cell (World.block_lt_of_cell? w _ hx363_0)).trans hx363_0
         replace hx363_1 := (HB.out.cell (World.block_lt_of_cell? w _ hx363_1)).trans hx363_1
         replace hx363_2 := (HB.out.cell (World.block_lt_of_cell? w _ hx363_2)).trans hx363_2
         replace hx363_3 := (HB.out.cell (World.block_lt_of_cell? w _ hx363_3)).trans hx363_3
         replace hx363_4 := (HB.out.cell (World.block_lt_of_cell? w _ hx363_4)).trans hx363_4
         replace hx363_5 := (HB.out.cell (World.block_lt_of_cell? w _ hx363_5)).trans hx363_5
         replace hx363_6 := (HB.out.cell (World.block_lt_of_cell? w _ hx363_6)).trans hx363_6
         replace hx363_7 := (HB.out.cell (World.block_lt_of_cell? w _ hx363_7)).trans hx363_7
         replace hx363_8 := (HB.out.cell (World.block_lt_of_cell? w _ hx363_8)).trans hx363_8
         replace hx363_9 := (HB.out.cell (World.block_lt_of_cell? w _ hx363_9)).trans hx363_9
         replace hx363_10 := (HB.out.cell (World.block_lt_of_cell? w _ hx363_10)).trans hx363_10
         replace hx363_11 := (HB.out.cell (World.block_lt_of_cell? w _ hx363_11)).trans hx363_11
         replace hx363_12 := (HB.out.cell (World.block_lt_of_cell? w _ hx363_12)).trans hx363_12
         replace hx363_13 := (HB.out.cell (World.block_lt_of_cell? w _ hx363_13)).trans hx363_13
         have HR363_10 := mk_ hi363_10
         have HC363_10 := mk_ hl363_10
         clear hi363_10 hl363_10
         have HR363_11 := mk_ hi363_11
         have HC363_11 := mk_ hl363_11
         clear hi363_11 hl363_11
         replace p363 := eq_true p363
         replace q363 := eq_true q363
         have p364 : 0 ≤ (x3_1 : Int) := of_decide_eq_true z4
         have q364 : x3_1 < (l0.length : Int) := of_decide_eq_true z4
         obtain ⟨ad364, A364_10, c364_10, A364_11, c364_11, e364, hx364_0, hx364_1, hx364_2, hx364_3, hx364_4, hx364_5, hx364_6, hx364_7, hx364_8, hx364_9, hx364_10, hx364_11, hx364_12, hx364_13, hl364_10, hi364_10, hl364_11, hi364_11⟩ := at_T34 HR0.out x3_1 p364 q364
         obtain rfl : ad363 = ad364 := (by injection e364)
         replace hx364_0 := (HB.out.cell (World.block_lt_of_cell? w _ hx364_0)).trans hx364_0
         replace hx364_1 := (HB.out.cell (World.block_lt_of_cell? w _ hx364_1)).trans hx364_1
         replace hx364_2 := (HB.out.cell (World.block_lt_of_cell? w _ hx364_2)).trans hx364_2
         replace hx364_3 := (HB.out.cell (World.block_lt_of_cell? w _ hx364_3)).trans hx364_3
         replace hx364_4 := (HB.out.cell (World.block_lt_of_cell? w _ hx364_4)).trans hx364_4
         replace hx364_5 := (HB.out.cell (World.block_lt_of_cell? w _ hx364_5)).trans hx364_5
         replace hx364_6 := (HB.out.cell (World.block_lt_of_cell? w _ hx364_6)).trans hx364_6
         replace hx364_7 := (HB.out.cell (World.block_lt_of_cell? w _ hx364_7)).trans hx364_7
         replace hx364_8 := (HB.out.cell (World.block_lt_of_cell? w _ hx364_8)).trans hx364_8
         replace hx364_9 := (HB.out.cell (World.block_lt_of_cell? w _ hx364_9)).trans hx364_9
         replace hx364_10 := (HB.out.cell (World.block_lt_of_cell? w _ hx364_10)).trans hx364_10
         replace hx364_11 := (HB.out.cell (World.block_lt_of_cell? w _ hx364_11)).trans hx364_11
         replace hx364_12 := (HB.out.cell (World.block_lt_of_cell? w _ hx364_12)).trans hx364_12
         replace hx364_13 := (HB.out.cell (World.block_lt_of_cell? w _ hx364_13)).trans hx364_13
         have HR364_10 := mk_ hi364_10
         have HC364_10 := mk_ hl364_10
         clear hi364_10 hl364_10
         have HR364_11 := mk_ hi364_11
         have HC364_11 := mk_ hl364_11
         clear hi364_11 hl364_11
         replace p364 := eq_true p364
         replace q364 := eq_true q364
         have ea_ := Option.some.inj (hx363_10.symm.trans hx364_10)
         injection ea_ with ea_ en_ ec_
         subst ea_
         subst ec_
         clear en_
         have ea_ := Option.some.inj (hx363_11.symm.trans hx364_11)
         injection ea_ with ea_ en_ ec_
         subst ea_
         subst ec_
         clear en_
         have p365 : 0 ≤ (x3_1 : Int) := of_decide_eq_true z4
         have q365 : x3_1 < (l0.length : Int) := of_decide_eq_true z4
         obtain ⟨ad365, A365_10, c365_10, A365_11, c365_11, e365, hx365_0, hx365_1, hx365_2, hx365_3, hx365_4, hx365_5, hx365_6, hx365_7, hx365_8, hx365_9, hx365_10, hx365_11, hx365_12, hx365_13, hl365_10, hi365_10, hl365_11, hi365_11⟩ := at_T34 HR0.out x3_1 p365 q365
         obtain rfl : ad363 = ad365 := (by injection e365)
         replace hx365_0 := (HB.out.cell (World.block_lt_of_cell? w _ hx365_0)).trans hx365_0
         replace hx365_1 := (HB.out.cell (World.block_lt_of_cell? w _ hx365_1)).trans hx365_1
         replace hx365_2 := (HB.out.cell (World.block_lt_of_cell? w _ hx365_2)).trans hx365_2
         replace hx365_3 := (HB.out.cell (World.block_lt_of_cell? w _ hx365_3)).trans hx365_3
         replace hx365_4 := (HB.out.cell (World.block_lt_of_cell? w _ hx365_4)).trans hx365_4
         replace hx365_5 := (HB.out.cell (World.block_lt_of_cell? w _ hx365_5)).trans hx365_5
         replace hx365_6 := (HB.out.cell (World.block_lt_of_cell? w _ hx365_6)).trans hx365_6
         replace hx365_7 := (HB.out.cell (World.block_lt_of_cell? w _ hx365_7)).trans hx365_7
         replace hx365_8 := (HB.out.cell (World.block_lt_of_cell? w _ hx365_8)).trans hx365_8
         replace hx365_9 := (HB.out.cell (World.block_lt_of_cell? w _ hx365_9)).trans hx365_9
         replace hx365_10 := (HB.out.cell (World.block_lt_of_cell? w _ hx365_10)).trans hx365_10
         replace hx365_11 := (HB.out.cell (World.block_lt_of_cell? w _ hx365_11)).trans hx365_11
         replace hx365_12 := (HB.out.cell (World.block_lt_of_cell? w _ hx365_12)).trans hx365_12
         replace hx365_13 := (HB.out.cell (World.block_lt_of_cell? w _ hx365_13)).trans hx365_13
         have HR365_10 := mk_ hi365_10
         have HC365_10 := mk_ hl365_10
         clear hi365_10 hl365_10
         have HR365_11 := mk_ hi365_11
         have HC365_11 := mk_ hl365_11
         clear hi365_11 hl365_11
         replace p365 := eq_true p365
         replace q365 := eq_true q365
         have ea_ := Option.some.inj (hx363_10.symm.trans hx365_10)
         injection ea_ with ea_ en_ ec_
         subst ea_
         subst ec_
         clear en_
         have ea_ := Option.some.inj (hx363_11.symm.trans hx365_11)
         injection ea_ with ea_ en_ ec_
         subst ea_
         subst ec_
         clear en_
         go_wp2_with (first | ((with_reducible refine gate_dst (N := 36) rfl ?_); (try (refine gate_guard z12 ?_; dsimp only)); refine R_lit k29 _ 29 ?hg (N := 36) ?hd (xs := ([(⟨(rd_T34 l0 x3_1).f4.f3.f0, (rd_T34 l0 x3_1).f4.f3.f1, (rd_T34 l0 x3_1).f4.f3.f2⟩ : S29)] : List (S29))) (inner := [.int .i64 ((rd_T34 l0 x3_1).f4.f3.f0), .int .i64 ((rd_T34 l0 x3_1).f4.f3.f1), .string ((rd_T34 l0 x3_1).f4.f3.f2)]) (ok := fun _ => True) (okp := fun _ => True) ?hr ?hp (fun _ hk => hk) trivial (Below.refl _ _) (Nat.le_refl _) (by simp) ?_; (case hd => rfl); (case hg => rfl); (case hr => first | (go_simp; done) | (go_simp; rfl)); (case hp => exact (Reps.c3 (show Kd.M k29 _ _ _ (⟨(rd_T34 l0 x3_1).f4.f3.f0, (rd_T34 l0 x3_1).f4.f3.f1, (rd_T34 l0 x3_1).f4.f3.f2⟩ : S29) [.int .i64 ((rd_T34 l0 x3_1).f4.f3.f0), .int .i64 ((rd_T34 l0 x3_1).f4.f3.f1), .string ((rd_T34 l0 x3_1).f4.f3.f2)] from (k29_mkM _ _ _ (⟨(rd_T34 l0 x3_1).f4.f3.f0, (rd_T34 l0 x3_1).f4.f3.f1, (rd_T34 l0 x3_1).f4.f3.f2⟩ : S29) )) (Reps.none _ _))); intro v367 w9 ho10 hb hg_ hnew_; clear hg_ hnew_; (first | rw [← Ny366.out] at ho10 | (simp only [Int.reduceToNat] at ho10; rw [← Ny366.out] at ho10)); have n0_ := mk_ (R_lower ho10 (below_size (Short.hB HB))); have n1_ := mk_ (below_step (Short.hB HB) hb); clear HB; revert n0_ n1_; intro HO368 HB; clear hb ho10; obtain ⟨Ao11, co11, eo11⟩ := R_slice HO368.out; subst eo11) | (go_at_call 30; (with_reducible refine (raddlelaw03_Long.calls k1 _ _ y366 true _ ?side1 ?side2 A7.out).mono ?_); (case side1 => exact cX_ (R_reads' HO368.out).2.2); (case side2 => exact (R_reads' HO368.out).2.1); rintro e w' ⟨rfl, ⟨nd, rfl⟩⟩))
         go_ret
         exact ⟨by first | rfl | (simp [errW_none, errW_some] <;> rfl) | (simp [*, errW_none, errW_some] <;> rfl), Short.hB HB⟩
        ·
         replace c8 := Bool.eq_false_iff.mpr c8
         subst c8
         have H1 : (raddlelaw20_Heavy.l0 k1 l0 (wrap64 (x3_1 + 1))) = some r := by rw [if_neg (show ¬ (false = true) by decide)] at H; exact H
         clear H
         have H := H1
         clear H1
         have H' := mk_ H
         clear H
         have p363 : 0 ≤ (x3_1 : Int) := of_decide_eq_true z4
         have q363 : x3_1 < (l0.length : Int) := of_decide_eq_true z4
         obtain ⟨ad363, A363_10, c363_10, A363_11, c363_11, e363, hx363_0, hx363_1, hx363_2, hx363_3, hx363_4, hx363_5, hx363_6, hx363_7, hx363_8, hx363_9, hx363_10, hx363_11, hx363_12, hx363_13, hl363_10, hi363_10, hl363_11, hi363_11⟩ := at_T34 HR0.out x3_1 p363 q363
         cases e363
         replace hx363_0 := (HB.out.cell (World.block_lt_of_cell? w _ hx363_0)).trans hx363_0
         replace hx363_1 := (HB.out.cell (World.block_lt_of_cell? w _ hx363_1)).trans hx363_1
         replace hx363_2 := (HB.out.cell (World.block_lt_of_cell? w _ hx363_2)).trans hx363_2
         replace hx363_3 := (HB.out.cell (World.block_lt_of_cell? w _ hx363_3)).trans hx363_3
         replace hx363_4 := (HB.out.cell (World.block_lt_of_cell? w _ hx363_4)).trans hx363_4
         replace hx363_5 := (HB.out.cell (World.block_lt_of_cell? w _ hx363_5)).trans hx363_5
         replace hx363_6 := (HB.out.cell (World.block_lt_of_cell? w _ hx363_6)).trans hx363_6
         replace hx363_7 := (HB.out.cell (World.block_lt_of_cell? w _ hx363_7)).trans hx363_7
         replace hx363_8 := (HB.out.cell (World.block_lt_of_cell? w _ hx363_8)).trans hx363_8
         replace hx363_9 := (HB.out.cell (World.block_lt_of_cell? w _ hx363_9)).trans hx363_9
         replace hx363_10 := (HB.out.cell (World.block_lt_of_cell? w _ hx363_10)).trans hx363_10
         replace hx363_11 := (HB.out.cell (World.block_lt_of_cell? w _ hx363_11)).trans hx363_11
         replace hx363_12 := (HB.out.cell (World.block_lt_of_cell? w _ hx363_12)).trans hx363_12
         replace hx363_13 := (HB.out.cell (World.block_lt_of_cell? w _ hx363_13)).trans hx363_13
         have HR363_10 := mk_ hi363_10
         have HC363_10 := mk_ hl363_10
         clear hi363_10 hl363_10
         have HR363_11 := mk_ hi363_11
         have HC363_11 := mk_ hl363_11
         clear hi363_11 hl363_11
         replace p363 := eq_true p363
         replace q363 := eq_true q363
         have p364 : 0 ≤ (x3_1 : Int) := of_decide_eq_true z4
         have q364 : x3_1 < (l0.length : Int) := of_decide_eq_true z4
         obtain ⟨ad364, A364_10, c364_10, A364_11, c364_11, e364, hx364_0, hx364_1, hx364_2, hx364_3, hx364_4, hx364_5, hx364_6, hx364_7, hx364_8, hx364_9, hx364_10, hx364_11, hx364_12, hx364_13, hl364_10, hi364_10, hl364_11, hi364_11⟩ := at_T34 HR0.out x3_1 p364 q364
         obtain rfl : ad363 = ad364 := (by injection e364)
         replace hx364_0 := (HB.out.cell (World.block_lt_of_cell? w _ hx364_0)).trans hx364_0
         replace hx364_1 := (HB.out.cell (World.block_lt_of_cell? w _ hx364_1)).trans hx364_1
         replace hx364_2 := (HB.out.cell (World.block_lt_of_cell? w _ hx364_2)).trans hx364_2
         replace hx364_3 := (HB.out.cell (World.block_lt_of_cell? w _ hx364_3)).trans hx364_3
         replace hx364_4 := (HB.out.cell (World.block_lt_of_cell? w _ hx364_4)).trans hx364_4
         replace hx364_5 := (HB.out.cell (World.block_lt_of_cell? w _ hx364_5)).trans hx364_5
         replace hx364_6 := (HB.out.cell (World.block_lt_of_cell? w _ hx364_6)).trans hx364_6
         replace hx364_7 := (HB.out.cell (World.block_lt_of_cell? w _ hx364_7)).trans hx364_7
         replace hx364_8 := (HB.out.cell (World.block_lt_of_cell? w _ hx364_8)).trans hx364_8
         replace hx364_9 := (HB.out.cell (World.block_lt_of_cell? w _ hx364_9)).trans hx364_9
         replace hx364_10 := (HB.out.cell (World.block_lt_of_cell? w _ hx364_10)).trans hx364_10
         replace hx364_11 := (HB.out.cell (World.block_lt_of_cell? w _ hx364_11)).trans hx364_11
         replace hx364_12 := (HB.out.cell (World.block_lt_of_cell? w _ hx364_12)).trans hx364_12
         replace hx364_13 := (HB.out.cell (World.block_lt_of_cell? w _ hx364_13)).trans hx364_13
         have HR364_10 := mk_ hi364_10
         have HC364_10 := mk_ hl364_10
         clear hi364_10 hl364_10
         have HR364_11 := mk_ hi364_11
         have HC364_11 := mk_ hl364_11
         clear hi364_11 hl364_11
         replace p364 := eq_true p364
         replace q364 := eq_true q364
         have ea_ := Option.some.inj (hx363_10.symm.trans hx364_10)
         injection ea_ with ea_ en_ ec_
         subst ea_
         subst ec_
         clear en_
         have ea_ := Option.some.inj (hx363_11.symm.trans hx364_11)
         injection ea_ with ea_ en_ ec_
         subst ea_
         subst ec_
         clear en_
         have p365 : 0 ≤ (x3_1 : Int) := of_decide_eq_true z4
         have q365 : x3_1 < (l0.length : Int) := of_decide_eq_true z4
         obtain ⟨ad365, A365_10, c365_10, A365_11, c365_11, e365, hx365_0, hx365_1, hx365_2, hx365_3, hx365_4, hx365_5, hx365_6, hx365_7, hx365_8, hx365_9, hx365_10, hx365_11, hx365_12, hx365_13, hl365_10, hi365_10, hl365_11, hi365_11⟩ := at_T34 HR0.out x3_1 p365 q365
         obtain rfl : ad363 = ad365 := (by injection e365)
         replace hx365_0 := (HB.out.cell (World.block_lt_of_cell? w _ hx365_0)).trans hx365_0
         replace hx365_1 := (HB.out.cell (World.block_lt_of_cell? w _ hx365_1)).trans hx365_1
         replace hx365_2 := (HB.out.cell (World.block_lt_of_cell? w _ hx365_2)).trans hx365_2
         replace hx365_3 := (HB.out.cell (World.block_lt_of_cell? w _ hx365_3)).trans hx365_3
         replace hx365_4 := (HB.out.cell (World.block_lt_of_cell? w _ hx365_4)).trans hx365_4
         replace hx365_5 := (HB.out.cell (World.block_lt_of_cell? w _ hx365_5)).trans hx365_5
         replace hx365_6 := (HB.out.cell (World.block_lt_of_cell? w _ hx365_6)).trans hx365_6
         replace hx365_7 := (HB.out.cell (World.block_lt_of_cell? w _ hx365_7)).trans hx365_7
         replace hx365_8 := (HB.out.cell (World.block_lt_of_cell? w _ hx365_8)).trans hx365_8
         replace hx365_9 := (HB.out.cell (World.block_lt_of_cell? w _ hx365_9)).trans hx365_9
         replace hx365_10 := (HB.out.cell (World.block_lt_of_cell? w _ hx365_10)).trans hx365_10
         replace hx365_11 := (HB.out.cell (World.block_lt_of_cell? w _ hx365_11)).trans hx365_11
         replace hx365_12 := (HB.out.cell (World.block_lt_of_cell? w _ hx365_12)).trans hx365_12
         replace hx365_13 := (HB.out.cell (World.block_lt_of_cell? w _ hx365_13)).trans hx365_13
         have HR365_10 := mk_ hi365_10
         have HC365_10 := mk_ hl365_10
         clear hi365_10 hl365_10
         have HR365_11 := mk_ hi365_11
         have HC365_11 := mk_ hl365_11
         clear hi365_11 hl365_11
         replace p365 := eq_true p365
         replace q365 := eq_true q365
         have ea_ := Option.some.inj (hx363_10.symm.trans hx365_10)
         injection ea_ with ea_ en_ ec_
         subst ea_
         subst ec_
         clear en_
         have ea_ := Option.some.inj (hx363_11.symm.trans hx365_11)
         injection ea_ with ea_ en_ ec_
         subst ea_
         subst ec_
         clear en_
         go_wp2_with (first | ((with_reducible refine gate_dst (N := 36) rfl ?_); (try (refine gate_guard z12 ?_; dsimp only)); refine R_lit k29 _ 29 ?hg (N := 36) ?hd (xs := ([(⟨(rd_T34 l0 x3_1).f4.f3.f0, (rd_T34 l0 x3_1).f4.f3.f1, (rd_T34 l0 x3_1).f4.f3.f2⟩ : S29)] : List (S29))) (inner := [.int .i64 ((rd_T34 l0 x3_1).f4.f3.f0), .int .i64 ((rd_T34 l0 x3_1).f4.f3.f1), .string ((rd_T34 l0 x3_1).f4.f3.f2)]) (ok := fun _ => True) (okp := fun _ => True) ?hr ?hp (fun _ hk => hk) trivial (Below.refl _ _) (Nat.le_refl _) (by simp) ?_; (case hd => rfl); (case hg => rfl); (case hr => first | (go_simp; done) | (go_simp; rfl)); (case hp => exact (Reps.c3 (show Kd.M k29 _ _ _ (⟨(rd_T34 l0 x3_1).f4.f3.f0, (rd_T34 l0 x3_1).f4.f3.f1, (rd_T34 l0 x3_1).f4.f3.f2⟩ : S29) [.int .i64 ((rd_T34 l0 x3_1).f4.f3.f0), .int .i64 ((rd_T34 l0 x3_1).f4.f3.f1), .string ((rd_T34 l0 x3_1).f4.f3.f2)] from (k29_mkM _ _ _ (⟨(rd_T34 l0 x3_1).f4.f3.f0, (rd_T34 l0 x3_1).f4.f3.f1, (rd_T34 l0 x3_1).f4.f3.f2⟩ : S29) )) (Reps.none _ _))); intro v367 w12 ho13 hb hg_ hnew_; clear hg_ hnew_; (first | rw [← Ny366.out] at ho13 | (simp only [Int.reduceToNat] at ho13; rw [← Ny366.out] at ho13)); have n0_ := mk_ (R_lower ho13 (below_size (Short.hB HB))); have n1_ := mk_ (below_step (Short.hB HB) hb); clear HB; revert n0_ n1_; intro HO368 HB; clear hb ho13; obtain ⟨Ao14, co14, eo14⟩ := R_slice HO368.out; subst eo14) | (go_at_call 30; (with_reducible refine (raddlelaw03_Long.calls k1 _ _ y366 false _ ?side1 ?side2 A7.out).mono ?_); (case side1 => exact cX_ (R_reads' HO368.out).2.2); (case side2 => exact (R_reads' HO368.out).2.1); rintro e w' ⟨rfl, ⟨nd, rfl⟩⟩))
         go_roundg k1
         case measure => have := HK1.out; omega
         case rel => exact ⟨(wrap64 (x3_1 + 1)), z9, H', ⟨by have := HK1.out; omega⟩, ⟨Short.hB HB⟩⟩
     ·
      rw [if_neg c4] at H
      exact absurd H (by simp)
    ·
     rw [if_neg c3] at H
     have c3b0 : decide (x3_1 < (l0.length : Int)) = false := decide_eq_false c3
     clear c3
     obtain rfl := Option.some.inj H
     go_wp2
     go_ret
     exact ⟨by first | rfl | (simp [errW_none, errW_some] <;> rfl) | (simp [*, errW_none, errW_some] <;> rfl), Short.hB HB⟩
def raddlelaw20_more.f (l0 : List (S34)) (a1_0 : Int) (a1_1 : Int) (a1_2 : Int) (a1_3 : Int) (a1_4 : Int) (a1_5 : Int) (a1_6 : Int) (a1_7 : Int) (a1_8 : Int) (a1_9 : ByteArray) (l1_10 : List Int) (l1_11 : List Int) (a1_12 : Int) (a1_13 : Int) : Option ((List (S34))) := if ([] : List (S34)).length + l0.length < 925904528653 then ((some (([] : List (S34)) ++ l0 : List (S34))).bind fun y371 => ((some (([(⟨a1_0, a1_1, a1_2, a1_3, (⟨a1_4, a1_5, a1_6, (⟨a1_7, a1_8, a1_9⟩ : S29)⟩ : S31), l1_10, l1_11, a1_12, a1_13⟩ : S34)] : List (S34)) : List (S34))).bind fun y374 => (if y371.length + y374.length < 925904528653 then (some (y371 ++ y374)) else (none)))) else (none)
set_option maxHeartbeats 8000000 in
set_option maxRecDepth 100000 in
theorem raddlelaw20_more.calls (P0_ : Nat → Prop) (A0 : Option Addr) (c0 : Nat) (l0 : List (S34)) (a1_0 : Int) (a1_1 : Int) (a1_2 : Int) (a1_3 : Int) (a1_4 : Int) (a1_5 : Int) (a1_6 : Int) (a1_7 : Int) (a1_8 : Int) (a1_9 : ByteArray) (P1_10_ : Nat → Prop) (A1_10 : Option Addr) (c1_10 : Nat) (l1_10 : List Int) (P1_11_ : Nat → Prop) (A1_11 : Option Addr) (c1_11 : Nat) (l1_11 : List Int) (a1_12 : Int) (a1_13 : Int) (r : List (S34)) (w : World) (hs0 : Kd.V k34 34 w w.heap.size (fun k_ => P0_ k_) (.slice A0 l0.length c0) l0) (hs1_10 : Kd.V (Kd.int .i64) 3 w w.heap.size (fun k_ => P1_10_ k_) (.slice A1_10 l1_10.length c1_10) l1_10) (hs1_11 : Kd.V (Kd.int .i64) 3 w w.heap.size (fun k_ => P1_11_ k_) (.slice A1_11 l1_11.length c1_11) l1_11) (h : raddlelaw20_more.f l0 a1_0 a1_1 a1_2 a1_3 a1_4 a1_5 a1_6 a1_7 a1_8 a1_9 l1_10 l1_11 a1_12 a1_13 = some r) :
  Calls Try.prog 16 #[.slice A0 l0.length c0, .agg #[.int .i64 a1_0, .int .i64 a1_1, .int .i64 a1_2, .int .i64 a1_3, .int .i64 a1_4, .int .i64 a1_5, .int .i64 a1_6, .int .i64 a1_7, .int .i64 a1_8, .string a1_9, .slice A1_10 l1_10.length c1_10, .slice A1_11 l1_11.length c1_11, .int .i64 a1_12, .int .i64 a1_13]] w fun e w' => ∃ v0_ : Value, e = .returned (v0_) ∧ Kd.N k34 34 w' w.heap.size (fun k_ => ((P0_ k_ ∨ P1_10_ k_ ∨ P1_11_ k_) ∨ w.heap.size ≤ k_)) v0_ r ∧ Below w.heap.size w w' := by
 have hu34 := Try.underlying34
 have HO0 := mk_ (show Kd.V k34 34 w w.heap.size (fun k_ => ((P0_ k_ ∨ P1_10_ k_ ∨ P1_11_ k_) ∨ w.heap.size ≤ k_)) (.slice A0 l0.length c0) l0 from V_mono hs0 (fun k_ hk => .inl (.inl hk)))
 have HO1_10 := mk_ (show Kd.V (Kd.int .i64) 3 w w.heap.size (fun k_ => ((P0_ k_ ∨ P1_10_ k_ ∨ P1_11_ k_) ∨ w.heap.size ≤ k_)) (.slice A1_10 l1_10.length c1_10) l1_10 from V_mono hs1_10 (fun k_ hk => .inl (.inr (.inl hk))))
 have HO1_11 := mk_ (show Kd.V (Kd.int .i64) 3 w w.heap.size (fun k_ => ((P0_ k_ ∨ P1_10_ k_ ∨ P1_11_ k_) ∨ w.heap.size ≤ k_)) (.slice A1_11 l1_11.length c1_11) l1_11 from V_mono hs1_11 (fun k_ hk => .inl (.inr (.inr hk))))
 have HB := mk_ (Below.refl w.heap.size w)
 have H : (if ([] : List (S34)).length + l0.length < 925904528653 then ((some (([] : List (S34)) ++ l0 : List (S34))).bind fun y371 => ((some (([(⟨a1_0, a1_1, a1_2, a1_3, (⟨a1_4, a1_5, a1_6, (⟨a1_7, a1_8, a1_9⟩ : S29)⟩ : S31), l1_10, l1_11, a1_12, a1_13⟩ : S34)] : List (S34)) : List (S34))).bind fun y374 => (if y371.length + y374.length < 925904528653 then (some (y371 ++ y374)) else (none)))) else (none)) = some r := h
 clear h
 by_cases c3 : ([] : List (S34)).length + l0.length < 925904528653
 ·
  rw [if_pos c3] at H
  have LMc3 := mk_ c3
  clear c3
  obtain ⟨y371, hy371⟩ : ∃ y_ : List (S34), y_ = (([] : List (S34)) ++ l0) := ⟨_, rfl⟩
  replace H : ((some (([(⟨a1_0, a1_1, a1_2, a1_3, (⟨a1_4, a1_5, a1_6, (⟨a1_7, a1_8, a1_9⟩ : S29)⟩ : S31), l1_10, l1_11, a1_12, a1_13⟩ : S34)] : List (S34)) : List (S34))).bind fun y374 => (if y371.length + y374.length < 925904528653 then (some (y371 ++ y374)) else (none))) = some r := by first | (rw [hy371]; with_reducible exact H) | (have H2_ := (Option.bind_some _ _).symm.trans H; rw [hy371]; with_reducible exact H2_) | (have H2_ := (Option.bind_some _ _).symm.trans H; with_reducible exact H2_) | with_reducible exact H | (rw [hy371]; exact H) | exact H
  have Ny371 := mk_ hy371
  clear hy371
  obtain ⟨y374, hy374⟩ : ∃ y_ : List (S34), y_ = (([(⟨a1_0, a1_1, a1_2, a1_3, (⟨a1_4, a1_5, a1_6, (⟨a1_7, a1_8, a1_9⟩ : S29)⟩ : S31), l1_10, l1_11, a1_12, a1_13⟩ : S34)] : List (S34))) := ⟨_, rfl⟩
  replace H : (if y371.length + y374.length < 925904528653 then (some (y371 ++ y374)) else (none)) = some r := by first | (rw [hy374]; with_reducible exact H) | (have H2_ := (Option.bind_some _ _).symm.trans H; rw [hy374]; with_reducible exact H2_) | (have H2_ := (Option.bind_some _ _).symm.trans H; with_reducible exact H2_) | with_reducible exact H | (rw [hy374]; exact H) | exact H
  have Ny374 := mk_ hy374
  clear hy374
  by_cases c4 : y371.length + y374.length < 925904528653
  ·
   rw [if_pos c4] at H
   have LMc4 := mk_ c4
   clear c4
   obtain ⟨y377, hy377⟩ : ∃ y_ : List (S34), y_ = (y371 ++ y374) := ⟨_, rfl⟩
   replace H : (some y377) = some r := by first | (rw [hy377]; with_reducible exact H) | (have H2_ := (Option.bind_some _ _).symm.trans H; rw [hy377]; with_reducible exact H2_) | (have H2_ := (Option.bind_some _ _).symm.trans H; with_reducible exact H2_) | with_reducible exact H | (rw [hy377]; exact H) | exact H
   have Ny377 := mk_ hy377
   clear hy377
   obtain rfl := Option.some.inj H
   go_enter Try.func16, Try.ntmps16
   try go_wp2_with (first | ((with_reducible refine gate_dst (N := 3) rfl ?_); refine box_event ?hg (N := 3) ?hd (cs := #[.int .i64 a1_0, .int .i64 a1_1, .int .i64 a1_2, .int .i64 a1_3, .int .i64 a1_4, .int .i64 a1_5, .int .i64 a1_6, .int .i64 a1_7, .int .i64 a1_8, .string a1_9, .slice A1_10 l1_10.length c1_10, .slice A1_11 l1_11.length c1_11, .int .i64 a1_12, .int .i64 a1_13]) (t := 34) ?hr ?_; (case hd => rfl); (case hg => rfl); (case hr => first | (go_simp; done) | (go_simp; rfl)); intro gb370 hg w5 hbox hb; have n0_ := mk_ (V_below (V_elderB (ZKV HO0) gb370 (Nat.le_of_eq hg.symm)) hb); have n1_ := mk_ (V_below (V_elderB (ZKV HO1_10) gb370 (Nat.le_of_eq hg.symm)) hb); have n2_ := mk_ (V_below (V_elderB (ZKV HO1_11) gb370 (Nat.le_of_eq hg.symm)) hb); have n3_ := mk_ (below_step (Short.hB HB) hb); have n4_ := mk_ (hbox); have n5_ := mk_ ((by rw [hg]; exact (below_size (Short.hB HB)) : w.heap.size ≤ gb370)); have n6_ := mk_ ((by rw [hg]; exact (below_size (Short.hB HB)) : w.heap.size ≤ gb370)); clear HO0 HO1_10 HO1_11 HB; revert n0_ n1_ n2_ n3_ n4_ n5_ n6_; intro HO0 HO1_10 HO1_11 HB BK370 GW370 GE370; clear hb hbox hg))
   have n0_ := mk_ (V_drew HO0.out)
   have n1_ := mk_ (V_drew HO1_10.out)
   have n2_ := mk_ (V_drew HO1_11.out)
   have n3_ := mk_ (blk_drew BK370.out)
   have n4_ := mk_ (below_drew1 HB.out)
   clear HO0 HO1_10 HO1_11 BK370 HB
   revert n0_ n1_ n2_ n3_ n4_
   intro HO0 HO1_10 HO1_11 BK370 HB
   refine start_ (n := 7) (S := fun w' => w'.cell? ⟨gb370, 0, none⟩ = some (.int .i64 a1_0) ∧ w'.cell? ⟨gb370, 1, none⟩ = some (.int .i64 a1_1) ∧ w'.cell? ⟨gb370, 2, none⟩ = some (.int .i64 a1_2) ∧ w'.cell? ⟨gb370, 3, none⟩ = some (.int .i64 a1_3) ∧ w'.cell? ⟨gb370, 4, none⟩ = some (.int .i64 a1_4) ∧ w'.cell? ⟨gb370, 5, none⟩ = some (.int .i64 a1_5) ∧ w'.cell? ⟨gb370, 6, none⟩ = some (.int .i64 a1_6) ∧ w'.cell? ⟨gb370, 7, none⟩ = some (.int .i64 a1_7) ∧ w'.cell? ⟨gb370, 8, none⟩ = some (.int .i64 a1_8) ∧ w'.cell? ⟨gb370, 9, none⟩ = some (.string a1_9) ∧ w'.cell? ⟨gb370, 10, none⟩ = some (.slice A1_10 l1_10.length c1_10) ∧ w'.cell? ⟨gb370, 11, none⟩ = some (.slice A1_11 l1_11.length c1_11) ∧ w'.cell? ⟨gb370, 12, none⟩ = some (.int .i64 a1_12) ∧ w'.cell? ⟨gb370, 13, none⟩ = some (.int .i64 a1_13)) (ds := []) #[false, false, false, false, false, false, false] z1 rfl rfl ⟨(blk_cell BK370.out 0).trans rfl, (blk_cell BK370.out 1).trans rfl, (blk_cell BK370.out 2).trans rfl, (blk_cell BK370.out 3).trans rfl, (blk_cell BK370.out 4).trans rfl, (blk_cell BK370.out 5).trans rfl, (blk_cell BK370.out 6).trans rfl, (blk_cell BK370.out 7).trans rfl, (blk_cell BK370.out 8).trans rfl, (blk_cell BK370.out 9).trans rfl, (blk_cell BK370.out 10).trans rfl, (blk_cell BK370.out 11).trans rfl, (blk_cell BK370.out 12).trans rfl, (blk_cell BK370.out 13).trans rfl⟩ (fun hHeld => ?_)
   generalize w5.drew = w6 at HO0 HO1_10 HO1_11 BK370 HB hHeld ⊢
   refine pure_ (i := 0) (N := some 6) (v := ?_) (a' := ?_) (Steps.Bs 7 1) rfl rfl z1 (fun _ _ _ h => h) (Or.inl ⟨by rfl, ?_⟩) ?_ ?_
   rotate_left
   ·
    intro w'
    go_simp
    with_reducible rfl
   rotate_left
   ·
    simp only [Act.put, List.setIfInBounds_toArray, List.set_cons_zero, List.set_cons_succ, i64_w, i32_w]
    rfl
   refine pure_ (i := 1) (N := some 7) (v := ?_) (a' := ?_) (Steps.Bs 7 3) rfl rfl z1 (fun _ _ _ h => h) (Or.inl ⟨by rfl, ?_⟩) ?_ ?_
   rotate_left
   ·
    intro w'
    go_simp
    with_reducible rfl
   rotate_left
   ·
    simp only [Act.put, List.setIfInBounds_toArray, List.set_cons_zero, List.set_cons_succ, i64_w, i32_w]
    rfl
   refine take_ (i := 3) (N := some 9) (v := ?_) (a' := ?_) (Steps.Bs 7 11) rfl rfl z1 (fun _ _ _ h => h) (Or.inl ⟨by rfl, ?_⟩) hHeld ?_ ?_
   rotate_left
   ·
    rintro w' ⟨s0, s1, s2, s3, s4, s5, s6, s7, s8, s9, s10, s11, s12, s13⟩
    go_simp
    with_reducible rfl
   rotate_left
   ·
    simp only [Act.put, List.setIfInBounds_toArray, List.set_cons_zero, List.set_cons_succ, i64_w, i32_w]
    rfl
   refine join_ (σ := Value × Value) 2 (Steps.Bs 7 31) (fun s_ => [(8, s_.1), (10, s_.2)]) (fun s_ w' => (w'.cell? ⟨gb370, 0, none⟩ = some (.int .i64 a1_0) ∧ w'.cell? ⟨gb370, 1, none⟩ = some (.int .i64 a1_1) ∧ w'.cell? ⟨gb370, 2, none⟩ = some (.int .i64 a1_2) ∧ w'.cell? ⟨gb370, 3, none⟩ = some (.int .i64 a1_3) ∧ w'.cell? ⟨gb370, 4, none⟩ = some (.int .i64 a1_4) ∧ w'.cell? ⟨gb370, 5, none⟩ = some (.int .i64 a1_5) ∧ w'.cell? ⟨gb370, 6, none⟩ = some (.int .i64 a1_6) ∧ w'.cell? ⟨gb370, 7, none⟩ = some (.int .i64 a1_7) ∧ w'.cell? ⟨gb370, 8, none⟩ = some (.int .i64 a1_8) ∧ w'.cell? ⟨gb370, 9, none⟩ = some (.string a1_9) ∧ w'.cell? ⟨gb370, 10, none⟩ = some (.slice A1_10 l1_10.length c1_10) ∧ w'.cell? ⟨gb370, 11, none⟩ = some (.slice A1_11 l1_11.length c1_11) ∧ w'.cell? ⟨gb370, 12, none⟩ = some (.int .i64 a1_12) ∧ w'.cell? ⟨gb370, 13, none⟩ = some (.int .i64 a1_13)) ∧ (Kd.V k34 34 w' w.heap.size (fun k_ => ((P0_ k_ ∨ P1_10_ k_ ∨ P1_11_ k_) ∨ w.heap.size ≤ k_) ∧ nb_ k_ (s_.1) ∧ nb_ k_ (s_.2) ∧ k_ ≠ gb370) (.slice A0 l0.length c0) l0) ∧ (Kd.V (Kd.int .i64) 3 w' w.heap.size (fun k_ => ((P0_ k_ ∨ P1_10_ k_ ∨ P1_11_ k_) ∨ w.heap.size ≤ k_) ∧ nb_ k_ (s_.1) ∧ nb_ k_ (s_.2) ∧ k_ ≠ gb370) (.slice A1_10 l1_10.length c1_10) l1_10) ∧ (Kd.V (Kd.int .i64) 3 w' w.heap.size (fun k_ => ((P0_ k_ ∨ P1_10_ k_ ∨ P1_11_ k_) ∨ w.heap.size ≤ k_) ∧ nb_ k_ (s_.1) ∧ nb_ k_ (s_.2) ∧ k_ ≠ gb370) (.slice A1_11 l1_11.length c1_11) l1_11) ∧ (Kd.N k34 34 w' w.heap.size (fun k_ => ((P0_ k_ ∨ P1_10_ k_ ∨ P1_11_ k_) ∨ w.heap.size ≤ k_) ∧ nb_ k_ (s_.2) ∧ k_ ≠ gb370) s_.1 y371) ∧ (Kd.N k34 34 w' w.heap.size (fun k_ => ((P0_ k_ ∨ P1_10_ k_ ∨ P1_11_ k_) ∨ w.heap.size ≤ k_) ∧ nb_ k_ (s_.1) ∧ k_ ≠ gb370) s_.2 y374) ∧ (w'.heap[gb370]? = some (.cells #[.int .i64 a1_0, .int .i64 a1_1, .int .i64 a1_2, .int .i64 a1_3, .int .i64 a1_4, .int .i64 a1_5, .int .i64 a1_6, .int .i64 a1_7, .int .i64 a1_8, .string a1_9, .slice A1_10 l1_10.length c1_10, .slice A1_11 l1_11.length c1_11, .int .i64 a1_12, .int .i64 a1_13] 34 (0, 0))) ∧ (Below w.heap.size w w')) ?_ ?_
   rotate_left
   ·
    intro hCont
    refine two_ (i := 2) (j := 4) (Ni := some 8) (Nj := some 10) (Steps.Bs 7 15) (Steps.Bs 7 27) rfl rfl rfl rfl z1 z10 z10 (fun K hK => ?_) (fun K hK => ?_)
    ·
     skip
     refine N_append_rows_step k34 (w0 := w) w.heap.size z12 (.tmp 6) (.tmp 7) 35 34 (.agg #[(.int .i64 0), (.int .i64 0), (.int .i64 0), (.int .i64 0), (.int .i64 0), (.int .i64 0), (.int .i64 0), (.int .i64 0), (.int .i64 0), (.string ⟨#[]⟩), (.slice none 0 0), (.slice none 0 0), (.int .i64 0), (.int .i64 0)]) 152 rfl Try.underlying35 info34 rfl z10 z5 (.slice none 0 0) ([] : List (S34)) l0 _ _ _ (fun k_ => ((P0_ k_ ∨ P1_10_ k_ ∨ P1_11_ k_) ∨ w.heap.size ≤ k_) ∧ k_ ≠ gb370) (fun k_ => ((fun k_ => ((P0_ k_ ∨ P1_10_ k_ ∨ P1_11_ k_) ∨ w.heap.size ≤ k_) ∧ k_ ≠ gb370)) k_ ∧ nb_ k_ (.slice none 0 0)) rfl rfl ?aO ?aR (fun _ hk => hk) ?aF ?aB ?aS ?aL ?_
     (case aR => exact (by skip; exact V_F (V_mono (ok' := (fun k_ => ((fun k_ => ((P0_ k_ ∨ P1_10_ k_ ∨ P1_11_ k_) ∨ w.heap.size ≤ k_) ∧ k_ ≠ gb370)) k_ ∧ nb_ k_ (.slice none 0 0))) (HO0.out) (fun k_ hk => ⟨⟨hk.1, hk.2⟩, (by simp [Value.ownBlock])⟩))))
     (case aB => exact (Short.hB HB))
     (case aF => exact (fun k_ hk => ⟨(.inr (Nat.le_trans (below_size (Short.hB HB)) hk)), Kd.freshB (g := gb370) (o := .cells #[.int .i64 a1_0, .int .i64 a1_1, .int .i64 a1_2, .int .i64 a1_3, .int .i64 a1_4, .int .i64 a1_5, .int .i64 a1_6, .int .i64 a1_7, .int .i64 a1_8, .string a1_9, .slice A1_10 l1_10.length c1_10, .slice A1_11 l1_11.length c1_11, .int .i64 a1_12, .int .i64 a1_13] 34 (0, 0)) (Short.bK BK370) k_ hk⟩))
     (case aO => exact ((N_nil _ _ _ _ (fun k_ => ((P0_ k_ ∨ P1_10_ k_ ∨ P1_11_ k_) ∨ w.heap.size ≤ k_) ∧ k_ ≠ gb370))))
     (case aS => exact (below_size (Short.hB HB)))
     (case aL => have := LMc3.out; omega)
     intro v372 w7 ho hb hg hat
     rw [← Ny371.out] at ho
     have n0_ := mk_ (V_afterv (V_apart_nil (ZKV HO0)) hg hat)
     have n1_ := mk_ (V_afterv (V_apart_nil (ZKV HO1_10)) hg hat)
     have n2_ := mk_ (V_afterv (V_apart_nil (ZKV HO1_11)) hg hat)
     have n3_ := mk_ (blk_grown (g := gb370) (o := .cells #[.int .i64 a1_0, .int .i64 a1_1, .int .i64 a1_2, .int .i64 a1_3, .int .i64 a1_4, .int .i64 a1_5, .int .i64 a1_6, .int .i64 a1_7, .int .i64 a1_8, .string a1_9, .slice A1_10 l1_10.length c1_10, .slice A1_11 l1_11.length c1_11, .int .i64 a1_12, .int .i64 a1_13] 34 (0, 0)) (Short.bK BK370) hg (by simp [Value.ownBlock]))
     have n4_ := mk_ (hb)
     have n5_ := mk_ (ho)
     clear HO0 HO1_10 HO1_11 BK370 HB
     revert n0_ n1_ n2_ n3_ n4_ n5_
     intro HO0 HO1_10 HO1_11 BK370 HB HO373
     clear ho hb hg hat
     refine hK.out _ _ ⟨(blk_cell BK370.out 0).trans rfl, (blk_cell BK370.out 1).trans rfl, (blk_cell BK370.out 2).trans rfl, (blk_cell BK370.out 3).trans rfl, (blk_cell BK370.out 4).trans rfl, (blk_cell BK370.out 5).trans rfl, (blk_cell BK370.out 6).trans rfl, (blk_cell BK370.out 7).trans rfl, (blk_cell BK370.out 8).trans rfl, (blk_cell BK370.out 9).trans rfl, (blk_cell BK370.out 10).trans rfl, (blk_cell BK370.out 11).trans rfl, (blk_cell BK370.out 12).trans rfl, (blk_cell BK370.out 13).trans rfl⟩ (fun hHeld => ?_)
     clear hK K
     refine norm_ (a' := ?_) ?_ ?_
     rotate_left
     ·
      show Act.put _ (some 8) _ = _
      simp only [Act.put, List.setIfInBounds_toArray, List.set_cons_zero, List.set_cons_succ, i64_w, i32_w]
      rfl
     refine one_ (i := 4) (N := some 10) (Steps.Bs 7 31) rfl rfl z1 z10 (fun K hK => ?_)
     refine N_lit_step k34 _ 34 ?hg (N' := 10) ?hd (xs := ([(⟨a1_0, a1_1, a1_2, a1_3, (⟨a1_4, a1_5, a1_6, (⟨a1_7, a1_8, a1_9⟩ : S29)⟩ : S31), l1_10, l1_11, a1_12, a1_13⟩ : S34)] : List (S34))) (inner := [.int .i64 a1_0, .int .i64 a1_1, .int .i64 a1_2, .int .i64 a1_3, .int .i64 a1_4, .int .i64 a1_5, .int .i64 a1_6, .int .i64 a1_7, .int .i64 a1_8, .string a1_9, .slice A1_10 l1_10.length c1_10, .slice A1_11 l1_11.length c1_11, .int .i64 a1_12, .int .i64 a1_13]) (ok := (fun k_ => ((P0_ k_ ∨ P1_10_ k_ ∨ P1_11_ k_) ∨ w.heap.size ≤ k_) ∧ nb_ k_ (v372) ∧ k_ ≠ gb370)) (okp := (fun k_ => ((P0_ k_ ∨ P1_10_ k_ ∨ P1_11_ k_) ∨ w.heap.size ≤ k_) ∧ nb_ k_ (v372) ∧ k_ ≠ gb370)) ?hr ?hp (fun _ hk => hk) ((show ∀ k_, w7.heap.size ≤ k_ → (fun k_ => ((P0_ k_ ∨ P1_10_ k_ ∨ P1_11_ k_) ∨ w.heap.size ≤ k_) ∧ nb_ k_ (v372) ∧ k_ ≠ gb370) k_ from fun k_ hk => ⟨(.inr (Nat.le_trans (below_size (Short.hB HB)) hk)), Kd.fresh' (N_lt (ZKN HO373)) k_ hk, Kd.freshB (g := gb370) (o := .cells #[.int .i64 a1_0, .int .i64 a1_1, .int .i64 a1_2, .int .i64 a1_3, .int .i64 a1_4, .int .i64 a1_5, .int .i64 a1_6, .int .i64 a1_7, .int .i64 a1_8, .string a1_9, .slice A1_10 l1_10.length c1_10, .slice A1_11 l1_11.length c1_11, .int .i64 a1_12, .int .i64 a1_13] 34 (0, 0)) (Short.bK BK370) k_ hk⟩) _ (Nat.le_refl _)) (Below.refl _ _) (Nat.le_refl _) (by simp) ?_; (case hd => rfl); (case hg => rfl); (case hr => first | (go_simp; done) | (go_simp; rfl)); (case hp => exact (Reps.front (show Kd.FK k34 _ _ (⟨a1_0, a1_1, a1_2, a1_3, (⟨a1_4, a1_5, a1_6, (⟨a1_7, a1_8, a1_9⟩ : S29)⟩ : S31), l1_10, l1_11, a1_12, a1_13⟩ : S34) [.int .i64 a1_0, .int .i64 a1_1, .int .i64 a1_2, .int .i64 a1_3, .int .i64 a1_4, .int .i64 a1_5, .int .i64 a1_6, .int .i64 a1_7, .int .i64 a1_8, .string a1_9, .slice A1_10 l1_10.length c1_10, .slice A1_11 l1_11.length c1_11, .int .i64 a1_12, .int .i64 a1_13] from (k34_mkF _ _ (⟨a1_0, a1_1, a1_2, a1_3, (⟨a1_4, a1_5, a1_6, (⟨a1_7, a1_8, a1_9⟩ : S29)⟩ : S31), l1_10, l1_11, a1_12, a1_13⟩ : S34) (V_reads' (V_mono (ok' := (fun k_ => ((P0_ k_ ∨ P1_10_ k_ ∨ P1_11_ k_) ∨ w.heap.size ≤ k_) ∧ nb_ k_ (v372) ∧ k_ ≠ gb370)) (HO1_10.out) (fun k_ hk => ⟨hk.1.1, ⟨hk.2, hk.1.2⟩⟩))).2.1 (V_F (V_mono (ok' := (fun k_ => ((P0_ k_ ∨ P1_10_ k_ ∨ P1_11_ k_) ∨ w.heap.size ≤ k_) ∧ nb_ k_ (v372) ∧ k_ ≠ gb370)) (HO1_10.out) (fun k_ hk => ⟨hk.1.1, ⟨hk.2, hk.1.2⟩⟩))) (V_reads' (V_mono (ok' := (fun k_ => ((P0_ k_ ∨ P1_10_ k_ ∨ P1_11_ k_) ∨ w.heap.size ≤ k_) ∧ nb_ k_ (v372) ∧ k_ ≠ gb370)) (HO1_11.out) (fun k_ hk => ⟨hk.1.1, ⟨hk.2, hk.1.2⟩⟩))).2.1 (V_F (V_mono (ok' := (fun k_ => ((P0_ k_ ∨ P1_10_ k_ ∨ P1_11_ k_) ∨ w.heap.size ≤ k_) ∧ nb_ k_ (v372) ∧ k_ ≠ gb370)) (HO1_11.out) (fun k_ hk => ⟨hk.1.1, ⟨hk.2, hk.1.2⟩⟩))))) rfl (Reps.none _ _) rfl))
     intro v375 w8 ho9 hb hg_ hnew_
     clear hg_ hnew_
     (first | rw [← Ny374.out] at ho9 | (simp only [Int.reduceToNat] at ho9; rw [← Ny374.out] at ho9))
     have n0_ := mk_ (V_elder' (ZKV HO0) (N_base ho9) hb)
     have n1_ := mk_ (V_elder' (ZKV HO1_10) (N_base ho9) hb)
     have n2_ := mk_ (V_elder' (ZKV HO1_11) (N_base ho9) hb)
     have n3_ := mk_ (N_elder' (ZKN HO373) (N_base ho9) hb)
     have n4_ := mk_ (N_lower ho9 (below_size (Short.hB HB)))
     have n5_ := mk_ (bB_ BK370 hb)
     have n6_ := mk_ (below_step (Short.hB HB) hb)
     clear HO0 HO1_10 HO1_11 HO373 BK370 HB
     revert n0_ n1_ n2_ n3_ n4_ n5_ n6_
     intro HO0 HO1_10 HO1_11 HO373 HO376 BK370 HB
     clear hb ho9
     refine hK.out _ _ ⟨(blk_cell BK370.out 0).trans rfl, (blk_cell BK370.out 1).trans rfl, (blk_cell BK370.out 2).trans rfl, (blk_cell BK370.out 3).trans rfl, (blk_cell BK370.out 4).trans rfl, (blk_cell BK370.out 5).trans rfl, (blk_cell BK370.out 6).trans rfl, (blk_cell BK370.out 7).trans rfl, (blk_cell BK370.out 8).trans rfl, (blk_cell BK370.out 9).trans rfl, (blk_cell BK370.out 10).trans rfl, (blk_cell BK370.out 11).trans rfl, (blk_cell BK370.out 12).trans rfl, (blk_cell BK370.out 13).trans rfl⟩ (fun hHeld => ?_)
     clear hK K
     refine norm_ (a' := ?_) ?_ ?_
     rotate_left
     ·
      show Act.put _ (some 10) _ = _
      simp only [Act.put, List.setIfInBounds_toArray, List.set_cons_zero, List.set_cons_succ, i64_w, i32_w]
      rfl
     exact norm_ (by simp only [putAll, Act.put, List.setIfInBounds_toArray, List.set_cons_zero, List.set_cons_succ]) (hCont (v372, v375) _ ⟨hHeld, (vM_ HO0 (fun _ hk => ⟨hk.1.1.1, ⟨hk.1.2, ⟨hk.2, hk.1.1.2⟩⟩⟩)), (vM_ HO1_10 (fun _ hk => ⟨hk.1.1.1, ⟨hk.1.2, ⟨hk.2, hk.1.1.2⟩⟩⟩)), (vM_ HO1_11 (fun _ hk => ⟨hk.1.1.1, ⟨hk.1.2, ⟨hk.2, hk.1.1.2⟩⟩⟩)), (nM_ HO373 (fun _ hk => ⟨hk.1.1, ⟨hk.2, hk.1.2⟩⟩)), (ZKN HO376), (Short.bK BK370), (Short.hB HB)⟩)
    ·
     skip
     refine N_lit_step k34 _ 34 ?hg (N' := 10) ?hd (xs := ([(⟨a1_0, a1_1, a1_2, a1_3, (⟨a1_4, a1_5, a1_6, (⟨a1_7, a1_8, a1_9⟩ : S29)⟩ : S31), l1_10, l1_11, a1_12, a1_13⟩ : S34)] : List (S34))) (inner := [.int .i64 a1_0, .int .i64 a1_1, .int .i64 a1_2, .int .i64 a1_3, .int .i64 a1_4, .int .i64 a1_5, .int .i64 a1_6, .int .i64 a1_7, .int .i64 a1_8, .string a1_9, .slice A1_10 l1_10.length c1_10, .slice A1_11 l1_11.length c1_11, .int .i64 a1_12, .int .i64 a1_13]) (ok := (fun k_ => ((P0_ k_ ∨ P1_10_ k_ ∨ P1_11_ k_) ∨ w.heap.size ≤ k_) ∧ k_ ≠ gb370)) (okp := (fun k_ => ((P0_ k_ ∨ P1_10_ k_ ∨ P1_11_ k_) ∨ w.heap.size ≤ k_) ∧ k_ ≠ gb370)) ?hr ?hp (fun _ hk => hk) ((show ∀ k_, w6.heap.size ≤ k_ → (fun k_ => ((P0_ k_ ∨ P1_10_ k_ ∨ P1_11_ k_) ∨ w.heap.size ≤ k_) ∧ k_ ≠ gb370) k_ from fun k_ hk => ⟨(.inr (Nat.le_trans (below_size (Short.hB HB)) hk)), Kd.freshB (g := gb370) (o := .cells #[.int .i64 a1_0, .int .i64 a1_1, .int .i64 a1_2, .int .i64 a1_3, .int .i64 a1_4, .int .i64 a1_5, .int .i64 a1_6, .int .i64 a1_7, .int .i64 a1_8, .string a1_9, .slice A1_10 l1_10.length c1_10, .slice A1_11 l1_11.length c1_11, .int .i64 a1_12, .int .i64 a1_13] 34 (0, 0)) (Short.bK BK370) k_ hk⟩) _ (Nat.le_refl _)) (Below.refl _ _) (Nat.le_refl _) (by simp) ?_; (case hd => rfl); (case hg => rfl); (case hr => first | (go_simp; done) | (go_simp; rfl)); (case hp => exact (Reps.front (show Kd.FK k34 _ _ (⟨a1_0, a1_1, a1_2, a1_3, (⟨a1_4, a1_5, a1_6, (⟨a1_7, a1_8, a1_9⟩ : S29)⟩ : S31), l1_10, l1_11, a1_12, a1_13⟩ : S34) [.int .i64 a1_0, .int .i64 a1_1, .int .i64 a1_2, .int .i64 a1_3, .int .i64 a1_4, .int .i64 a1_5, .int .i64 a1_6, .int .i64 a1_7, .int .i64 a1_8, .string a1_9, .slice A1_10 l1_10.length c1_10, .slice A1_11 l1_11.length c1_11, .int .i64 a1_12, .int .i64 a1_13] from (k34_mkF _ _ (⟨a1_0, a1_1, a1_2, a1_3, (⟨a1_4, a1_5, a1_6, (⟨a1_7, a1_8, a1_9⟩ : S29)⟩ : S31), l1_10, l1_11, a1_12, a1_13⟩ : S34) (V_reads' (V_mono (ok' := (fun k_ => ((P0_ k_ ∨ P1_10_ k_ ∨ P1_11_ k_) ∨ w.heap.size ≤ k_) ∧ k_ ≠ gb370)) (HO1_10.out) (fun k_ hk => ⟨hk.1, hk.2⟩))).2.1 (V_F (V_mono (ok' := (fun k_ => ((P0_ k_ ∨ P1_10_ k_ ∨ P1_11_ k_) ∨ w.heap.size ≤ k_) ∧ k_ ≠ gb370)) (HO1_10.out) (fun k_ hk => ⟨hk.1, hk.2⟩))) (V_reads' (V_mono (ok' := (fun k_ => ((P0_ k_ ∨ P1_10_ k_ ∨ P1_11_ k_) ∨ w.heap.size ≤ k_) ∧ k_ ≠ gb370)) (HO1_11.out) (fun k_ hk => ⟨hk.1, hk.2⟩))).2.1 (V_F (V_mono (ok' := (fun k_ => ((P0_ k_ ∨ P1_10_ k_ ∨ P1_11_ k_) ∨ w.heap.size ≤ k_) ∧ k_ ≠ gb370)) (HO1_11.out) (fun k_ hk => ⟨hk.1, hk.2⟩))))) rfl (Reps.none _ _) rfl))
     intro v375 w7 ho8 hb hg_ hnew_
     clear hg_ hnew_
     (first | rw [← Ny374.out] at ho8 | (simp only [Int.reduceToNat] at ho8; rw [← Ny374.out] at ho8))
     have n0_ := mk_ (V_elder' (ZKV HO0) (N_base ho8) hb)
     have n1_ := mk_ (V_elder' (ZKV HO1_10) (N_base ho8) hb)
     have n2_ := mk_ (V_elder' (ZKV HO1_11) (N_base ho8) hb)
     have n3_ := mk_ (N_lower ho8 (below_size (Short.hB HB)))
     have n4_ := mk_ (bB_ BK370 hb)
     have n5_ := mk_ (below_step (Short.hB HB) hb)
     clear HO0 HO1_10 HO1_11 BK370 HB
     revert n0_ n1_ n2_ n3_ n4_ n5_
     intro HO0 HO1_10 HO1_11 HO376 BK370 HB
     clear hb ho8
     refine hK.out _ _ ⟨(blk_cell BK370.out 0).trans rfl, (blk_cell BK370.out 1).trans rfl, (blk_cell BK370.out 2).trans rfl, (blk_cell BK370.out 3).trans rfl, (blk_cell BK370.out 4).trans rfl, (blk_cell BK370.out 5).trans rfl, (blk_cell BK370.out 6).trans rfl, (blk_cell BK370.out 7).trans rfl, (blk_cell BK370.out 8).trans rfl, (blk_cell BK370.out 9).trans rfl, (blk_cell BK370.out 10).trans rfl, (blk_cell BK370.out 11).trans rfl, (blk_cell BK370.out 12).trans rfl, (blk_cell BK370.out 13).trans rfl⟩ (fun hHeld => ?_)
     clear hK K
     refine norm_ (a' := ?_) ?_ ?_
     rotate_left
     ·
      show Act.put _ (some 10) _ = _
      simp only [Act.put, List.setIfInBounds_toArray, List.set_cons_zero, List.set_cons_succ, i64_w, i32_w]
      rfl
     refine one_ (i := 2) (N := some 8) (Steps.Bs 7 31) rfl rfl z1 z10 (fun K hK => ?_)
     refine N_append_rows_step k34 (w0 := w) w.heap.size z12 (.tmp 6) (.tmp 7) 35 34 (.agg #[(.int .i64 0), (.int .i64 0), (.int .i64 0), (.int .i64 0), (.int .i64 0), (.int .i64 0), (.int .i64 0), (.int .i64 0), (.int .i64 0), (.string ⟨#[]⟩), (.slice none 0 0), (.slice none 0 0), (.int .i64 0), (.int .i64 0)]) 152 rfl Try.underlying35 info34 rfl z10 z5 (.slice none 0 0) ([] : List (S34)) l0 _ _ _ (fun k_ => ((P0_ k_ ∨ P1_10_ k_ ∨ P1_11_ k_) ∨ w.heap.size ≤ k_) ∧ nb_ k_ (v375) ∧ k_ ≠ gb370) (fun k_ => ((fun k_ => ((P0_ k_ ∨ P1_10_ k_ ∨ P1_11_ k_) ∨ w.heap.size ≤ k_) ∧ nb_ k_ (v375) ∧ k_ ≠ gb370)) k_ ∧ nb_ k_ (.slice none 0 0)) rfl rfl ?aO ?aR (fun _ hk => hk) ?aF ?aB ?aS ?aL ?_
     (case aR => exact (by skip; exact V_F (V_mono (ok' := (fun k_ => ((fun k_ => ((P0_ k_ ∨ P1_10_ k_ ∨ P1_11_ k_) ∨ w.heap.size ≤ k_) ∧ nb_ k_ (v375) ∧ k_ ≠ gb370)) k_ ∧ nb_ k_ (.slice none 0 0))) (HO0.out) (fun k_ hk => ⟨⟨hk.1.1, ⟨hk.2, hk.1.2⟩⟩, (by simp [Value.ownBlock])⟩))))
     (case aB => exact (Short.hB HB))
     (case aF => exact (fun k_ hk => ⟨(.inr (Nat.le_trans (below_size (Short.hB HB)) hk)), Kd.fresh' (N_lt (ZKN HO376)) k_ hk, Kd.freshB (g := gb370) (o := .cells #[.int .i64 a1_0, .int .i64 a1_1, .int .i64 a1_2, .int .i64 a1_3, .int .i64 a1_4, .int .i64 a1_5, .int .i64 a1_6, .int .i64 a1_7, .int .i64 a1_8, .string a1_9, .slice A1_10 l1_10.length c1_10, .slice A1_11 l1_11.length c1_11, .int .i64 a1_12, .int .i64 a1_13] 34 (0, 0)) (Short.bK BK370) k_ hk⟩))
     (case aO => exact ((N_nil _ _ _ _ (fun k_ => ((P0_ k_ ∨ P1_10_ k_ ∨ P1_11_ k_) ∨ w.heap.size ≤ k_) ∧ nb_ k_ (v375) ∧ k_ ≠ gb370))))
     (case aS => exact (below_size (Short.hB HB)))
     (case aL => have := LMc3.out; omega)
     intro v372 w9 ho hb hg hat
     rw [← Ny371.out] at ho
     have n0_ := mk_ (V_afterv (V_apart_nil (ZKV HO0)) hg hat)
     have n1_ := mk_ (V_afterv (V_apart_nil (ZKV HO1_10)) hg hat)
     have n2_ := mk_ (V_afterv (V_apart_nil (ZKV HO1_11)) hg hat)
     have n3_ := mk_ (blk_grown (g := gb370) (o := .cells #[.int .i64 a1_0, .int .i64 a1_1, .int .i64 a1_2, .int .i64 a1_3, .int .i64 a1_4, .int .i64 a1_5, .int .i64 a1_6, .int .i64 a1_7, .int .i64 a1_8, .string a1_9, .slice A1_10 l1_10.length c1_10, .slice A1_11 l1_11.length c1_11, .int .i64 a1_12, .int .i64 a1_13] 34 (0, 0)) (Short.bK BK370) hg (by simp [Value.ownBlock]))
     have n4_ := mk_ (N_afterv (N_apart_nil (ZKN HO376)) hg hat)
     have n5_ := mk_ (hb)
     have n6_ := mk_ (ho)
     clear HO0 HO1_10 HO1_11 BK370 HO376 HB
     revert n0_ n1_ n2_ n3_ n4_ n5_ n6_
     intro HO0 HO1_10 HO1_11 BK370 HO376 HB HO373
     clear ho hb hg hat
     refine hK.out _ _ ⟨(blk_cell BK370.out 0).trans rfl, (blk_cell BK370.out 1).trans rfl, (blk_cell BK370.out 2).trans rfl, (blk_cell BK370.out 3).trans rfl, (blk_cell BK370.out 4).trans rfl, (blk_cell BK370.out 5).trans rfl, (blk_cell BK370.out 6).trans rfl, (blk_cell BK370.out 7).trans rfl, (blk_cell BK370.out 8).trans rfl, (blk_cell BK370.out 9).trans rfl, (blk_cell BK370.out 10).trans rfl, (blk_cell BK370.out 11).trans rfl, (blk_cell BK370.out 12).trans rfl, (blk_cell BK370.out 13).trans rfl⟩ (fun hHeld => ?_)
     clear hK K
     refine norm_ (a' := ?_) ?_ ?_
     rotate_left
     ·
      show Act.put _ (some 8) _ = _
      simp only [Act.put, List.setIfInBounds_toArray, List.set_cons_zero, List.set_cons_succ, i64_w, i32_w]
      rfl
     exact norm_ (by simp only [putAll, Act.put, List.setIfInBounds_toArray, List.set_cons_zero, List.set_cons_succ]) (hCont (v372, v375) _ ⟨hHeld, (vM_ HO0 (fun _ hk => ⟨hk.1.1.1, ⟨hk.2, ⟨hk.1.2, hk.1.1.2⟩⟩⟩)), (vM_ HO1_10 (fun _ hk => ⟨hk.1.1.1, ⟨hk.2, ⟨hk.1.2, hk.1.1.2⟩⟩⟩)), (vM_ HO1_11 (fun _ hk => ⟨hk.1.1.1, ⟨hk.2, ⟨hk.1.2, hk.1.1.2⟩⟩⟩)), (ZKN HO373), (nM_ HO376 (fun _ hk => ⟨hk.1.1, ⟨hk.2, hk.1.2⟩⟩)), (Short.bK BK370), (Short.hB HB)⟩)
   rintro ⟨v372, v375⟩ w10 ⟨hS_, h0_, h1_, h2_, h3_, h4_, h5_, h6_⟩
   have n0_ : Aside0 (Kd.V k34 34 w10 w.heap.size (fun k_ => ((P0_ k_ ∨ P1_10_ k_ ∨ P1_11_ k_) ∨ w.heap.size ≤ k_) ∧ nb_ k_ (v372) ∧ nb_ k_ (v375) ∧ k_ ≠ gb370) (.slice A0 l0.length c0) l0) := ⟨h0_⟩
   have n1_ : Aside0 (Kd.V (Kd.int .i64) 3 w10 w.heap.size (fun k_ => ((P0_ k_ ∨ P1_10_ k_ ∨ P1_11_ k_) ∨ w.heap.size ≤ k_) ∧ nb_ k_ (v372) ∧ nb_ k_ (v375) ∧ k_ ≠ gb370) (.slice A1_10 l1_10.length c1_10) l1_10) := ⟨h1_⟩
   have n2_ : Aside0 (Kd.V (Kd.int .i64) 3 w10 w.heap.size (fun k_ => ((P0_ k_ ∨ P1_10_ k_ ∨ P1_11_ k_) ∨ w.heap.size ≤ k_) ∧ nb_ k_ (v372) ∧ nb_ k_ (v375) ∧ k_ ≠ gb370) (.slice A1_11 l1_11.length c1_11) l1_11) := ⟨h2_⟩
   have n3_ : Aside0 (Kd.N k34 34 w10 w.heap.size (fun k_ => ((P0_ k_ ∨ P1_10_ k_ ∨ P1_11_ k_) ∨ w.heap.size ≤ k_) ∧ nb_ k_ (v375) ∧ k_ ≠ gb370) v372 y371) := ⟨h3_⟩
   have n4_ : Aside0 (Kd.N k34 34 w10 w.heap.size (fun k_ => ((P0_ k_ ∨ P1_10_ k_ ∨ P1_11_ k_) ∨ w.heap.size ≤ k_) ∧ nb_ k_ (v372) ∧ k_ ≠ gb370) v375 y374) := ⟨h4_⟩
   have n5_ : Aside0 (w10.heap[gb370]? = some (.cells #[.int .i64 a1_0, .int .i64 a1_1, .int .i64 a1_2, .int .i64 a1_3, .int .i64 a1_4, .int .i64 a1_5, .int .i64 a1_6, .int .i64 a1_7, .int .i64 a1_8, .string a1_9, .slice A1_10 l1_10.length c1_10, .slice A1_11 l1_11.length c1_11, .int .i64 a1_12, .int .i64 a1_13] 34 (0, 0))) := ⟨h5_⟩
   have n6_ : Aside0 (Below w.heap.size w w10) := ⟨h6_⟩
   clear HO0 HO1_10 HO1_11 BK370 HB
   clear h0_ h1_ h2_ h3_ h4_ h5_ h6_
   revert n0_ n1_ n2_ n3_ n4_ n5_ n6_
   intro HO0 HO1_10 HO1_11 HO373 HO376 BK370 HB
   have hHeld : w10.cell? ⟨gb370, 0, none⟩ = some (.int .i64 a1_0) ∧ w10.cell? ⟨gb370, 1, none⟩ = some (.int .i64 a1_1) ∧ w10.cell? ⟨gb370, 2, none⟩ = some (.int .i64 a1_2) ∧ w10.cell? ⟨gb370, 3, none⟩ = some (.int .i64 a1_3) ∧ w10.cell? ⟨gb370, 4, none⟩ = some (.int .i64 a1_4) ∧ w10.cell? ⟨gb370, 5, none⟩ = some (.int .i64 a1_5) ∧ w10.cell? ⟨gb370, 6, none⟩ = some (.int .i64 a1_6) ∧ w10.cell? ⟨gb370, 7, none⟩ = some (.int .i64 a1_7) ∧ w10.cell? ⟨gb370, 8, none⟩ = some (.int .i64 a1_8) ∧ w10.cell? ⟨gb370, 9, none⟩ = some (.string a1_9) ∧ w10.cell? ⟨gb370, 10, none⟩ = some (.slice A1_10 l1_10.length c1_10) ∧ w10.cell? ⟨gb370, 11, none⟩ = some (.slice A1_11 l1_11.length c1_11) ∧ w10.cell? ⟨gb370, 12, none⟩ = some (.int .i64 a1_12) ∧ w10.cell? ⟨gb370, 13, none⟩ = some (.int .i64 a1_13) := hS_
   obtain ⟨Ao12, co12, eo12⟩ := N_slice HO376.out
   (first | subst eo12 | (injection eo12 with f1_ f2_ f3_; have f4_ := f1_.symm; have f5_ := f3_.symm; clear f1_ f2_ f3_; subst f4_; subst f5_))
   refine norm_ (a' := ?_) ?_ ?_
   rotate_left
   ·
    simp only [putAll, Act.put, List.setIfInBounds_toArray, List.set_cons_zero, List.set_cons_succ]
    rfl
   refine one_ (i := 5) (N := some 11) (Steps.Bs 7 63) rfl rfl z1 z10 (fun K hK => ?_)
   refine N_append_rows_step k34 (w0 := w) w.heap.size z12 (.tmp 8) (.tmp 10) 35 34 (.agg #[(.int .i64 0), (.int .i64 0), (.int .i64 0), (.int .i64 0), (.int .i64 0), (.int .i64 0), (.int .i64 0), (.int .i64 0), (.int .i64 0), (.string ⟨#[]⟩), (.slice none 0 0), (.slice none 0 0), (.int .i64 0), (.int .i64 0)]) 152 rfl Try.underlying35 info34 rfl z10 z5 v372 y371 y374 _ _ _ (fun k_ => ((P0_ k_ ∨ P1_10_ k_ ∨ P1_11_ k_) ∨ w.heap.size ≤ k_) ∧ k_ ≠ gb370) (fun k_ => ((fun k_ => ((P0_ k_ ∨ P1_10_ k_ ∨ P1_11_ k_) ∨ w.heap.size ≤ k_) ∧ k_ ≠ gb370)) k_ ∧ nb_ k_ (v372)) rfl rfl ?aO ?aR (fun _ hk => hk) ?aF ?aB ?aS ?aL ?_
   (case aR => exact (by skip; exact N_F (N_mono (ok' := (fun k_ => ((fun k_ => ((P0_ k_ ∨ P1_10_ k_ ∨ P1_11_ k_) ∨ w.heap.size ≤ k_) ∧ k_ ≠ gb370)) k_ ∧ nb_ k_ (v372))) (HO376.out) (fun k_ hk => ⟨⟨hk.1, hk.2.2⟩, hk.2.1⟩))))
   (case aB => exact (Short.hB HB))
   (case aF => exact (fun k_ hk => ⟨(.inr (Nat.le_trans (below_size (Short.hB HB)) hk)), Kd.freshB (g := gb370) (o := .cells #[.int .i64 a1_0, .int .i64 a1_1, .int .i64 a1_2, .int .i64 a1_3, .int .i64 a1_4, .int .i64 a1_5, .int .i64 a1_6, .int .i64 a1_7, .int .i64 a1_8, .string a1_9, .slice A1_10 l1_10.length c1_10, .slice A1_11 l1_11.length c1_11, .int .i64 a1_12, .int .i64 a1_13] 34 (0, 0)) (Short.bK BK370) k_ hk⟩))
   (case aO => exact (nM_ HO373 (fun _ hk => ⟨hk.1, hk.2.2⟩)))
   (case aS => exact (below_size (Short.hB HB)))
   (case aL => have := LMc4.out; omega)
   intro v378 w11 ho hb hg hat
   rw [← Ny377.out] at ho
   have n0_ := mk_ (V_afterv (ok := (fun k_ => ((P0_ k_ ∨ P1_10_ k_ ∨ P1_11_ k_) ∨ w.heap.size ≤ k_) ∧ nb_ k_ (.slice Ao12 y374.length co12) ∧ k_ ≠ gb370)) (vM_ HO0 (fun _ hk => ⟨⟨hk.1, ⟨hk.2.2.1, hk.2.2.2⟩⟩, hk.2.1⟩)) hg hat)
   have n1_ := mk_ (V_afterv (ok := (fun k_ => ((P0_ k_ ∨ P1_10_ k_ ∨ P1_11_ k_) ∨ w.heap.size ≤ k_) ∧ nb_ k_ (.slice Ao12 y374.length co12) ∧ k_ ≠ gb370)) (vM_ HO1_10 (fun _ hk => ⟨⟨hk.1, ⟨hk.2.2.1, hk.2.2.2⟩⟩, hk.2.1⟩)) hg hat)
   have n2_ := mk_ (V_afterv (ok := (fun k_ => ((P0_ k_ ∨ P1_10_ k_ ∨ P1_11_ k_) ∨ w.heap.size ≤ k_) ∧ nb_ k_ (.slice Ao12 y374.length co12) ∧ k_ ≠ gb370)) (vM_ HO1_11 (fun _ hk => ⟨⟨hk.1, ⟨hk.2.2.1, hk.2.2.2⟩⟩, hk.2.1⟩)) hg hat)
   have n3_ := mk_ (blk_grown (g := gb370) (o := .cells #[.int .i64 a1_0, .int .i64 a1_1, .int .i64 a1_2, .int .i64 a1_3, .int .i64 a1_4, .int .i64 a1_5, .int .i64 a1_6, .int .i64 a1_7, .int .i64 a1_8, .string a1_9, .slice A1_10 l1_10.length c1_10, .slice A1_11 l1_11.length c1_11, .int .i64 a1_12, .int .i64 a1_13] 34 (0, 0)) (Short.bK BK370) hg (N_away HO373.out (fun _ hk => hk.2.2)))
   have n4_ := mk_ (N_afterv (ok := (fun k_ => ((P0_ k_ ∨ P1_10_ k_ ∨ P1_11_ k_) ∨ w.heap.size ≤ k_) ∧ k_ ≠ gb370)) (nM_ HO376 (fun _ hk => ⟨⟨hk.1, hk.2.2⟩, hk.2.1⟩)) hg hat)
   have n5_ := mk_ (hb)
   have n6_ := mk_ (ho)
   clear HO0 HO1_10 HO1_11 BK370 HO376 HB HO373
   revert n0_ n1_ n2_ n3_ n4_ n5_ n6_
   intro HO0 HO1_10 HO1_11 BK370 HO376 HB HO379
   clear ho hb hg hat
   refine hK.out _ _ ⟨(blk_cell BK370.out 0).trans rfl, (blk_cell BK370.out 1).trans rfl, (blk_cell BK370.out 2).trans rfl, (blk_cell BK370.out 3).trans rfl, (blk_cell BK370.out 4).trans rfl, (blk_cell BK370.out 5).trans rfl, (blk_cell BK370.out 6).trans rfl, (blk_cell BK370.out 7).trans rfl, (blk_cell BK370.out 8).trans rfl, (blk_cell BK370.out 9).trans rfl, (blk_cell BK370.out 10).trans rfl, (blk_cell BK370.out 11).trans rfl, (blk_cell BK370.out 12).trans rfl, (blk_cell BK370.out 13).trans rfl⟩ (fun hHeld => ?_)
   clear hK K
   refine norm_ (a' := ?_) ?_ ?_
   rotate_left
   ·
    show Act.put _ (some 11) _ = _
    simp only [Act.put, List.setIfInBounds_toArray, List.set_cons_zero, List.set_cons_succ, i64_w, i32_w]
    rfl
   refine pure_ (i := 6) (N := some 4) (v := ?_) (a' := ?_) (Steps.Bs 7 127) rfl rfl z1 (fun _ _ _ h => h) (Or.inl ⟨by rfl, ?_⟩) ?_ ?_
   rotate_left
   ·
    intro w'
    go_simp
    with_reducible rfl
   rotate_left
   ·
    simp only [Act.put, List.setIfInBounds_toArray, List.set_cons_zero, List.set_cons_succ, i64_w, i32_w]
    rfl
   refine done_ z1 ?_
   try go_wp2
   go_ret
   exact ⟨_, by first | rfl | (simp [errW_none, errW_some] <;> rfl) | (simp [*, errW_none, errW_some] <;> rfl), by (with_reducible repeat (first | apply N_alloc | apply N_drewN | apply N_drew)); exact N_mono HO379.out (fun _ hk => hk.1), Short.hB HB⟩
  ·
   rw [if_neg c4] at H
   exact absurd H (by simp)
 ·
  rw [if_neg c3] at H
  exact absurd H (by simp)
end Go.Proofs.Ytimbbaoodjhdoaa.PAll
end
