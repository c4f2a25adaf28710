-- wip/slice2.py
import Derived.Test.YtjnjfogfpmeacaaZOpSizes0

set_option maxHeartbeats 8000000
set_option maxRecDepth 100000
open Go.Proofs.YtjnjfogfpmeacaaW Go.Proofs.Ytjnjfogfpmeacaa
section
namespace Go.Proofs.Ytjnjfogfpmeacaa.PAll
open Go.RowKit PrintWords PrintLast PrintMore ZipT PrintWords.Kd PrintMore.Kd
attribute [local go_sem] max2_int min2_int max_two min_two max_three min_three max_four min_four   -- for this text's walks alone
set_option linter.unusedVariables false
set_option linter.unusedSimpArgs false
theorem k25_mk (w : World) (x : S25)  : k25.K w x [.int .i64 x.f0, .int .i64 x.f1] := ⟨[.int .i64 x.f0], [.int .i64 x.f1], rfl, rfl, rfl⟩
def z28 : S28 := ⟨(0 : Int), (0 : Int), (0 : Int)⟩
def k28 : Kd S28 := Kd.iso (Kd.pair (Kd.int .i64) (Kd.pair (Kd.int .i64) (Kd.int .i64))) (fun x : S28 => (x.f0, x.f1, x.f2))
theorem k28_open {w : World} {x : S28} {cs : List Value} (h : k28.K w x cs) : cs = [.int .i64 x.f0, .int .i64 x.f1, .int .i64 x.f2] := by
 obtain ⟨_, _, rfl, rfl, ⟨_, _, rfl, rfl, rfl⟩⟩ := h
 exact rfl
theorem k28_mk (w : World) (x : S28)  : k28.K w x [.int .i64 x.f0, .int .i64 x.f1, .int .i64 x.f2] := ⟨[.int .i64 x.f0], [.int .i64 x.f1, .int .i64 x.f2], rfl, rfl, ⟨[.int .i64 x.f1], [.int .i64 x.f2], rfl, rfl, rfl⟩⟩
def z32 : S32 := ⟨z25, ([] : List Int), z28, (0 : Int), (0 : Int), (⟨#[]⟩ : ByteArray), (0 : Int), ([] : List S84), ([] : List S25)⟩
def k32 : Kd S32 := Kd.iso (Kd.pair k25 (Kd.pair (Kd.slice 3 (Kd.int .i64)) (Kd.pair k28 (Kd.pair (Kd.int .i64) (Kd.pair (Kd.int .i64) (Kd.pair Kd.string (Kd.pair (Kd.int .i64) (Kd.pair (Kd.slice 84 k84) (Kd.slice 25 k25))))))))) (fun x : S32 => (x.f0, x.f1, x.f2, x.f3, x.f4, x.f5, x.f6, x.f7, x.f8))
theorem k32_open {w : World} {x : S32} {cs : List Value} (h : k32.K w x cs) : ∃ A2 c2 A10 c10 A11 c11, cs = [.int .i64 x.f0.f0, .int .i64 x.f0.f1, .slice A2 x.f1.length c2, .int .i64 x.f2.f0, .int .i64 x.f2.f1, .int .i64 x.f2.f2, .int .i64 x.f3, .int .i64 x.f4, .string x.f5, .int .i64 x.f6, .slice A10 x.f7.length c10, .slice A11 x.f8.length c11] ∧ x.f1.length ≤ c2 ∧ (Kd.int .i64).C w A2 x.f1.length x.f1 ∧ x.f7.length ≤ c10 ∧ k84.C w A10 x.f7.length x.f7 ∧ x.f8.length ≤ c11 ∧ k25.C w A11 x.f8.length x.f8 := by
 obtain ⟨_, _, rfl, s0, ⟨_, _, rfl, ⟨A2, c2, rfl, l2, g2⟩, ⟨_, _, rfl, s3, ⟨_, _, rfl, rfl, ⟨_, _, rfl, rfl, ⟨_, _, rfl, rfl, ⟨_, _, rfl, rfl, ⟨_, _, rfl, ⟨A10, c10, rfl, l10, g10⟩, ⟨A11, c11, rfl, l11, g11⟩⟩⟩⟩⟩⟩⟩⟩⟩ := h
 obtain rfl := k25_open s0
 obtain rfl := k28_open s3
 exact ⟨A2, c2, A10, c10, A11, c11, rfl, l2, g2, l10, g10, l11, g11⟩
theorem k32_mk (w : World) (x : S32) {A2 : Option Addr} {c2 : Nat} (l2 : x.f1.length ≤ c2) (g2 : (Kd.int .i64).C w A2 x.f1.length x.f1) {A10 : Option Addr} {c10 : Nat} (l10 : x.f7.length ≤ c10) (g10 : k84.C w A10 x.f7.length x.f7) {A11 : Option Addr} {c11 : Nat} (l11 : x.f8.length ≤ c11) (g11 : k25.C w A11 x.f8.length x.f8) : k32.K w x [.int .i64 x.f0.f0, .int .i64 x.f0.f1, .slice A2 x.f1.length c2, .int .i64 x.f2.f0, .int .i64 x.f2.f1, .int .i64 x.f2.f2, .int .i64 x.f3, .int .i64 x.f4, .string x.f5, .int .i64 x.f6, .slice A10 x.f7.length c10, .slice A11 x.f8.length c11] := ⟨[.int .i64 x.f0.f0, .int .i64 x.f0.f1], [.slice A2 x.f1.length c2, .int .i64 x.f2.f0, .int .i64 x.f2.f1, .int .i64 x.f2.f2, .int .i64 x.f3, .int .i64 x.f4, .string x.f5, .int .i64 x.f6, .slice A10 x.f7.length c10, .slice A11 x.f8.length c11], rfl, (k25_mk w x.f0 ), ⟨[.slice A2 x.f1.length c2], [.int .i64 x.f2.f0, .int .i64 x.f2.f1, .int .i64 x.f2.f2, .int .i64 x.f3, .int .i64 x.f4, .string x.f5, .int .i64 x.f6, .slice A10 x.f7.length c10, .slice A11 x.f8.length c11], rfl, ⟨A2, c2, rfl, l2, g2⟩, ⟨[.int .i64 x.f2.f0, .int .i64 x.f2.f1, .int .i64 x.f2.f2], [.int .i64 x.f3, .int .i64 x.f4, .string x.f5, .int .i64 x.f6, .slice A10 x.f7.length c10, .slice A11 x.f8.length c11], rfl, (k28_mk w x.f2 ), ⟨[.int .i64 x.f3], [.int .i64 x.f4, .string x.f5, .int .i64 x.f6, .slice A10 x.f7.length c10, .slice A11 x.f8.length c11], rfl, rfl, ⟨[.int .i64 x.f4], [.string x.f5, .int .i64 x.f6, .slice A10 x.f7.length c10, .slice A11 x.f8.length c11], rfl, rfl, ⟨[.string x.f5], [.int .i64 x.f6, .slice A10 x.f7.length c10, .slice A11 x.f8.length c11], rfl, rfl, ⟨[.int .i64 x.f6], [.slice A10 x.f7.length c10, .slice A11 x.f8.length c11], rfl, rfl, ⟨[.slice A10 x.f7.length c10], [.slice A11 x.f8.length c11], rfl, ⟨A10, c10, rfl, l10, g10⟩, ⟨A11, c11, rfl, l11, g11⟩⟩⟩⟩⟩⟩⟩⟩⟩
def rd_T32 (xs : List S32) (i : Int) : S32 := xs.getD i.toNat z32
theorem at_T32 {w : World} {A : Option Addr} {n : Nat} {xs : List S32} (h : Kd.C k32 w A n xs) (i : Int) (h0 : 0 ≤ i) (h1 : i < n) : ∃ ad A2 c2 A10 c10 A11 c11, A = some ad ∧ w.cell? (ad.add (i.toNat * 12)) = some (.int .i64 (rd_T32 xs i).f0.f0) ∧ w.cell? ⟨(ad.add (i.toNat * 12)).block, (ad.add (i.toNat * 12)).off + 1, none⟩ = some (.int .i64 (rd_T32 xs i).f0.f1) ∧ w.cell? ⟨(ad.add (i.toNat * 12)).block, (ad.add (i.toNat * 12)).off + 2, none⟩ = some (.slice A2 (rd_T32 xs i).f1.length c2) ∧ w.cell? ⟨(ad.add (i.toNat * 12)).block, (ad.add (i.toNat * 12)).off + 3, none⟩ = some (.int .i64 (rd_T32 xs i).f2.f0) ∧ w.cell? ⟨(ad.add (i.toNat * 12)).block, (ad.add (i.toNat * 12)).off + 4, none⟩ = some (.int .i64 (rd_T32 xs i).f2.f1) ∧ w.cell? ⟨(ad.add (i.toNat * 12)).block, (ad.add (i.toNat * 12)).off + 5, none⟩ = some (.int .i64 (rd_T32 xs i).f2.f2) ∧ w.cell? ⟨(ad.add (i.toNat * 12)).block, (ad.add (i.toNat * 12)).off + 6, none⟩ = some (.int .i64 (rd_T32 xs i).f3) ∧ w.cell? ⟨(ad.add (i.toNat * 12)).block, (ad.add (i.toNat * 12)).off + 7, none⟩ = some (.int .i64 (rd_T32 xs i).f4) ∧ w.cell? ⟨(ad.add (i.toNat * 12)).block, (ad.add (i.toNat * 12)).off + 8, none⟩ = some (.string (rd_T32 xs i).f5) ∧ w.cell? ⟨(ad.add (i.toNat * 12)).block, (ad.add (i.toNat * 12)).off + 9, none⟩ = some (.int .i64 (rd_T32 xs i).f6) ∧ w.cell? ⟨(ad.add (i.toNat * 12)).block, (ad.add (i.toNat * 12)).off + 10, none⟩ = some (.slice A10 (rd_T32 xs i).f7.length c10) ∧ w.cell? ⟨(ad.add (i.toNat * 12)).block, (ad.add (i.toNat * 12)).off + 11, none⟩ = some (.slice A11 (rd_T32 xs i).f8.length c11) ∧ (rd_T32 xs i).f1.length ≤ c2 ∧ (Kd.int .i64).C w A2 (rd_T32 xs i).f1.length (rd_T32 xs i).f1 ∧ (rd_T32 xs i).f7.length ≤ c10 ∧ k84.C w A10 (rd_T32 xs i).f7.length (rd_T32 xs i).f7 ∧ (rd_T32 xs i).f8.length ≤ c11 ∧ k25.C w A11 (rd_T32 xs i).f8.length (rd_T32 xs i).f8 := by
 obtain ⟨ad, c, e, _, hK, hc0⟩ := C_get h z32 i h0 h1
 have hc : ∀ j u, c[j]? = some u → w.cell? (ad.add (i.toNat * 12 + j)) = some u := hc0
 obtain ⟨A2, c2, A10, c10, A11, c11, rfl, l2, g2, l10, g10, l11, g11⟩ := k32_open hK
 exact ⟨ad, A2, c2, A10, c10, A11, c11, e, hc 0 _ rfl, by rw [← add_field _ _ 1 z4]; exact hc 1 _ rfl, by rw [← add_field _ _ 2 z4]; exact hc 2 _ rfl, by rw [← add_field _ _ 3 z4]; exact hc 3 _ rfl, by rw [← add_field _ _ 4 z4]; exact hc 4 _ rfl, by rw [← add_field _ _ 5 z4]; exact hc 5 _ rfl, by rw [← add_field _ _ 6 z4]; exact hc 6 _ rfl, by rw [← add_field _ _ 7 z4]; exact hc 7 _ rfl, by rw [← add_field _ _ 8 z4]; exact hc 8 _ rfl, by rw [← add_field _ _ 9 z4]; exact hc 9 _ rfl, by rw [← add_field _ _ 10 z4]; exact hc 10 _ rfl, by rw [← add_field _ _ 11 z4]; exact hc 11 _ rfl, l2, g2, l10, g10, l11, g11⟩
end Go.Proofs.Ytjnjfogfpmeacaa.PAll
end
section
namespace Go.Proofs.Ytjnjfogfpmeacaa.PAll
open Go.RowKit PrintWords PrintLast PrintMore ZipT PrintWords.Kd PrintMore.Kd
attribute [local go_sem] max2_int min2_int max_two min_two max_three min_three max_four min_four   -- for this text's walks alone
set_option linter.unusedVariables false
set_option linter.unusedSimpArgs false
def raddlelaw03_Long.l0 : Nat → List (S84) → Int → Option (Bool)
 | 0, _, _ => none
 | k + 1, x0, x3 => if x3 < (x0.length : Int) then (if 0 ≤ x3 then (if (((rd_T84 x0 x3).f2).size : Int) > 300 then (some true) else (raddlelaw03_Long.l0 k x0 (wrap64 (x3 + 1)))) else (none)) else (some false)
def raddlelaw03_Long.f (k : Nat) (l0 : List (S84)) : Option (Bool) := raddlelaw03_Long.l0 k l0 0
theorem raddlelaw03_Long.calls (k : Nat) (A0 : Option Addr) (c0 : Nat) (l0 : List (S84)) (r : Bool) (w : World) (hr0 : Kd.C k84 w A0 l0.length l0) (hc0 : l0.length ≤ c0) (h : raddlelaw03_Long.f k l0 = some r) :
  Calls Try.prog 72 #[.slice A0 l0.length c0] w fun e w' => e = .returned (.bool r) ∧ Drawn0 w w' := by
 have HR0 := mk_ hr0
 have HC0 := mk_ hc0
 clear hr0 hc0
 have H : (raddlelaw03_Long.l0 k l0 0) = some r := h
 clear h
 have H' := mk_ H
 clear H
 go_enter Try.func72, Try.ntmps72
 go_wp2
 go_loopg [3] k (fun kq v3 w' => ∃ (x3_1 : Int), v3 = .int .i64 x3_1 ∧ Aside0 (raddlelaw03_Long.l0 kq l0 x3_1 = some r) ∧ Aside0 (kq ≤ k) ∧ Drawn0 w w')
 case atStart => exact ⟨(0), z3, H', ⟨Nat.le_refl _⟩, by repeat (first | exact Drawn0.refl _ | apply Drawn0.step)⟩
 case round =>
  clear H'
  obtain ⟨x3_1, rfl, HA, HK1, ⟨m1, rfl⟩⟩ := hrel
  cases gk with
  | zero => exact absurd HA.out (by simp [raddlelaw03_Long.l0])
  | succ k1 =>
   have H := HA.out
   clear HA
   simp only [raddlelaw03_Long.l0] at H
   by_cases c2 : x3_1 < (l0.length : Int)
   rotate_left
   ·
    rw [if_neg c2] at H
    have c2b0 : decide (x3_1 < (l0.length : Int)) = false := decide_eq_false c2
    clear c2
    obtain rfl := Option.some.inj H
    go_wp2
    go_ret
    exact ⟨z3, by repeat (first | exact Drawn0.refl _ | apply Drawn0.step)⟩
   rw [if_pos c2] at H
   have c2b0 : decide (x3_1 < (l0.length : Int)) = true := decide_eq_true c2
   clear c2
   by_cases c3 : 0 ≤ x3_1
   rotate_left
   ·
    rw [if_neg c3] at H
    exact absurd H (by simp)
   rw [if_pos c3] at H
   have c3b0 : decide (0 ≤ x3_1) = true := decide_eq_true c3
   clear c3
   by_cases c4 : (((rd_T84 l0 x3_1).f2).size : Int) > 300
   ·
    rw [if_pos c4] at H
    have c4b0 : decide (300 < (((rd_T84 l0 x3_1).f2).size : Int)) = true := decide_eq_true c4
    have c4b1 : decide (300 < ((rd_T84 l0 x3_1).f2).size) = true := decide_eq_true z4
    clear c4
    obtain rfl := Option.some.inj H
    have p512 : 0 ≤ (x3_1 : Int) := of_decide_eq_true z0
    have q512 : x3_1 < (l0.length : Int) := of_decide_eq_true z0
    obtain ⟨ad512, e512, hx512_0, hx512_1, hx512_2⟩ := at_T84 HR0.out x3_1 p512 q512
    cases e512
    replace p512 := eq_true p512
    replace q512 := eq_true q512
    go_wp2
    go_ret
    exact ⟨z3, by repeat (first | exact Drawn0.refl _ | apply Drawn0.step)⟩
   rw [if_neg c4] at H
   have c4b0 : decide (300 < (((rd_T84 l0 x3_1).f2).size : Int)) = false := decide_eq_false c4
   have c4b1 : decide (300 < ((rd_T84 l0 x3_1).f2).size) = false := decide_eq_false z4
   clear c4
   have H' := mk_ H
   clear H
   have p512 : 0 ≤ (x3_1 : Int) := of_decide_eq_true z0
   have q512 : x3_1 < (l0.length : Int) := of_decide_eq_true z0
   obtain ⟨ad512, e512, hx512_0, hx512_1, hx512_2⟩ := at_T84 HR0.out x3_1 p512 q512
   cases e512
   replace p512 := eq_true p512
   replace q512 := eq_true q512
   go_wp2
   go_roundg k1
   case measure => have := HK1.out; omega
   case rel => exact ⟨(wrap64 (x3_1 + 1)), z3, H', ⟨by have := HK1.out; omega⟩, by repeat (first | exact Drawn0.refl _ | apply Drawn0.step)⟩
def raddlelaw04_Heavy.f (k : Nat) (l0 : List (S84)) : Option (Bool) := if (l0.length : Int) > 40 then (some true) else ((raddlelaw03_Long.f k l0).bind fun t513 => (some t513))
theorem raddlelaw04_Heavy.calls (k : Nat) (A0 : Option Addr) (c0 : Nat) (l0 : List (S84)) (r : Bool) (w : World) (hr0 : Kd.C k84 w A0 l0.length l0) (hc0 : l0.length ≤ c0) (h : raddlelaw04_Heavy.f k l0 = some r) :
  Calls Try.prog 35 #[.slice A0 l0.length c0] w fun e w' => e = .returned (.bool r) ∧ Drawn0 w w' := by
 have HR0 := mk_ hr0
 have HC0 := mk_ hc0
 clear hr0 hc0
 have H : (if (l0.length : Int) > 40 then (some true) else ((raddlelaw03_Long.f k l0).bind fun t513 => (some t513))) = some r := h
 clear h
 by_cases c2 : (l0.length : Int) > 40
 ·
  rw [if_pos c2] at H
  have c2b0 : decide (40 < (l0.length : Int)) = true := decide_eq_true c2
  have c2b1 : decide (40 < l0.length) = true := decide_eq_true z4
  clear c2
  obtain rfl := Option.some.inj H
  go_enter Try.func35, Try.ntmps35
  go_wp2
  go_ret
  exact ⟨z3, by repeat (first | exact Drawn0.refl _ | apply Drawn0.step)⟩
 rw [if_neg c2] at H
 have c2b0 : decide (40 < (l0.length : Int)) = false := decide_eq_false c2
 have c2b1 : decide (40 < l0.length) = false := decide_eq_false z4
 clear c2
 replace H := Option.bind_eq_some_iff.mp H
 obtain ⟨t513, A30, H⟩ := H
 replace H : (some t513) = some r := H
 have A3 := mk_ A30
 clear A30
 obtain rfl := Option.some.inj H
 go_enter Try.func35, Try.ntmps35
 go_wp2_with (first | (go_at_call 72; (with_reducible refine (raddlelaw03_Long.calls k _ _ l0 t513 _ ?side1 ?side2 A3.out).mono ?_); (case side1 => repeat (first | exact HR0.out | (with_reducible refine C_alloc ?_ _) | (with_reducible refine C_drewN ?_ _) | (with_reducible refine C_drew ?_))); (case side2 => exact HC0.out); rintro e w' ⟨rfl, ⟨nd, rfl⟩⟩))
 go_ret
 exact ⟨z3, by repeat (first | exact Drawn0.refl _ | apply Drawn0.step)⟩
end Go.Proofs.Ytjnjfogfpmeacaa.PAll
end
section
namespace Go.Proofs.Ytjnjfogfpmeacaa.PAll
open Go.RowKit PrintWords PrintLast PrintMore ZipT PrintWords.Kd PrintMore.Kd
attribute [local go_sem] max2_int min2_int max_two min_two max_three min_three max_four min_four   -- for this text's walks alone
set_option linter.unusedVariables false
set_option linter.unusedSimpArgs false
def raddlelaw07_Heavy.l0 : Nat → List (S32) → Int → Option (Bool)
 | 0, _, _ => none
 | k + 1, x0, x3 => if x3 < (x0.length : Int) then (if 0 ≤ x3 then (if (((rd_T32 x0 x3).f1).length : Int) > 30 then (some true) else (if (((rd_T32 x0 x3).f5).size : Int) > 100 then (some true) else ((raddlelaw04_Heavy.f k ((rd_T32 x0 x3).f7)).bind fun t517 => (if t517 = true then (some true) else (if (((rd_T32 x0 x3).f8).length : Int) > 100 then (some true) else (raddlelaw07_Heavy.l0 k x0 (wrap64 (x3 + 1)))))))) else (none)) else (some false)
def raddlelaw07_Heavy.f (k : Nat) (l0 : List (S32)) : Option (Bool) := if (l0.length : Int) > 300 then (some true) else (raddlelaw07_Heavy.l0 k l0 0)
theorem raddlelaw07_Heavy.calls (k : Nat) (A0 : Option Addr) (c0 : Nat) (l0 : List (S32)) (r : Bool) (w : World) (hr0 : Kd.C k32 w A0 l0.length l0) (hc0 : l0.length ≤ c0) (h : raddlelaw07_Heavy.f k l0 = some r) :
  Calls Try.prog 18 #[.slice A0 l0.length c0] w fun e w' => e = .returned (.bool r) ∧ Drawn0 w w' := by
 have HR0 := mk_ hr0
 have HC0 := mk_ hc0
 clear hr0 hc0
 have H : (if (l0.length : Int) > 300 then (some true) else (raddlelaw07_Heavy.l0 k l0 0)) = some r := h
 clear h
 by_cases c2 : (l0.length : Int) > 300
 ·
  rw [if_pos c2] at H
  have c2b0 : decide (300 < (l0.length : Int)) = true := decide_eq_true c2
  have c2b1 : decide (300 < l0.length) = true := decide_eq_true z4
  clear c2
  obtain rfl := Option.some.inj H
  go_enter Try.func18, Try.ntmps18
  go_wp2
  go_ret
  exact ⟨z3, by repeat (first | exact Drawn0.refl _ | apply Drawn0.step)⟩
 rw [if_neg c2] at H
 have c2b0 : decide (300 < (l0.length : Int)) = false := decide_eq_false c2
 have c2b1 : decide (300 < l0.length) = false := decide_eq_false z4
 clear c2
 have H' := mk_ H
 clear H
 go_enter Try.func18, Try.ntmps18
 go_wp2
 go_loopg [3] k (fun kq v3 w' => ∃ (x3_1 : Int), v3 = .int .i64 x3_1 ∧ Aside0 (raddlelaw07_Heavy.l0 kq l0 x3_1 = some r) ∧ Aside0 (kq ≤ k) ∧ Drawn0 w w')
 case atStart => exact ⟨(0), z3, H', ⟨Nat.le_refl _⟩, by repeat (first | exact Drawn0.refl _ | apply Drawn0.step)⟩
 case round =>
  clear H'
  try clear c1
  try clear c2
  try clear c2b0
  try clear c2b1
  try clear p2
  obtain ⟨x3_1, rfl, HA, HK1, ⟨m1, rfl⟩⟩ := hrel
  cases gk with
  | zero => exact absurd HA.out (by simp [raddlelaw07_Heavy.l0])
  | succ k1 =>
   have H := HA.out
   clear HA
   simp only [raddlelaw07_Heavy.l0] at H
   by_cases c3 : x3_1 < (l0.length : Int)
   rotate_left
   ·
    rw [if_neg c3] at H
    have c3b0 : decide (x3_1 < (l0.length : Int)) = false := decide_eq_false c3
    clear c3
    obtain rfl := Option.some.inj H
    go_wp2
    go_ret
    exact ⟨z3, by repeat (first | exact Drawn0.refl _ | apply Drawn0.step)⟩
   rw [if_pos c3] at H
   have c3b0 : decide (x3_1 < (l0.length : Int)) = true := decide_eq_true c3
   clear c3
   by_cases c4 : 0 ≤ x3_1
   rotate_left
   ·
    rw [if_neg c4] at H
    exact absurd H (by simp)
   rw [if_pos c4] at H
   have c4b0 : decide (0 ≤ x3_1) = true := decide_eq_true c4
   clear c4
   by_cases c5 : (((rd_T32 l0 x3_1).f1).length : Int) > 30
   ·
    rw [if_pos c5] at H
    have c5b0 : decide (30 < (((rd_T32 l0 x3_1).f1).length : Int)) = true := decide_eq_true c5
    have c5b1 : decide (30 < ((rd_T32 l0 x3_1).f1).length) = true := decide_eq_true z4
    clear c5
    obtain rfl := Option.some.inj H
    have p514 : 0 ≤ (x3_1 : Int) := of_decide_eq_true z0
    have q514 : x3_1 < (l0.length : Int) := of_decide_eq_true z0
    obtain ⟨ad514, A514_2, c514_2, A514_10, c514_10, A514_11, c514_11, e514, hx514_0, hx514_1, hx514_2, hx514_3, hx514_4, hx514_5, hx514_6, hx514_7, hx514_8, hx514_9, hx514_10, hx514_11, hl514_2, hi514_2, hl514_10, hi514_10, hl514_11, hi514_11⟩ := at_T32 HR0.out x3_1 p514 q514
    cases e514
    have HR514_2 := mk_ hi514_2
    have HC514_2 := mk_ hl514_2
    clear hi514_2 hl514_2
    have HR514_10 := mk_ hi514_10
    have HC514_10 := mk_ hl514_10
    clear hi514_10 hl514_10
    have HR514_11 := mk_ hi514_11
    have HC514_11 := mk_ hl514_11
    clear hi514_11 hl514_11
    replace p514 := eq_true p514
    replace q514 := eq_true q514
    go_wp2
    go_ret
    exact ⟨z3, by repeat (first | exact Drawn0.refl _ | apply Drawn0.step)⟩
   rw [if_neg c5] at H
   have c5b0 : decide (30 < (((rd_T32 l0 x3_1).f1).length : Int)) = false := decide_eq_false c5
   have c5b1 : decide (30 < ((rd_T32 l0 x3_1).f1).length) = false := decide_eq_false z4
   clear c5
   by_cases c6 : (((rd_T32 l0 x3_1).f5).size : Int) > 100
   ·
    rw [if_pos c6] at H
    have c6b0 : decide (100 < (((rd_T32 l0 x3_1).f5).size : Int)) = true := decide_eq_true c6
    have c6b1 : decide (100 < ((rd_T32 l0 x3_1).f5).size) = true := decide_eq_true z4
    clear c6
    obtain rfl := Option.some.inj H
    have p514 : 0 ≤ (x3_1 : Int) := of_decide_eq_true z0
    have q514 : x3_1 < (l0.length : Int) := of_decide_eq_true z0
    obtain ⟨ad514, A514_2, c514_2, A514_10, c514_10, A514_11, c514_11, e514, hx514_0, hx514_1, hx514_2, hx514_3, hx514_4, hx514_5, hx514_6, hx514_7, hx514_8, hx514_9, hx514_10, hx514_11, hl514_2, hi514_2, hl514_10, hi514_10, hl514_11, hi514_11⟩ := at_T32 HR0.out x3_1 p514 q514
    cases e514
    have HR514_2 := mk_ hi514_2
    have HC514_2 := mk_ hl514_2
    clear hi514_2 hl514_2
    have HR514_10 := mk_ hi514_10
    have HC514_10 := mk_ hl514_10
    clear hi514_10 hl514_10
    have HR514_11 := mk_ hi514_11
    have HC514_11 := mk_ hl514_11
    clear hi514_11 hl514_11
    replace p514 := eq_true p514
    replace q514 := eq_true q514
    have p515 : 0 ≤ (x3_1 : Int) := of_decide_eq_true z0
    have q515 : x3_1 < (l0.length : Int) := of_decide_eq_true z0
    obtain ⟨ad515, A515_2, c515_2, A515_10, c515_10, A515_11, c515_11, e515, hx515_0, hx515_1, hx515_2, hx515_3, hx515_4, hx515_5, hx515_6, hx515_7, hx515_8, hx515_9, hx515_10, hx515_11, hl515_2, hi515_2, hl515_10, hi515_10, hl515_11, hi515_11⟩ := at_T32 HR0.out x3_1 p515 q515
    obtain rfl : ad514 = ad515 := (by injection e515)
    have HR515_2 := mk_ hi515_2
    have HC515_2 := mk_ hl515_2
    clear hi515_2 hl515_2
    have HR515_10 := mk_ hi515_10
    have HC515_10 := mk_ hl515_10
    clear hi515_10 hl515_10
    have HR515_11 := mk_ hi515_11
    have HC515_11 := mk_ hl515_11
    clear hi515_11 hl515_11
    replace p515 := eq_true p515
    replace q515 := eq_true q515
    have ea_ := Option.some.inj (hx514_2.symm.trans hx515_2)
    injection ea_ with ea_ en_ ec_
    subst ea_
    subst ec_
    clear en_
    have ea_ := Option.some.inj (hx514_10.symm.trans hx515_10)
    injection ea_ with ea_ en_ ec_
    subst ea_
    subst ec_
    clear en_
    have ea_ := Option.some.inj (hx514_11.symm.trans hx515_11)
    injection ea_ with ea_ en_ ec_
    subst ea_
    subst ec_
    clear en_
    go_wp2
    go_ret
    exact ⟨z3, by repeat (first | exact Drawn0.refl _ | apply Drawn0.step)⟩
   rw [if_neg c6] at H
   have c6b0 : decide (100 < (((rd_T32 l0 x3_1).f5).size : Int)) = false := decide_eq_false c6
   have c6b1 : decide (100 < ((rd_T32 l0 x3_1).f5).size) = false := decide_eq_false z4
   clear c6
   replace H := Option.bind_eq_some_iff.mp H
   obtain ⟨t517, A70, H⟩ := H
   replace H : (if t517 = true then (some true) else (if (((rd_T32 l0 x3_1).f8).length : Int) > 100 then (some true) else (raddlelaw07_Heavy.l0 k1 l0 (wrap64 (x3_1 + 1))))) = some r := H
   have A7 := mk_ A70
   clear A70
   by_cases c8 : t517 = true
   ·
    subst c8
    have H1 : (some true) = some r := by rw [if_pos rfl] at H; exact H
    clear H
    have H := H1
    clear H1
    obtain rfl := Option.some.inj H
    have p514 : 0 ≤ (x3_1 : Int) := of_decide_eq_true z0
    have q514 : x3_1 < (l0.length : Int) := of_decide_eq_true z0
    obtain ⟨ad514, A514_2, c514_2, A514_10, c514_10, A514_11, c514_11, e514, hx514_0, hx514_1, hx514_2, hx514_3, hx514_4, hx514_5, hx514_6, hx514_7, hx514_8, hx514_9, hx514_10, hx514_11, hl514_2, hi514_2, hl514_10, hi514_10, hl514_11, hi514_11⟩ := at_T32 HR0.out x3_1 p514 q514
    cases e514
    have HR514_2 := mk_ hi514_2
    have HC514_2 := mk_ hl514_2
    clear hi514_2 hl514_2
    have HR514_10 := mk_ hi514_10
    have HC514_10 := mk_ hl514_10
    clear hi514_10 hl514_10
    have HR514_11 := mk_ hi514_11
    have HC514_11 := mk_ hl514_11
    clear hi514_11 hl514_11
    replace p514 := eq_true p514
    replace q514 := eq_true q514
    have p515 : 0 ≤ (x3_1 : Int) := of_decide_eq_true z0
    have q515 : x3_1 < (l0.length : Int) := of_decide_eq_true z0
    obtain ⟨ad515, A515_2, c515_2, A515_10, c515_10, A515_11, c515_11, e515, hx515_0, hx515_1, hx515_2, hx515_3, hx515_4, hx515_5, hx515_6, hx515_7, hx515_8, hx515_9, hx515_10, hx515_11, hl515_2, hi515_2, hl515_10, hi515_10, hl515_11, hi515_11⟩ := at_T32 HR0.out x3_1 p515 q515
    obtain rfl : ad514 = ad515 := (by injection e515)
    have HR515_2 := mk_ hi515_2
    have HC515_2 := mk_ hl515_2
    clear hi515_2 hl515_2
    have HR515_10 := mk_ hi515_10
    have HC515_10 := mk_ hl515_10
    clear hi515_10 hl515_10
    have HR515_11 := mk_ hi515_11
    have HC515_11 := mk_ hl515_11
    clear hi515_11 hl515_11
    replace p515 := eq_true p515
    replace q515 := eq_true q515
    have ea_ := Option.some.inj (hx514_2.symm.trans hx515_2)
    injection ea_ with ea_ en_ ec_
    subst ea_
    subst ec_
    clear en_
    have ea_ := Option.some.inj (hx514_10.symm.trans hx515_10)
    injection ea_ with ea_ en_ ec_
    subst ea_
    subst ec_
    clear en_
    have ea_ := Option.some.inj (hx514_11.symm.trans hx515_11)
    injection ea_ with ea_ en_ ec_
    subst ea_
    subst ec_
    clear en_
    have p516 : 0 ≤ (x3_1 : Int) := of_decide_eq_true z0
    have q516 : x3_1 < (l0.length : Int) := of_decide_eq_true z0
    obtain ⟨ad516, A516_2, c516_2, A516_10, c516_10, A516_11, c516_11, e516, hx516_0, hx516_1, hx516_2, hx516_3, hx516_4, hx516_5, hx516_6, hx516_7, hx516_8, hx516_9, hx516_10, hx516_11, hl516_2, hi516_2, hl516_10, hi516_10, hl516_11, hi516_11⟩ := at_T32 HR0.out x3_1 p516 q516
    obtain rfl : ad514 = ad516 := (by injection e516)
    have HR516_2 := mk_ hi516_2
    have HC516_2 := mk_ hl516_2
    clear hi516_2 hl516_2
    have HR516_10 := mk_ hi516_10
    have HC516_10 := mk_ hl516_10
    clear hi516_10 hl516_10
    have HR516_11 := mk_ hi516_11
    have HC516_11 := mk_ hl516_11
    clear hi516_11 hl516_11
    replace p516 := eq_true p516
    replace q516 := eq_true q516
    have ea_ := Option.some.inj (hx514_2.symm.trans hx516_2)
    injection ea_ with ea_ en_ ec_
    subst ea_
    subst ec_
    clear en_
    have ea_ := Option.some.inj (hx514_10.symm.trans hx516_10)
    injection ea_ with ea_ en_ ec_
    subst ea_
    subst ec_
    clear en_
    have ea_ := Option.some.inj (hx514_11.symm.trans hx516_11)
    injection ea_ with ea_ en_ ec_
    subst ea_
    subst ec_
    clear en_
    go_wp2_with (first | (go_at_call 35; (with_reducible refine (raddlelaw04_Heavy.calls k1 _ _ ((rd_T32 l0 x3_1).f7) true _ ?side1 ?side2 A7.out).mono ?_); (case side1 => repeat (first | exact HR516_10.out | (with_reducible refine C_alloc ?_ _) | (with_reducible refine C_drewN ?_ _) | (with_reducible refine C_drew ?_))); (case side2 => exact HC516_10.out); rintro e w' ⟨rfl, ⟨nd, rfl⟩⟩))
    go_ret
    exact ⟨z3, by repeat (first | exact Drawn0.refl _ | apply Drawn0.step)⟩
   replace c8 := Bool.eq_false_iff.mpr c8
   subst c8
   have H1 : (if (((rd_T32 l0 x3_1).f8).length : Int) > 100 then (some true) else (raddlelaw07_Heavy.l0 k1 l0 (wrap64 (x3_1 + 1)))) = some r := by rw [if_neg (show ¬ (false = true) by decide)] at H; exact H
   clear H
   have H := H1
   clear H1
   by_cases c9 : (((rd_T32 l0 x3_1).f8).length : Int) > 100
   ·
    rw [if_pos c9] at H
    have c9b0 : decide (100 < (((rd_T32 l0 x3_1).f8).length : Int)) = true := decide_eq_true c9
    have c9b1 : decide (100 < ((rd_T32 l0 x3_1).f8).length) = true := decide_eq_true z4
    clear c9
    obtain rfl := Option.some.inj H
    have p514 : 0 ≤ (x3_1 : Int) := of_decide_eq_true z0
    have q514 : x3_1 < (l0.length : Int) := of_decide_eq_true z0
    obtain ⟨ad514, A514_2, c514_2, A514_10, c514_10, A514_11, c514_11, e514, hx514_0, hx514_1, hx514_2, hx514_3, hx514_4, hx514_5, hx514_6, hx514_7, hx514_8, hx514_9, hx514_10, hx514_11, hl514_2, hi514_2, hl514_10, hi514_10, hl514_11, hi514_11⟩ := at_T32 HR0.out x3_1 p514 q514
    cases e514
    have HR514_2 := mk_ hi514_2
    have HC514_2 := mk_ hl514_2
    clear hi514_2 hl514_2
    have HR514_10 := mk_ hi514_10
    have HC514_10 := mk_ hl514_10
    clear hi514_10 hl514_10
    have HR514_11 := mk_ hi514_11
    have HC514_11 := mk_ hl514_11
    clear hi514_11 hl514_11
    replace p514 := eq_true p514
    replace q514 := eq_true q514
    have p515 : 0 ≤ (x3_1 : Int) := of_decide_eq_true z0
    have q515 : x3_1 < (l0.length : Int) := of_decide_eq_true z0
    obtain ⟨ad515, A515_2, c515_2, A515_10, c515_10, A515_11, c515_11, e515, hx515_0, hx515_1, hx515_2, hx515_3, hx515_4, hx515_5, hx515_6, hx515_7, hx515_8, hx515_9, hx515_10, hx515_11, hl515_2, hi515_2, hl515_10, hi515_10, hl515_11, hi515_11⟩ := at_T32 HR0.out x3_1 p515 q515
    obtain rfl : ad514 = ad515 := (by injection e515)
    have HR515_2 := mk_ hi515_2
    have HC515_2 := mk_ hl515_2
    clear hi515_2 hl515_2
    have HR515_10 := mk_ hi515_10
    have HC515_10 := mk_ hl515_10
    clear hi515_10 hl515_10
    have HR515_11 := mk_ hi515_11
    have HC515_11 := mk_ hl515_11
    clear hi515_11 hl515_11
    replace p515 := eq_true p515
    replace q515 := eq_true q515
    have ea_ := Option.some.inj (hx514_2.symm.trans hx515_2)
    injection ea_ with ea_ en_ ec_
    subst ea_
    subst ec_
    clear en_
    have ea_ := Option.some.inj (hx514_10.symm.trans hx515_10)
    injection ea_ with ea_ en_ ec_
    subst ea_
    subst ec_
    clear en_
    have ea_ := Option.some.inj (hx514_11.symm.trans hx515_11)
    injection ea_ with ea_ en_ ec_
    subst ea_
    subst ec_
    clear en_
    have p516 : 0 ≤ (x3_1 : Int) := of_decide_eq_true z0
    have q516 : x3_1 < (l0.length : Int) := of_decide_eq_true z0
    obtain ⟨ad516, A516_2, c516_2, A516_10, c516_10, A516_11, c516_11, e516, hx516_0, hx516_1, hx516_2, hx516_3, hx516_4, hx516_5, hx516_6, hx516_7, hx516_8, hx516_9, hx516_10, hx516_11, hl516_2, hi516_2, hl516_10, hi516_10, hl516_11, hi516_11⟩ := at_T32 HR0.out x3_1 p516 q516
    obtain rfl : ad514 = ad516 := (by injection e516)
    have HR516_2 := mk_ hi516_2
    have HC516_2 := mk_ hl516_2
    clear hi516_2 hl516_2
    have HR516_10 := mk_ hi516_10
    have HC516_10 := mk_ hl516_10
    clear hi516_10 hl516_10
    have HR516_11 := mk_ hi516_11
    have HC516_11 := mk_ hl516_11
    clear hi516_11 hl516_11
    replace p516 := eq_true p516
    replace q516 := eq_true q516
    have ea_ := Option.some.inj (hx514_2.symm.trans hx516_2)
    injection ea_ with ea_ en_ ec_
    subst ea_
    subst ec_
    clear en_
    have ea_ := Option.some.inj (hx514_10.symm.trans hx516_10)
    injection ea_ with ea_ en_ ec_
    subst ea_
    subst ec_
    clear en_
    have ea_ := Option.some.inj (hx514_11.symm.trans hx516_11)
    injection ea_ with ea_ en_ ec_
    subst ea_
    subst ec_
    clear en_
    go_wp2_with (first | (go_at_call 35; (with_reducible refine (raddlelaw04_Heavy.calls k1 _ _ ((rd_T32 l0 x3_1).f7) false _ ?side1 ?side2 A7.out).mono ?_); (case side1 => repeat (first | exact HR516_10.out | (with_reducible refine C_alloc ?_ _) | (with_reducible refine C_drewN ?_ _) | (with_reducible refine C_drew ?_))); (case side2 => exact HC516_10.out); rintro e w' ⟨rfl, ⟨nd, rfl⟩⟩; have p518 : 0 ≤ (x3_1 : Int) := of_decide_eq_true z0; have q518 : x3_1 < (l0.length : Int) := of_decide_eq_true z0; obtain ⟨ad518, A518_2, c518_2, A518_10, c518_10, A518_11, c518_11, e518, hx518_0, hx518_1, hx518_2, hx518_3, hx518_4, hx518_5, hx518_6, hx518_7, hx518_8, hx518_9, hx518_10, hx518_11, hl518_2, hi518_2, hl518_10, hi518_10, hl518_11, hi518_11⟩ := at_T32 HR0.out x3_1 p518 q518; obtain rfl : ad514 = ad518 := (by injection e518); have HR518_2 := mk_ hi518_2; have HC518_2 := mk_ hl518_2; clear hi518_2 hl518_2; have HR518_10 := mk_ hi518_10; have HC518_10 := mk_ hl518_10; clear hi518_10 hl518_10; have HR518_11 := mk_ hi518_11; have HC518_11 := mk_ hl518_11; clear hi518_11 hl518_11; replace p518 := eq_true p518; replace q518 := eq_true q518; have ea_ := Option.some.inj (hx514_2.symm.trans hx518_2); injection ea_ with ea_ en_ ec_; subst ea_; subst ec_; clear en_; have ea_ := Option.some.inj (hx514_10.symm.trans hx518_10); injection ea_ with ea_ en_ ec_; subst ea_; subst ec_; clear en_; have ea_ := Option.some.inj (hx514_11.symm.trans hx518_11); injection ea_ with ea_ en_ ec_; subst ea_; subst ec_; clear en_))
    go_ret
    exact ⟨z3, by repeat (first | exact Drawn0.refl _ | apply Drawn0.step)⟩
   rw [if_neg c9] at H
   have c9b0 : decide (100 < (((rd_T32 l0 x3_1).f8).length : Int)) = false := decide_eq_false c9
   have c9b1 : decide (100 < ((rd_T32 l0 x3_1).f8).length) = false := decide_eq_false z4
   clear c9
   have H' := mk_ H
   clear H
   have p514 : 0 ≤ (x3_1 : Int) := of_decide_eq_true z0
   have q514 : x3_1 < (l0.length : Int) := of_decide_eq_true z0
   obtain ⟨ad514, A514_2, c514_2, A514_10, c514_10, A514_11, c514_11, e514, hx514_0, hx514_1, hx514_2, hx514_3, hx514_4, hx514_5, hx514_6, hx514_7, hx514_8, hx514_9, hx514_10, hx514_11, hl514_2, hi514_2, hl514_10, hi514_10, hl514_11, hi514_11⟩ := at_T32 HR0.out x3_1 p514 q514
   cases e514
   have HR514_2 := mk_ hi514_2
   have HC514_2 := mk_ hl514_2
   clear hi514_2 hl514_2
   have HR514_10 := mk_ hi514_10
   have HC514_10 := mk_ hl514_10
   clear hi514_10 hl514_10
   have HR514_11 := mk_ hi514_11
   have HC514_11 := mk_ hl514_11
   clear hi514_11 hl514_11
   replace p514 := eq_true p514
   replace q514 := eq_true q514
   have p515 : 0 ≤ (x3_1 : Int) := of_decide_eq_true z0
   have q515 : x3_1 < (l0.length : Int) := of_decide_eq_true z0
   obtain ⟨ad515, A515_2, c515_2, A515_10, c515_10, A515_11, c515_11, e515, hx515_0, hx515_1, hx515_2, hx515_3, hx515_4, hx515_5, hx515_6, hx515_7, hx515_8, hx515_9, hx515_10, hx515_11, hl515_2, hi515_2, hl515_10, hi515_10, hl515_11, hi515_11⟩ := at_T32 HR0.out x3_1 p515 q515
   obtain rfl : ad514 = ad515 := (by injection e515)
   have HR515_2 := mk_ hi515_2
   have HC515_2 := mk_ hl515_2
   clear hi515_2 hl515_2
   have HR515_10 := mk_ hi515_10
   have HC515_10 := mk_ hl515_10
   clear hi515_10 hl515_10
   have HR515_11 := mk_ hi515_11
   have HC515_11 := mk_ hl515_11
   clear hi515_11 hl515_11
   replace p515 := eq_true p515
   replace q515 := eq_true q515
   have ea_ := Option.some.inj (hx514_2.symm.trans hx515_2)
   injection ea_ with ea_ en_ ec_
   subst ea_
   subst ec_
   clear en_
   have ea_ := Option.some.inj (hx514_10.symm.trans hx515_10)
   injection ea_ with ea_ en_ ec_
   subst ea_
   subst ec_
   clear en_
   have ea_ := Option.some.inj (hx514_11.symm.trans hx515_11)
   injection ea_ with ea_ en_ ec_
   subst ea_
   subst ec_
   clear en_
   have p516 : 0 ≤ (x3_1 : Int) := of_decide_eq_true z0
   have q516 : x3_1 < (l0.length : Int) := of_decide_eq_true z0
   obtain ⟨ad516, A516_2, c516_2, A516_10, c516_10, A516_11, c516_11, e516, hx516_0, hx516_1, hx516_2, hx516_3, hx516_4, hx516_5, hx516_6, hx516_7, hx516_8, hx516_9, hx516_10, hx516_11, hl516_2, hi516_2, hl516_10, hi516_10, hl516_11, hi516_11⟩ := at_T32 HR0.out x3_1 p516 q516
   obtain rfl : ad514 = ad516 := (by injection e516)
   have HR516_2 := mk_ hi516_2
   have HC516_2 := mk_ hl516_2
   clear hi516_2 hl516_2
   have HR516_10 := mk_ hi516_10
   have HC516_10 := mk_ hl516_10
   clear hi516_10 hl516_10
   have HR516_11 := mk_ hi516_11
   have HC516_11 := mk_ hl516_11
   clear hi516_11 hl516_11
   replace p516 := eq_true p516
   replace q516 := eq_true q516
   have ea_ := Option.some.inj (hx514_2.symm.trans hx516_2)
   injection ea_ with ea_ en_ ec_
   subst ea_
   subst ec_
   clear en_
   have ea_ := Option.some.inj (hx514_10.symm.trans hx516_10)
   injection ea_ with ea_ en_ ec_
   subst ea_
   subst ec_
   clear en_
   have ea_ := Option.some.inj (hx514_11.symm.trans hx516_11)
   injection ea_ with ea_ en_ ec_
   subst ea_
   subst ec_
   clear en_
   go_wp2_with (first | (go_at_call 35; (with_reducible refine (raddlelaw04_Heavy.calls k1 _ _ ((rd_T32 l0 x3_1).f7) false _ ?side1 ?side2 A7.out).mono ?_); (case side1 => repeat (first | exact HR516_10.out | (with_reducible refine C_alloc ?_ _) | (with_reducible refine C_drewN ?_ _) | (with_reducible refine C_drew ?_))); (case side2 => exact HC516_10.out); rintro e w' ⟨rfl, ⟨nd, rfl⟩⟩; have p518 : 0 ≤ (x3_1 : Int) := of_decide_eq_true z0; have q518 : x3_1 < (l0.length : Int) := of_decide_eq_true z0; obtain ⟨ad518, A518_2, c518_2, A518_10, c518_10, A518_11, c518_11, e518, hx518_0, hx518_1, hx518_2, hx518_3, hx518_4, hx518_5, hx518_6, hx518_7, hx518_8, hx518_9, hx518_10, hx518_11, hl518_2, hi518_2, hl518_10, hi518_10, hl518_11, hi518_11⟩ := at_T32 HR0.out x3_1 p518 q518; obtain rfl : ad514 = ad518 := (by injection e518); have HR518_2 := mk_ hi518_2; have HC518_2 := mk_ hl518_2; clear hi518_2 hl518_2; have HR518_10 := mk_ hi518_10; have HC518_10 := mk_ hl518_10; clear hi518_10 hl518_10; have HR518_11 := mk_ hi518_11; have HC518_11 := mk_ hl518_11; clear hi518_11 hl518_11; replace p518 := eq_true p518; replace q518 := eq_true q518; have ea_ := Option.some.inj (hx514_2.symm.trans hx518_2); injection ea_ with ea_ en_ ec_; subst ea_; subst ec_; clear en_; have ea_ := Option.some.inj (hx514_10.symm.trans hx518_10); injection ea_ with ea_ en_ ec_; subst ea_; subst ec_; clear en_; have ea_ := Option.some.inj (hx514_11.symm.trans hx518_11); injection ea_ with ea_ en_ ec_; subst ea_; subst ec_; clear en_))
   go_roundg k1
   case measure => have := HK1.out; omega
   case rel => exact ⟨(wrap64 (x3_1 + 1)), z3, H', ⟨by have := HK1.out; omega⟩, by repeat (first | exact Drawn0.refl _ | apply Drawn0.step)⟩
def raddleref01_fits.f (a0 : Int) (a1 : Int) : Option (Bool) := if a0 ≥ 0 then (if 0 ≤ (IntKind.u64.wrap (wrap64 (8 * a1))) then (some ((shr .i64 a0 (IntKind.u64.wrap (wrap64 (8 * a1)))) == 0)) else (none)) else (some false)
theorem raddleref01_fits.calls (a0 : Int) (a1 : Int) (r : Bool) (w : World) (h : raddleref01_fits.f a0 a1 = some r) :
  Calls Try.prog 41 #[.int .i64 a0, .int .i64 a1] w fun e w' => e = .returned (.bool r) ∧ Drawn0 w w' := by
 have H : (if a0 ≥ 0 then (if 0 ≤ (IntKind.u64.wrap (wrap64 (8 * a1))) then (some ((shr .i64 a0 (IntKind.u64.wrap (wrap64 (8 * a1)))) == 0)) else (none)) else (some false)) = some r := h
 clear h
 by_cases c3 : a0 ≥ 0
 rotate_left
 ·
  rw [if_neg c3] at H
  have c3b0 : decide (0 ≤ a0) = false := decide_eq_false c3
  clear c3
  obtain rfl := Option.some.inj H
  go_enter Try.func41, Try.ntmps41
  go_wp2
  go_ret
  exact ⟨z3, by repeat (first | exact Drawn0.refl _ | apply Drawn0.step)⟩
 rw [if_pos c3] at H
 have c3b0 : decide (0 ≤ a0) = true := decide_eq_true c3
 clear c3
 obtain ⟨ji4, hji4⟩ : ∃ j_ : Int, (IntKind.u64.wrap (wrap64 (8 * a1))) = j_ := ⟨_, rfl⟩
 replace H : (if 0 ≤ (ji4) then (some ((shr .i64 a0 (ji4)) == 0)) else (none)) = some r := by first | (rw [hji4] at H; exact H) | (simp only [hji4] at H ⊢; exact H)
 by_cases c5 : 0 ≤ (ji4)
 rotate_left
 ·
  rw [if_neg c5] at H
  exact absurd H (by simp)
 rw [if_pos c5] at H
 have c5b0 := eq_true c5
 have c5b1 : decide (0 ≤ (ji4)) = true := decide_eq_true c5
 clear c5
 obtain ⟨ji6, hji6⟩ : ∃ j_ : Int, (shr .i64 a0 (ji4)) = j_ := ⟨_, rfl⟩
 replace H : (some ((ji6) == 0)) = some r := by first | (rw [hji6] at H; exact H) | (simp only [hji6] at H ⊢; exact H)
 have hji6_ : (a0 / 2 ^ min (ji4).toNat 64) = ji6 := hji6
 have hji6z : (ji4) ≤ 64 → (a0 / 2 ^ (ji4).toNat) = ji6 := shr_small hji6
 obtain rfl := Option.some.inj H
 go_enter Try.func41, Try.ntmps41
 go_wp2
 go_ret
 exact ⟨by first | rfl | (simp; done) | (simp only [← hji4, ← hji6] <;> (first | rfl | simp)) | (simp [*]; done), by repeat (first | exact Drawn0.refl _ | apply Drawn0.step)⟩
def raddleref01_dotFits.f (a0_0 : Int) (a0_1 : Int) : Option (Bool) := (raddleref01_fits.f a0_0 1).bind fun t520 => (if t520 = true then ((raddleref01_fits.f a0_1 4).bind fun t521 => (some t521)) else (some false))
theorem raddleref01_dotFits.calls (a0_0 : Int) (a0_1 : Int) (r : Bool) (w : World) (h : raddleref01_dotFits.f a0_0 a0_1 = some r) :
  Calls Try.prog 42 #[.agg #[.int .i64 a0_0, .int .i64 a0_1]] w fun e w' => e = .returned (.bool r) ∧ Below w.heap.size w w' := by
 have hu25 := Try.underlying25
 have HB := mk_ (Below.refl w.heap.size w)
 have H : ((raddleref01_fits.f a0_0 1).bind fun t520 => (if t520 = true then ((raddleref01_fits.f a0_1 4).bind fun t521 => (some t521)) else (some false))) = some r := h
 clear h
 replace H := Option.bind_eq_some_iff.mp H
 obtain ⟨t520, A20, H⟩ := H
 replace H : (if t520 = true then ((raddleref01_fits.f a0_1 4).bind fun t521 => (some t521)) else (some false)) = some r := H
 have A2 := mk_ A20
 clear A20
 by_cases c3 : t520 = true
 rotate_left
 ·
  replace c3 := Bool.eq_false_iff.mpr c3
  subst c3
  have H1 : (some false) = some r := by rw [if_neg (show ¬ (false = true) by decide)] at H; exact H
  clear H
  have H := H1
  clear H1
  obtain rfl := Option.some.inj H
  go_enter Try.func42, Try.ntmps42
  go_wp2_with (first | ((with_reducible refine gate_dst (N := 1) rfl ?_); refine box_event ?hg (N := 1) ?hd (cs := #[.int .i64 a0_0, .int .i64 a0_1]) (t := 25) ?hr ?_; (case hd => rfl); (case hg => rfl); (case hr => first | (go_simp; done) | (go_simp; rfl)); intro gb519 hg w7 hbox hb; have n0_ := mk_ (below_step (Short.hB HB) hb); have n1_ := mk_ (hbox); have n2_ := mk_ ((by rw [hg]; exact (below_size (Short.hB HB)) : w.heap.size ≤ gb519)); have n3_ := mk_ ((by rw [hg]; exact (below_size (Short.hB HB)) : w.heap.size ≤ gb519)); clear HB; revert n0_ n1_ n2_ n3_; intro HB BK519 GW519 GE519; clear hb hbox hg; obtain ⟨hcz8_0, hcz8_1, hfz8_0, hfz8_1⟩ := Short.c2 BK519.out) | ((with_reducible refine gate_callee (f := 41) rfl ?_); refine Short.gL (some 5) Try.func41 #[.int .i64 a0_0, .int .i64 1] (h := ?_); (with_reducible refine (raddleref01_fits.calls a0_0 1 false _ A2.out).mono ?_); rintro e w' ⟨rfl, ⟨nd, rfl⟩⟩; refine ⟨_, rfl, ?_⟩))
  go_ret
  exact ⟨q0, Short.hB HB⟩
 subst c3
 have H1 : ((raddleref01_fits.f a0_1 4).bind fun t521 => (some t521)) = some r := by rw [if_pos rfl] at H; exact H
 clear H
 have H := H1
 clear H1
 replace H := Option.bind_eq_some_iff.mp H
 obtain ⟨t521, A40, H⟩ := H
 replace H : (some t521) = some r := H
 have A4 := mk_ A40
 clear A40
 obtain rfl := Option.some.inj H
 go_enter Try.func42, Try.ntmps42
 go_wp2_with (first | ((with_reducible refine gate_dst (N := 1) rfl ?_); refine box_event ?hg (N := 1) ?hd (cs := #[.int .i64 a0_0, .int .i64 a0_1]) (t := 25) ?hr ?_; (case hd => rfl); (case hg => rfl); (case hr => first | (go_simp; done) | (go_simp; rfl)); intro gb519 hg w5 hbox hb; have n0_ := mk_ (below_step (Short.hB HB) hb); have n1_ := mk_ (hbox); have n2_ := mk_ ((by rw [hg]; exact (below_size (Short.hB HB)) : w.heap.size ≤ gb519)); have n3_ := mk_ ((by rw [hg]; exact (below_size (Short.hB HB)) : w.heap.size ≤ gb519)); clear HB; revert n0_ n1_ n2_ n3_; intro HB BK519 GW519 GE519; clear hb hbox hg; obtain ⟨hcz6_0, hcz6_1, hfz6_0, hfz6_1⟩ := Short.c2 BK519.out) | ((with_reducible refine gate_callee (f := 41) rfl ?_); refine Short.gL (some 5) Try.func41 #[.int .i64 a0_0, .int .i64 1] (h := ?_); (with_reducible refine (raddleref01_fits.calls a0_0 1 true _ A2.out).mono ?_); rintro e w' ⟨rfl, ⟨nd, rfl⟩⟩; refine ⟨_, rfl, ?_⟩) | (go_at_call 41; (with_reducible refine (raddleref01_fits.calls a0_1 4 t521 _ A4.out).mono ?_); rintro e w' ⟨rfl, ⟨nd, rfl⟩⟩))
 go_ret
 exact ⟨q0, Short.hB HB⟩
def raddleref01_vectorFits.l0 : Nat → List Int → Int → Option (Bool)
 | 0, _, _ => none
 | k + 1, x0, x3 => if x3 < (x0.length : Int) then (if 0 ≤ x3 then ((raddleref01_fits.f (rd x0 x3) 4).bind fun t523 => (if t523 = true then (raddleref01_vectorFits.l0 k x0 (wrap64 (x3 + 1))) else (some false))) else (none)) else (some (decide ((x0.length : Int) ≤ 5)))
def raddleref01_vectorFits.f (k : Nat) (l0 : List Int) : Option (Bool) := raddleref01_vectorFits.l0 k l0 0
theorem raddleref01_vectorFits.calls (k : Nat) (A0 : Option Addr) (c0 : Nat) (l0 : List Int) (r : Bool) (w : World) (hr0 : Kd.C (Kd.int .i64) w A0 l0.length l0) (hc0 : l0.length ≤ c0) (h : raddleref01_vectorFits.f k l0 = some r) :
  Calls Try.prog 43 #[.slice A0 l0.length c0] w fun e w' => e = .returned (.bool r) ∧ Drawn0 w w' := by
 have HR0 := mk_ hr0
 have HC0 := mk_ hc0
 clear hr0 hc0
 have H : (raddleref01_vectorFits.l0 k l0 0) = some r := h
 clear h
 have H' := mk_ H
 clear H
 go_enter Try.func43, Try.ntmps43
 go_wp2
 go_loopg [3] k (fun kq v3 w' => ∃ (x3_1 : Int), v3 = .int .i64 x3_1 ∧ Aside0 (raddleref01_vectorFits.l0 kq l0 x3_1 = some r) ∧ Aside0 (kq ≤ k) ∧ Drawn0 w w')
 case atStart => exact ⟨(0), z3, H', ⟨Nat.le_refl _⟩, by repeat (first | exact Drawn0.refl _ | apply Drawn0.step)⟩
 case round =>
  clear H'
  obtain ⟨x3_1, rfl, HA, HK1, ⟨m1, rfl⟩⟩ := hrel
  cases gk with
  | zero => exact absurd HA.out (by simp [raddleref01_vectorFits.l0])
  | succ k1 =>
   have H := HA.out
   clear HA
   simp only [raddleref01_vectorFits.l0] at H
   by_cases c2 : x3_1 < (l0.length : Int)
   rotate_left
   ·
    rw [if_neg c2] at H
    have c2b0 : decide (x3_1 < (l0.length : Int)) = false := decide_eq_false c2
    clear c2
    obtain rfl := Option.some.inj H
    go_wp2
    go_ret
    exact ⟨z3, by repeat (first | exact Drawn0.refl _ | apply Drawn0.step)⟩
   rw [if_pos c2] at H
   have c2b0 : decide (x3_1 < (l0.length : Int)) = true := decide_eq_true c2
   clear c2
   by_cases c3 : 0 ≤ x3_1
   rotate_left
   ·
    rw [if_neg c3] at H
    exact absurd H (by simp)
   rw [if_pos c3] at H
   have c3b0 : decide (0 ≤ x3_1) = true := decide_eq_true c3
   clear c3
   replace H := Option.bind_eq_some_iff.mp H
   obtain ⟨t523, A40, H⟩ := H
   replace H : (if t523 = true then (raddleref01_vectorFits.l0 k1 l0 (wrap64 (x3_1 + 1))) else (some false)) = some r := H
   have A4 := mk_ A40
   clear A40
   by_cases c5 : t523 = true
   rotate_left
   ·
    replace c5 := Bool.eq_false_iff.mpr c5
    subst c5
    have H1 : (some false) = some r := by rw [if_neg (show ¬ (false = true) by decide)] at H; exact H
    clear H
    have H := H1
    clear H1
    obtain rfl := Option.some.inj H
    have p522 : 0 ≤ (x3_1 : Int) := of_decide_eq_true z0
    have q522 : x3_1 < (l0.length : Int) := of_decide_eq_true z0
    obtain ⟨ad522, e522, hx522_0⟩ := Kd.at_int HR0.out x3_1 p522 q522
    cases e522
    replace p522 := eq_true p522
    replace q522 := eq_true q522
    go_wp2_with (first | ((with_reducible refine gate_callee (f := 41) rfl ?_); refine Short.gL (some 14) Try.func41 #[.int .i64 (rd l0 x3_1), .int .i64 4] (h := ?_); (with_reducible refine (raddleref01_fits.calls (rd l0 x3_1) 4 false _ A4.out).mono ?_); rintro e w' ⟨rfl, ⟨nd, rfl⟩⟩; refine ⟨_, rfl, ?_⟩))
    go_ret
    exact ⟨z3, by repeat (first | exact Drawn0.refl _ | apply Drawn0.step)⟩
   subst c5
   have H1 : (raddleref01_vectorFits.l0 k1 l0 (wrap64 (x3_1 + 1))) = some r := by rw [if_pos rfl] at H; exact H
   clear H
   have H := H1
   clear H1
   have H' := mk_ H
   clear H
   have p522 : 0 ≤ (x3_1 : Int) := of_decide_eq_true z0
   have q522 : x3_1 < (l0.length : Int) := of_decide_eq_true z0
   obtain ⟨ad522, e522, hx522_0⟩ := Kd.at_int HR0.out x3_1 p522 q522
   cases e522
   replace p522 := eq_true p522
   replace q522 := eq_true q522
   go_wp2_with (first | ((with_reducible refine gate_callee (f := 41) rfl ?_); refine Short.gL (some 14) Try.func41 #[.int .i64 (rd l0 x3_1), .int .i64 4] (h := ?_); (with_reducible refine (raddleref01_fits.calls (rd l0 x3_1) 4 true _ A4.out).mono ?_); rintro e w' ⟨rfl, ⟨nd, rfl⟩⟩; refine ⟨_, rfl, ?_⟩))
   go_roundg k1
   case measure => have := HK1.out; omega
   case rel => exact ⟨(wrap64 (x3_1 + 1)), z3, H', ⟨by have := HK1.out; omega⟩, by repeat (first | exact Drawn0.refl _ | apply Drawn0.step)⟩
def raddleref01_stampFits.f (a0_0 : Int) (a0_1 : Int) (a0_2 : Int) : Option (Bool) := (raddleref01_fits.f a0_0 6).bind fun t525 => (if t525 = true then ((raddleref01_fits.f a0_1 3).bind fun t526 => (if t526 = true then ((raddleref01_fits.f a0_2 1).bind fun t527 => (some t527)) else (some false))) else (some false))
theorem raddleref01_stampFits.calls (a0_0 : Int) (a0_1 : Int) (a0_2 : Int) (r : Bool) (w : World) (h : raddleref01_stampFits.f a0_0 a0_1 a0_2 = some r) :
  Calls Try.prog 44 #[.agg #[.int .i64 a0_0, .int .i64 a0_1, .int .i64 a0_2]] w fun e w' => e = .returned (.bool r) ∧ Below w.heap.size w w' := by
 have hu28 := Try.underlying28
 have HB := mk_ (Below.refl w.heap.size w)
 have H : ((raddleref01_fits.f a0_0 6).bind fun t525 => (if t525 = true then ((raddleref01_fits.f a0_1 3).bind fun t526 => (if t526 = true then ((raddleref01_fits.f a0_2 1).bind fun t527 => (some t527)) else (some false))) else (some false))) = some r := h
 clear h
 replace H := Option.bind_eq_some_iff.mp H
 obtain ⟨t525, A20, H⟩ := H
 replace H : (if t525 = true then ((raddleref01_fits.f a0_1 3).bind fun t526 => (if t526 = true then ((raddleref01_fits.f a0_2 1).bind fun t527 => (some t527)) else (some false))) else (some false)) = some r := H
 have A2 := mk_ A20
 clear A20
 by_cases c3 : t525 = true
 rotate_left
 ·
  replace c3 := Bool.eq_false_iff.mpr c3
  subst c3
  have H1 : (some false) = some r := by rw [if_neg (show ¬ (false = true) by decide)] at H; exact H
  clear H
  have H := H1
  clear H1
  obtain rfl := Option.some.inj H
  go_enter Try.func44, Try.ntmps44
  go_wp2_with (first | ((with_reducible refine gate_dst (N := 1) rfl ?_); refine box_event ?hg (N := 1) ?hd (cs := #[.int .i64 a0_0, .int .i64 a0_1, .int .i64 a0_2]) (t := 28) ?hr ?_; (case hd => rfl); (case hg => rfl); (case hr => first | (go_simp; done) | (go_simp; rfl)); intro gb524 hg w11 hbox hb; have n0_ := mk_ (below_step (Short.hB HB) hb); have n1_ := mk_ (hbox); have n2_ := mk_ ((by rw [hg]; exact (below_size (Short.hB HB)) : w.heap.size ≤ gb524)); have n3_ := mk_ ((by rw [hg]; exact (below_size (Short.hB HB)) : w.heap.size ≤ gb524)); clear HB; revert n0_ n1_ n2_ n3_; intro HB BK524 GW524 GE524; clear hb hbox hg; obtain ⟨hcz12_0, hcz12_1, hcz12_2, hfz12_0, hfz12_1, hfz12_2⟩ := Short.c3 BK524.out) | ((with_reducible refine gate_callee (f := 41) rfl ?_); refine Short.gL (some 5) Try.func41 #[.int .i64 a0_0, .int .i64 6] (h := ?_); (with_reducible refine (raddleref01_fits.calls a0_0 6 false _ A2.out).mono ?_); rintro e w' ⟨rfl, ⟨nd, rfl⟩⟩; refine ⟨_, rfl, ?_⟩))
  go_ret
  exact ⟨q0, Short.hB HB⟩
 subst c3
 have H1 : ((raddleref01_fits.f a0_1 3).bind fun t526 => (if t526 = true then ((raddleref01_fits.f a0_2 1).bind fun t527 => (some t527)) else (some false))) = some r := by rw [if_pos rfl] at H; exact H
 clear H
 have H := H1
 clear H1
 replace H := Option.bind_eq_some_iff.mp H
 obtain ⟨t526, A40, H⟩ := H
 replace H : (if t526 = true then ((raddleref01_fits.f a0_2 1).bind fun t527 => (some t527)) else (some false)) = some r := H
 have A4 := mk_ A40
 clear A40
 by_cases c5 : t526 = true
 rotate_left
 ·
  replace c5 := Bool.eq_false_iff.mpr c5
  subst c5
  have H1 : (some false) = some r := by rw [if_neg (show ¬ (false = true) by decide)] at H; exact H
  clear H
  have H := H1
  clear H1
  obtain rfl := Option.some.inj H
  go_enter Try.func44, Try.ntmps44
  go_wp2_with (first | ((with_reducible refine gate_dst (N := 1) rfl ?_); refine box_event ?hg (N := 1) ?hd (cs := #[.int .i64 a0_0, .int .i64 a0_1, .int .i64 a0_2]) (t := 28) ?hr ?_; (case hd => rfl); (case hg => rfl); (case hr => first | (go_simp; done) | (go_simp; rfl)); intro gb524 hg w9 hbox hb; have n0_ := mk_ (below_step (Short.hB HB) hb); have n1_ := mk_ (hbox); have n2_ := mk_ ((by rw [hg]; exact (below_size (Short.hB HB)) : w.heap.size ≤ gb524)); have n3_ := mk_ ((by rw [hg]; exact (below_size (Short.hB HB)) : w.heap.size ≤ gb524)); clear HB; revert n0_ n1_ n2_ n3_; intro HB BK524 GW524 GE524; clear hb hbox hg; obtain ⟨hcz10_0, hcz10_1, hcz10_2, hfz10_0, hfz10_1, hfz10_2⟩ := Short.c3 BK524.out) | ((with_reducible refine gate_callee (f := 41) rfl ?_); refine Short.gL (some 5) Try.func41 #[.int .i64 a0_0, .int .i64 6] (h := ?_); (with_reducible refine (raddleref01_fits.calls a0_0 6 true _ A2.out).mono ?_); rintro e w' ⟨rfl, ⟨nd, rfl⟩⟩; refine ⟨_, rfl, ?_⟩) | (go_at_call 41; (with_reducible refine (raddleref01_fits.calls a0_1 3 false _ A4.out).mono ?_); rintro e w' ⟨rfl, ⟨nd, rfl⟩⟩))
  go_ret
  exact ⟨q0, Short.hB HB⟩
 subst c5
 have H1 : ((raddleref01_fits.f a0_2 1).bind fun t527 => (some t527)) = some r := by rw [if_pos rfl] at H; exact H
 clear H
 have H := H1
 clear H1
 replace H := Option.bind_eq_some_iff.mp H
 obtain ⟨t527, A60, H⟩ := H
 replace H : (some t527) = some r := H
 have A6 := mk_ A60
 clear A60
 obtain rfl := Option.some.inj H
 go_enter Try.func44, Try.ntmps44
 go_wp2_with (first | ((with_reducible refine gate_dst (N := 1) rfl ?_); refine box_event ?hg (N := 1) ?hd (cs := #[.int .i64 a0_0, .int .i64 a0_1, .int .i64 a0_2]) (t := 28) ?hr ?_; (case hd => rfl); (case hg => rfl); (case hr => first | (go_simp; done) | (go_simp; rfl)); intro gb524 hg w7 hbox hb; have n0_ := mk_ (below_step (Short.hB HB) hb); have n1_ := mk_ (hbox); have n2_ := mk_ ((by rw [hg]; exact (below_size (Short.hB HB)) : w.heap.size ≤ gb524)); have n3_ := mk_ ((by rw [hg]; exact (below_size (Short.hB HB)) : w.heap.size ≤ gb524)); clear HB; revert n0_ n1_ n2_ n3_; intro HB BK524 GW524 GE524; clear hb hbox hg; obtain ⟨hcz8_0, hcz8_1, hcz8_2, hfz8_0, hfz8_1, hfz8_2⟩ := Short.c3 BK524.out) | ((with_reducible refine gate_callee (f := 41) rfl ?_); refine Short.gL (some 5) Try.func41 #[.int .i64 a0_0, .int .i64 6] (h := ?_); (with_reducible refine (raddleref01_fits.calls a0_0 6 true _ A2.out).mono ?_); rintro e w' ⟨rfl, ⟨nd, rfl⟩⟩; refine ⟨_, rfl, ?_⟩) | (go_at_call 41; (with_reducible refine (raddleref01_fits.calls a0_1 3 true _ A4.out).mono ?_); rintro e w' ⟨rfl, ⟨nd, rfl⟩⟩) | (go_at_call 41; (with_reducible refine (raddleref01_fits.calls a0_2 1 t527 _ A6.out).mono ?_); rintro e w' ⟨rfl, ⟨nd, rfl⟩⟩))
 go_ret
 exact ⟨q0, Short.hB HB⟩
def raddleref01_Row.l0 : Nat → List (S84) → Int → Option (Int)
 | 0, _, _ => none
 | k + 1, x0, x3 => if x3 < (x0.length : Int) then (if 0 ≤ x3 then ((raddleref01_Value.f ((rd_T84 x0 x3).f0) ((rd_T84 x0 x3).f1) ((rd_T84 x0 x3).f2)).bind fun t529 => (if t529 = true then (raddleref01_Row.l0 k x0 (wrap64 (x3 + 1))) else (some 1))) else (none)) else (some 0)
def raddleref01_Row.f (k : Nat) (l0 : List (S84)) : Option (Int) := if (l0.length : Int) > 12 then (some 2) else (raddleref01_Row.l0 k l0 0)
theorem raddleref01_Row.calls (k : Nat) (A0 : Option Addr) (c0 : Nat) (l0 : List (S84)) (r : Int) (w : World) (hr0 : Kd.C k84 w A0 l0.length l0) (hc0 : l0.length ≤ c0) (h : raddleref01_Row.f k l0 = some r) :
  Calls Try.prog 45 #[.slice A0 l0.length c0] w fun e w' => e = .returned (.int .i64 r) ∧ Below w.heap.size w w' := by
 have hu84 := Try.underlying84
 have HR0 := mk_ hr0
 have HC0 := mk_ hc0
 clear hr0 hc0
 have HB := mk_ (Below.refl w.heap.size w)
 have H : (if (l0.length : Int) > 12 then (some 2) else (raddleref01_Row.l0 k l0 0)) = some r := h
 clear h
 by_cases c2 : (l0.length : Int) > 12
 ·
  rw [if_pos c2] at H
  have c2b0 : decide (12 < (l0.length : Int)) = true := decide_eq_true c2
  have c2b1 : decide (12 < l0.length) = true := decide_eq_true z4
  clear c2
  obtain rfl := Option.some.inj H
  go_enter Try.func45, Try.ntmps45
  go_wp2
  go_ret
  exact ⟨q0, Short.hB HB⟩
 rw [if_neg c2] at H
 have c2b0 : decide (12 < (l0.length : Int)) = false := decide_eq_false c2
 have c2b1 : decide (12 < l0.length) = false := decide_eq_false z4
 clear c2
 have H' := mk_ H
 clear H
 go_enter Try.func45, Try.ntmps45
 go_wp2
 go_loopg [3] k (fun kq v3 w' => ∃ (x3_1 : Int), v3 = .int .i64 x3_1 ∧ Aside0 (raddleref01_Row.l0 kq l0 x3_1 = some r) ∧ Aside0 (kq ≤ k) ∧ Aside0 (Below w.heap.size w w'))
 case atStart => exact ⟨(0), z3, H', ⟨Nat.le_refl _⟩, ⟨Short.hB HB⟩⟩
 case round =>
  clear H'
  try clear c2
  try clear c2b0
  try clear c2b1
  try clear p2
  obtain ⟨x3_1, rfl, HA, HK1, HB⟩ := hrel
  cases gk with
  | zero => exact absurd HA.out (by simp [raddleref01_Row.l0])
  | succ k1 =>
   have H := HA.out
   clear HA
   simp only [raddleref01_Row.l0] at H
   by_cases c3 : x3_1 < (l0.length : Int)
   rotate_left
   ·
    rw [if_neg c3] at H
    have c3b0 : decide (x3_1 < (l0.length : Int)) = false := decide_eq_false c3
    clear c3
    obtain rfl := Option.some.inj H
    go_wp2
    go_ret
    exact ⟨q0, Short.hB HB⟩
   rw [if_pos c3] at H
   have c3b0 : decide (x3_1 < (l0.length : Int)) = true := decide_eq_true c3
   clear c3
   by_cases c4 : 0 ≤ x3_1
   rotate_left
   ·
    rw [if_neg c4] at H
    exact absurd H (by simp)
   rw [if_pos c4] at H
   have c4b0 : decide (0 ≤ x3_1) = true := decide_eq_true c4
   clear c4
   replace H := Option.bind_eq_some_iff.mp H
   obtain ⟨t529, A50, H⟩ := H
   replace H : (if t529 = true then (raddleref01_Row.l0 k1 l0 (wrap64 (x3_1 + 1))) else (some 1)) = some r := H
   have A5 := mk_ A50
   clear A50
   by_cases c6 : t529 = true
   rotate_left
   ·
    replace c6 := Bool.eq_false_iff.mpr c6
    subst c6
    have H1 : (some 1) = some r := by rw [if_neg (show ¬ (false = true) by decide)] at H; exact H
    clear H
    have H := H1
    clear H1
    obtain rfl := Option.some.inj H
    have p528 : 0 ≤ (x3_1 : Int) := of_decide_eq_true z0
    have q528 : x3_1 < (l0.length : Int) := of_decide_eq_true z0
    obtain ⟨ad528, e528, hx528_0, hx528_1, hx528_2⟩ := at_T84 HR0.out x3_1 p528 q528
    cases e528
    replace hx528_0 := up_ HB hx528_0
    replace hx528_1 := up_ HB hx528_1
    replace hx528_2 := up_ HB hx528_2
    replace p528 := eq_true p528
    replace q528 := eq_true q528
    go_wp2_with (first | ((with_reducible refine gate_callee (f := 84) rfl ?_); refine Short.gL (some 17) Try.func84 #[.agg #[.int .i64 ((rd_T84 l0 x3_1).f0), .int .i64 ((rd_T84 l0 x3_1).f1), .string ((rd_T84 l0 x3_1).f2)]] (h := ?_); (with_reducible refine (raddleref01_Value.calls ((rd_T84 l0 x3_1).f0) ((rd_T84 l0 x3_1).f1) ((rd_T84 l0 x3_1).f2) false _ A5.out).mono ?_); rintro e w8 ⟨rfl, hb⟩; refine ⟨_, rfl, ?_⟩; have n0_ := mk_ (below_step (Short.hB HB) hb); clear HB; revert n0_; intro HB; (try clear hb)))
    go_ret
    exact ⟨q0, Short.hB HB⟩
   subst c6
   have H1 : (raddleref01_Row.l0 k1 l0 (wrap64 (x3_1 + 1))) = some r := by rw [if_pos rfl] at H; exact H
   clear H
   have H := H1
   clear H1
   have H' := mk_ H
   clear H
   have p528 : 0 ≤ (x3_1 : Int) := of_decide_eq_true z0
   have q528 : x3_1 < (l0.length : Int) := of_decide_eq_true z0
   obtain ⟨ad528, e528, hx528_0, hx528_1, hx528_2⟩ := at_T84 HR0.out x3_1 p528 q528
   cases e528
   replace hx528_0 := up_ HB hx528_0
   replace hx528_1 := up_ HB hx528_1
   replace hx528_2 := up_ HB hx528_2
   replace p528 := eq_true p528
   replace q528 := eq_true q528
   go_wp2_with (first | ((with_reducible refine gate_callee (f := 84) rfl ?_); refine Short.gL (some 17) Try.func84 #[.agg #[.int .i64 ((rd_T84 l0 x3_1).f0), .int .i64 ((rd_T84 l0 x3_1).f1), .string ((rd_T84 l0 x3_1).f2)]] (h := ?_); (with_reducible refine (raddleref01_Value.calls ((rd_T84 l0 x3_1).f0) ((rd_T84 l0 x3_1).f1) ((rd_T84 l0 x3_1).f2) true _ A5.out).mono ?_); rintro e w7 ⟨rfl, hb⟩; refine ⟨_, rfl, ?_⟩; have n0_ := mk_ (below_step (Short.hB HB) hb); clear HB; revert n0_; intro HB; (try clear hb)))
   go_roundg k1
   case measure => have := HK1.out; omega
   case rel => exact ⟨(wrap64 (x3_1 + 1)), z3, H', ⟨by have := HK1.out; omega⟩, ⟨Short.hB HB⟩⟩
end Go.Proofs.Ytjnjfogfpmeacaa.PAll
end
section
namespace Go.Proofs.Ytjnjfogfpmeacaa.PAll
open Go.RowKit PrintWords PrintLast PrintMore ZipT PrintWords.Kd PrintMore.Kd
attribute [local go_sem] max2_int min2_int max_two min_two max_three min_three max_four min_four   -- for this text's walks alone
set_option linter.unusedVariables false
set_option linter.unusedSimpArgs false
mutual
def raddleref01_OpFits.j0 : Nat → Bool → Int → Int → List Int → Int → Int → Int → Int → Int → ByteArray → Int → List (S84) → List (S25) → Option (Bool)
 | 0, _, _, _, _, _, _, _, _, _, _, _, _, _ => none
 | k + 1, x55, x531000, x531001, x531002, x531003, x531004, x531005, x531006, x531007, x531008, x531009, x531010, x531011 => if x55 = true then (some false) else (raddleref01_OpFits.l0 k 0 x531000 x531001 x531002 x531003 x531004 x531005 x531006 x531007 x531008 x531009 x531010 x531011)
def raddleref01_OpFits.l0 : Nat → Int → Int → Int → List Int → Int → Int → Int → Int → Int → ByteArray → Int → List (S84) → List (S25) → Option (Bool)
 | 0, _, _, _, _, _, _, _, _, _, _, _, _, _ => none
 | k + 1, x3, x531000, x531001, x531002, x531003, x531004, x531005, x531006, x531007, x531008, x531009, x531010, x531011 => if x3 < (x531011.length : Int) then (if 0 ≤ x3 then ((raddleref01_dotFits.f ((rd_T25 x531011 x3).f0) ((rd_T25 x531011 x3).f1)).bind fun t539 => (if t539 = true then (raddleref01_OpFits.l0 k (wrap64 (x3 + 1)) x531000 x531001 x531002 x531003 x531004 x531005 x531006 x531007 x531008 x531009 x531010 x531011) else (some false))) else (none)) else (some true)
end
def raddleref01_OpFits.f (k : Nat) (a0_0 : Int) (a0_1 : Int) (l0_2 : List Int) (a0_3 : Int) (a0_4 : Int) (a0_5 : Int) (a0_6 : Int) (a0_7 : Int) (a0_8 : ByteArray) (a0_9 : Int) (l0_10 : List (S84)) (l0_11 : List (S25)) : Option (Bool) := (raddleref01_fits.f a0_6 1).bind fun t531 => (if t531 = true then ((raddleref01_dotFits.f a0_0 a0_1).bind fun t532 => (if t532 = true then ((raddleref01_vectorFits.f k l0_2).bind fun t533 => (if t533 = true then ((raddleref01_stampFits.f a0_3 a0_4 a0_5).bind fun t534 => (if t534 = true then ((raddleref01_fits.f a0_7 1).bind fun t535 => (if t535 = true then (if (a0_8.size : Int) > 24 then (raddleref01_OpFits.j0 k true a0_0 a0_1 l0_2 a0_3 a0_4 a0_5 a0_6 a0_7 a0_8 a0_9 l0_10 l0_11) else ((raddleref01_fits.f a0_9 1).bind fun t536 => (if t536 = true then ((raddleref01_Row.f k l0_10).bind fun t537 => (if t537 = 0 then (raddleref01_OpFits.j0 k (decide ((l0_11.length : Int) > 64)) a0_0 a0_1 l0_2 a0_3 a0_4 a0_5 a0_6 a0_7 a0_8 a0_9 l0_10 l0_11) else (raddleref01_OpFits.j0 k true a0_0 a0_1 l0_2 a0_3 a0_4 a0_5 a0_6 a0_7 a0_8 a0_9 l0_10 l0_11))) else (raddleref01_OpFits.j0 k true a0_0 a0_1 l0_2 a0_3 a0_4 a0_5 a0_6 a0_7 a0_8 a0_9 l0_10 l0_11)))) else (raddleref01_OpFits.j0 k true a0_0 a0_1 l0_2 a0_3 a0_4 a0_5 a0_6 a0_7 a0_8 a0_9 l0_10 l0_11))) else (raddleref01_OpFits.j0 k true a0_0 a0_1 l0_2 a0_3 a0_4 a0_5 a0_6 a0_7 a0_8 a0_9 l0_10 l0_11))) else (raddleref01_OpFits.j0 k true a0_0 a0_1 l0_2 a0_3 a0_4 a0_5 a0_6 a0_7 a0_8 a0_9 l0_10 l0_11))) else (raddleref01_OpFits.j0 k true a0_0 a0_1 l0_2 a0_3 a0_4 a0_5 a0_6 a0_7 a0_8 a0_9 l0_10 l0_11))) else (raddleref01_OpFits.j0 k true a0_0 a0_1 l0_2 a0_3 a0_4 a0_5 a0_6 a0_7 a0_8 a0_9 l0_10 l0_11))
theorem raddleref01_OpFits.calls (k : Nat) (a0_0 : Int) (a0_1 : Int) (A0_2 : Option Addr) (c0_2 : Nat) (l0_2 : List Int) (a0_3 : Int) (a0_4 : Int) (a0_5 : Int) (a0_6 : Int) (a0_7 : Int) (a0_8 : ByteArray) (a0_9 : Int) (A0_10 : Option Addr) (c0_10 : Nat) (l0_10 : List (S84)) (A0_11 : Option Addr) (c0_11 : Nat) (l0_11 : List (S25)) (r : Bool) (w : World) (hr0_2 : Kd.C (Kd.int .i64) w A0_2 l0_2.length l0_2) (hc0_2 : l0_2.length ≤ c0_2) (hr0_10 : Kd.C k84 w A0_10 l0_10.length l0_10) (hc0_10 : l0_10.length ≤ c0_10) (hr0_11 : Kd.C k25 w A0_11 l0_11.length l0_11) (hc0_11 : l0_11.length ≤ c0_11) (h : raddleref01_OpFits.f k a0_0 a0_1 l0_2 a0_3 a0_4 a0_5 a0_6 a0_7 a0_8 a0_9 l0_10 l0_11 = some r) :
  Calls Try.prog 22 #[.agg #[.int .i64 a0_0, .int .i64 a0_1, .slice A0_2 l0_2.length c0_2, .int .i64 a0_3, .int .i64 a0_4, .int .i64 a0_5, .int .i64 a0_6, .int .i64 a0_7, .string a0_8, .int .i64 a0_9, .slice A0_10 l0_10.length c0_10, .slice A0_11 l0_11.length c0_11]] w fun e w' => e = .returned (.bool r) ∧ Below w.heap.size w w' := by
 have hu32 := Try.underlying32
 have hu25 := Try.underlying25
 have hu28 := Try.underlying28
 have HR0_2 := mk_ hr0_2
 have HC0_2 := mk_ hc0_2
 clear hr0_2 hc0_2
 have HR0_10 := mk_ hr0_10
 have HC0_10 := mk_ hc0_10
 clear hr0_10 hc0_10
 have HR0_11 := mk_ hr0_11
 have HC0_11 := mk_ hc0_11
 clear hr0_11 hc0_11
 have HB := mk_ (Below.refl w.heap.size w)
 have H : ((raddleref01_fits.f a0_6 1).bind fun t531 => (if t531 = true then ((raddleref01_dotFits.f a0_0 a0_1).bind fun t532 => (if t532 = true then ((raddleref01_vectorFits.f k l0_2).bind fun t533 => (if t533 = true then ((raddleref01_stampFits.f a0_3 a0_4 a0_5).bind fun t534 => (if t534 = true then ((raddleref01_fits.f a0_7 1).bind fun t535 => (if t535 = true then (if (a0_8.size : Int) > 24 then (raddleref01_OpFits.j0 k true a0_0 a0_1 l0_2 a0_3 a0_4 a0_5 a0_6 a0_7 a0_8 a0_9 l0_10 l0_11) else ((raddleref01_fits.f a0_9 1).bind fun t536 => (if t536 = true then ((raddleref01_Row.f k l0_10).bind fun t537 => (if t537 = 0 then (raddleref01_OpFits.j0 k (decide ((l0_11.length : Int) > 64)) a0_0 a0_1 l0_2 a0_3 a0_4 a0_5 a0_6 a0_7 a0_8 a0_9 l0_10 l0_11) else (raddleref01_OpFits.j0 k true a0_0 a0_1 l0_2 a0_3 a0_4 a0_5 a0_6 a0_7 a0_8 a0_9 l0_10 l0_11))) else (raddleref01_OpFits.j0 k true a0_0 a0_1 l0_2 a0_3 a0_4 a0_5 a0_6 a0_7 a0_8 a0_9 l0_10 l0_11)))) else (raddleref01_OpFits.j0 k true a0_0 a0_1 l0_2 a0_3 a0_4 a0_5 a0_6 a0_7 a0_8 a0_9 l0_10 l0_11))) else (raddleref01_OpFits.j0 k true a0_0 a0_1 l0_2 a0_3 a0_4 a0_5 a0_6 a0_7 a0_8 a0_9 l0_10 l0_11))) else (raddleref01_OpFits.j0 k true a0_0 a0_1 l0_2 a0_3 a0_4 a0_5 a0_6 a0_7 a0_8 a0_9 l0_10 l0_11))) else (raddleref01_OpFits.j0 k true a0_0 a0_1 l0_2 a0_3 a0_4 a0_5 a0_6 a0_7 a0_8 a0_9 l0_10 l0_11))) else (raddleref01_OpFits.j0 k true a0_0 a0_1 l0_2 a0_3 a0_4 a0_5 a0_6 a0_7 a0_8 a0_9 l0_10 l0_11))) = some r := h
 clear h
 have HC2 := mk_ H
 clear H
 go_enter Try.func22, Try.ntmps22
 go_upto_region 1 with (first | ((with_reducible refine gate_dst (N := 1) rfl ?_); (try (refine gate_guard (by rfl) ?_; dsimp only)); refine box_event ?hg (N := 1) ?hd (cs := #[.int .i64 a0_0, .int .i64 a0_1, .slice A0_2 l0_2.length c0_2, .int .i64 a0_3, .int .i64 a0_4, .int .i64 a0_5, .int .i64 a0_6, .int .i64 a0_7, .string a0_8, .int .i64 a0_9, .slice A0_10 l0_10.length c0_10, .slice A0_11 l0_11.length c0_11]) (t := 32) ?hr ?_; (case hd => rfl); (case hg => rfl); (case hr => first | (go_simp; done) | (go_simp; rfl)); intro gb530 hg w3 hbox hb; have n0_ := mk_ (below_step (Short.hB HB) hb); have n1_ := mk_ (hbox); have n2_ := mk_ ((by rw [hg]; exact (below_size (Short.hB HB)) : w.heap.size ≤ gb530)); have n3_ := mk_ ((by rw [hg]; exact (below_size (Short.hB HB)) : w.heap.size ≤ gb530)); clear HB; revert n0_ n1_ n2_ n3_; intro HB BK530 GW530 GE530; clear hb hbox hg))
 (try simp only [Act.put, List.setIfInBounds_toArray, List.set_cons_zero, List.set_cons_succ])
 go_cut [55] (fun v55 wc => ∃ (kq : Nat) (x55_1 : Bool), v55 = .bool x55_1 ∧ Aside0 (raddleref01_OpFits.j0 kq x55_1 a0_0 a0_1 l0_2 a0_3 a0_4 a0_5 a0_6 a0_7 a0_8 a0_9 l0_10 l0_11 = some r) ∧ Aside0 (kq ≤ k) ∧ Aside0 (wc.heap[gb530]? = some (.cells #[.int .i64 a0_0, .int .i64 a0_1, (.slice A0_2 l0_2.length c0_2), .int .i64 a0_3, .int .i64 a0_4, .int .i64 a0_5, .int .i64 a0_6, .int .i64 a0_7, .string a0_8, .int .i64 a0_9, (.slice A0_10 l0_10.length c0_10), (.slice A0_11 l0_11.length c0_11)] 32 (0, 0))) ∧ Aside0 (Below w.heap.size w wc))
 case first =>
  have H := HC2.out
  clear HC2
  replace H := Option.bind_eq_some_iff.mp H
  obtain ⟨t531, A40, H⟩ := H
  replace H : (if t531 = true then ((raddleref01_dotFits.f a0_0 a0_1).bind fun t532 => (if t532 = true then ((raddleref01_vectorFits.f k l0_2).bind fun t533 => (if t533 = true then ((raddleref01_stampFits.f a0_3 a0_4 a0_5).bind fun t534 => (if t534 = true then ((raddleref01_fits.f a0_7 1).bind fun t535 => (if t535 = true then (if (a0_8.size : Int) > 24 then (raddleref01_OpFits.j0 k true a0_0 a0_1 l0_2 a0_3 a0_4 a0_5 a0_6 a0_7 a0_8 a0_9 l0_10 l0_11) else ((raddleref01_fits.f a0_9 1).bind fun t536 => (if t536 = true then ((raddleref01_Row.f k l0_10).bind fun t537 => (if t537 = 0 then (raddleref01_OpFits.j0 k (decide ((l0_11.length : Int) > 64)) a0_0 a0_1 l0_2 a0_3 a0_4 a0_5 a0_6 a0_7 a0_8 a0_9 l0_10 l0_11) else (raddleref01_OpFits.j0 k true a0_0 a0_1 l0_2 a0_3 a0_4 a0_5 a0_6 a0_7 a0_8 a0_9 l0_10 l0_11))) else (raddleref01_OpFits.j0 k true a0_0 a0_1 l0_2 a0_3 a0_4 a0_5 a0_6 a0_7 a0_8 a0_9 l0_10 l0_11)))) else (raddleref01_OpFits.j0 k true a0_0 a0_1 l0_2 a0_3 a0_4 a0_5 a0_6 a0_7 a0_8 a0_9 l0_10 l0_11))) else (raddleref01_OpFits.j0 k true a0_0 a0_1 l0_2 a0_3 a0_4 a0_5 a0_6 a0_7 a0_8 a0_9 l0_10 l0_11))) else (raddleref01_OpFits.j0 k true a0_0 a0_1 l0_2 a0_3 a0_4 a0_5 a0_6 a0_7 a0_8 a0_9 l0_10 l0_11))) else (raddleref01_OpFits.j0 k true a0_0 a0_1 l0_2 a0_3 a0_4 a0_5 a0_6 a0_7 a0_8 a0_9 l0_10 l0_11))) else (raddleref01_OpFits.j0 k true a0_0 a0_1 l0_2 a0_3 a0_4 a0_5 a0_6 a0_7 a0_8 a0_9 l0_10 l0_11)) = some r := H
  have A4 := mk_ A40
  clear A40
  by_cases c5 : t531 = true
  rotate_left
  ·
   replace c5 := Bool.eq_false_iff.mpr c5
   subst c5
   have H1 : (raddleref01_OpFits.j0 k true a0_0 a0_1 l0_2 a0_3 a0_4 a0_5 a0_6 a0_7 a0_8 a0_9 l0_10 l0_11) = some r := by rw [if_neg (show ¬ (false = true) by decide)] at H; exact H
   clear H
   have H := H1
   clear H1
   have H' := mk_ H
   clear H
   have hcz56_0 : w3.cell? ⟨gb530, 0, none⟩ = some (.int .i64 a0_0) := kc_ BK530 0
   have hcz56_1 : w3.cell? ⟨gb530, 1, none⟩ = some (.int .i64 a0_1) := kc_ BK530 1
   have hcz56_2 : w3.cell? ⟨gb530, 2, none⟩ = some (.slice A0_2 l0_2.length c0_2) := kc_ BK530 2
   have hcz56_3 : w3.cell? ⟨gb530, 3, none⟩ = some (.int .i64 a0_3) := kc_ BK530 3
   have hcz56_4 : w3.cell? ⟨gb530, 4, none⟩ = some (.int .i64 a0_4) := kc_ BK530 4
   have hcz56_5 : w3.cell? ⟨gb530, 5, none⟩ = some (.int .i64 a0_5) := kc_ BK530 5
   have hcz56_6 : w3.cell? ⟨gb530, 6, none⟩ = some (.int .i64 a0_6) := kc_ BK530 6
   have hcz56_7 : w3.cell? ⟨gb530, 7, none⟩ = some (.int .i64 a0_7) := kc_ BK530 7
   have hcz56_8 : w3.cell? ⟨gb530, 8, none⟩ = some (.string a0_8) := kc_ BK530 8
   have hcz56_9 : w3.cell? ⟨gb530, 9, none⟩ = some (.int .i64 a0_9) := kc_ BK530 9
   have hcz56_10 : w3.cell? ⟨gb530, 10, none⟩ = some (.slice A0_10 l0_10.length c0_10) := kc_ BK530 10
   have hcz56_11 : w3.cell? ⟨gb530, 11, none⟩ = some (.slice A0_11 l0_11.length c0_11) := kc_ BK530 11
   have hfz56_0 := blk_frozen BK530.out 0
   have hfz56_1 := blk_frozen BK530.out 1
   have hfz56_2 := blk_frozen BK530.out 2
   have hfz56_3 := blk_frozen BK530.out 3
   have hfz56_4 := blk_frozen BK530.out 4
   have hfz56_5 := blk_frozen BK530.out 5
   have hfz56_6 := blk_frozen BK530.out 6
   have hfz56_7 := blk_frozen BK530.out 7
   have hfz56_8 := blk_frozen BK530.out 8
   have hfz56_9 := blk_frozen BK530.out 9
   have hfz56_10 := blk_frozen BK530.out 10
   have hfz56_11 := blk_frozen BK530.out 11
   go_wp2_with (first | ((with_reducible refine gate_callee (f := 41) rfl ?_); refine Short.gL (some 6) Try.func41 #[.int .i64 a0_6, .int .i64 1] (h := ?_); (with_reducible refine (raddleref01_fits.calls a0_6 1 false _ A4.out).mono ?_); rintro e w' ⟨rfl, ⟨nd, rfl⟩⟩; refine ⟨_, rfl, ?_⟩))
   go_meet
   case rel => exact ⟨_, (true), z3, H', ⟨by first | omega | exact Nat.le_refl _⟩, ⟨by (with_reducible repeat (first | refine blk_drewN ?_ _ | refine blk_drew ?_ | refine blk_alloc ?_ _)); exact BK530.out⟩, ⟨Short.hB HB⟩⟩
  subst c5
  have H1 : ((raddleref01_dotFits.f a0_0 a0_1).bind fun t532 => (if t532 = true then ((raddleref01_vectorFits.f k l0_2).bind fun t533 => (if t533 = true then ((raddleref01_stampFits.f a0_3 a0_4 a0_5).bind fun t534 => (if t534 = true then ((raddleref01_fits.f a0_7 1).bind fun t535 => (if t535 = true then (if (a0_8.size : Int) > 24 then (raddleref01_OpFits.j0 k true a0_0 a0_1 l0_2 a0_3 a0_4 a0_5 a0_6 a0_7 a0_8 a0_9 l0_10 l0_11) else ((raddleref01_fits.f a0_9 1).bind fun t536 => (if t536 = true then ((raddleref01_Row.f k l0_10).bind fun t537 => (if t537 = 0 then (raddleref01_OpFits.j0 k (decide ((l0_11.length : Int) > 64)) a0_0 a0_1 l0_2 a0_3 a0_4 a0_5 a0_6 a0_7 a0_8 a0_9 l0_10 l0_11) else (raddleref01_OpFits.j0 k true a0_0 a0_1 l0_2 a0_3 a0_4 a0_5 a0_6 a0_7 a0_8 a0_9 l0_10 l0_11))) else (raddleref01_OpFits.j0 k true a0_0 a0_1 l0_2 a0_3 a0_4 a0_5 a0_6 a0_7 a0_8 a0_9 l0_10 l0_11)))) else (raddleref01_OpFits.j0 k true a0_0 a0_1 l0_2 a0_3 a0_4 a0_5 a0_6 a0_7 a0_8 a0_9 l0_10 l0_11))) else (raddleref01_OpFits.j0 k true a0_0 a0_1 l0_2 a0_3 a0_4 a0_5 a0_6 a0_7 a0_8 a0_9 l0_10 l0_11))) else (raddleref01_OpFits.j0 k true a0_0 a0_1 l0_2 a0_3 a0_4 a0_5 a0_6 a0_7 a0_8 a0_9 l0_10 l0_11))) else (raddleref01_OpFits.j0 k true a0_0 a0_1 l0_2 a0_3 a0_4 a0_5 a0_6 a0_7 a0_8 a0_9 l0_10 l0_11))) = some r := by rw [if_pos rfl] at H; exact H
  clear H
  have H := H1
  clear H1
  replace H := Option.bind_eq_some_iff.mp H
  obtain ⟨t532, A60, H⟩ := H
  replace H : (if t532 = true then ((raddleref01_vectorFits.f k l0_2).bind fun t533 => (if t533 = true then ((raddleref01_stampFits.f a0_3 a0_4 a0_5).bind fun t534 => (if t534 = true then ((raddleref01_fits.f a0_7 1).bind fun t535 => (if t535 = true then (if (a0_8.size : Int) > 24 then (raddleref01_OpFits.j0 k true a0_0 a0_1 l0_2 a0_3 a0_4 a0_5 a0_6 a0_7 a0_8 a0_9 l0_10 l0_11) else ((raddleref01_fits.f a0_9 1).bind fun t536 => (if t536 = true then ((raddleref01_Row.f k l0_10).bind fun t537 => (if t537 = 0 then (raddleref01_OpFits.j0 k (decide ((l0_11.length : Int) > 64)) a0_0 a0_1 l0_2 a0_3 a0_4 a0_5 a0_6 a0_7 a0_8 a0_9 l0_10 l0_11) else (raddleref01_OpFits.j0 k true a0_0 a0_1 l0_2 a0_3 a0_4 a0_5 a0_6 a0_7 a0_8 a0_9 l0_10 l0_11))) else (raddleref01_OpFits.j0 k true a0_0 a0_1 l0_2 a0_3 a0_4 a0_5 a0_6 a0_7 a0_8 a0_9 l0_10 l0_11)))) else (raddleref01_OpFits.j0 k true a0_0 a0_1 l0_2 a0_3 a0_4 a0_5 a0_6 a0_7 a0_8 a0_9 l0_10 l0_11))) else (raddleref01_OpFits.j0 k true a0_0 a0_1 l0_2 a0_3 a0_4 a0_5 a0_6 a0_7 a0_8 a0_9 l0_10 l0_11))) else (raddleref01_OpFits.j0 k true a0_0 a0_1 l0_2 a0_3 a0_4 a0_5 a0_6 a0_7 a0_8 a0_9 l0_10 l0_11))) else (raddleref01_OpFits.j0 k true a0_0 a0_1 l0_2 a0_3 a0_4 a0_5 a0_6 a0_7 a0_8 a0_9 l0_10 l0_11)) = some r := H
  have A6 := mk_ A60
  clear A60
  by_cases c7 : t532 = true
  rotate_left
  ·
   replace c7 := Bool.eq_false_iff.mpr c7
   subst c7
   have H1 : (raddleref01_OpFits.j0 k true a0_0 a0_1 l0_2 a0_3 a0_4 a0_5 a0_6 a0_7 a0_8 a0_9 l0_10 l0_11) = some r := by rw [if_neg (show ¬ (false = true) by decide)] at H; exact H
   clear H
   have H := H1
   clear H1
   have H' := mk_ H
   clear H
   have hcz54_0 : w3.cell? ⟨gb530, 0, none⟩ = some (.int .i64 a0_0) := kc_ BK530 0
   have hcz54_1 : w3.cell? ⟨gb530, 1, none⟩ = some (.int .i64 a0_1) := kc_ BK530 1
   have hcz54_2 : w3.cell? ⟨gb530, 2, none⟩ = some (.slice A0_2 l0_2.length c0_2) := kc_ BK530 2
   have hcz54_3 : w3.cell? ⟨gb530, 3, none⟩ = some (.int .i64 a0_3) := kc_ BK530 3
   have hcz54_4 : w3.cell? ⟨gb530, 4, none⟩ = some (.int .i64 a0_4) := kc_ BK530 4
   have hcz54_5 : w3.cell? ⟨gb530, 5, none⟩ = some (.int .i64 a0_5) := kc_ BK530 5
   have hcz54_6 : w3.cell? ⟨gb530, 6, none⟩ = some (.int .i64 a0_6) := kc_ BK530 6
   have hcz54_7 : w3.cell? ⟨gb530, 7, none⟩ = some (.int .i64 a0_7) := kc_ BK530 7
   have hcz54_8 : w3.cell? ⟨gb530, 8, none⟩ = some (.string a0_8) := kc_ BK530 8
   have hcz54_9 : w3.cell? ⟨gb530, 9, none⟩ = some (.int .i64 a0_9) := kc_ BK530 9
   have hcz54_10 : w3.cell? ⟨gb530, 10, none⟩ = some (.slice A0_10 l0_10.length c0_10) := kc_ BK530 10
   have hcz54_11 : w3.cell? ⟨gb530, 11, none⟩ = some (.slice A0_11 l0_11.length c0_11) := kc_ BK530 11
   have hfz54_0 := blk_frozen BK530.out 0
   have hfz54_1 := blk_frozen BK530.out 1
   have hfz54_2 := blk_frozen BK530.out 2
   have hfz54_3 := blk_frozen BK530.out 3
   have hfz54_4 := blk_frozen BK530.out 4
   have hfz54_5 := blk_frozen BK530.out 5
   have hfz54_6 := blk_frozen BK530.out 6
   have hfz54_7 := blk_frozen BK530.out 7
   have hfz54_8 := blk_frozen BK530.out 8
   have hfz54_9 := blk_frozen BK530.out 9
   have hfz54_10 := blk_frozen BK530.out 10
   have hfz54_11 := blk_frozen BK530.out 11
   go_wp2_with (first | ((with_reducible refine gate_callee (f := 41) rfl ?_); refine Short.gL (some 6) Try.func41 #[.int .i64 a0_6, .int .i64 1] (h := ?_); (with_reducible refine (raddleref01_fits.calls a0_6 1 true _ A4.out).mono ?_); rintro e w' ⟨rfl, ⟨nd, rfl⟩⟩; refine ⟨_, rfl, ?_⟩) | (go_at_call 42; (with_reducible refine (raddleref01_dotFits.calls a0_0 a0_1 false _ A6.out).mono ?_); rintro e w55 ⟨rfl, hb⟩; have n0_ := mk_ (bB_ BK530 hb); have n1_ := mk_ (below_step (Short.hB HB) hb); clear BK530 HB; revert n0_ n1_; intro BK530 HB; (try clear hb); (try clear hb2); (try clear hk); (try clear hi)))
   go_meet
   case rel => exact ⟨_, (true), z3, H', ⟨by first | omega | exact Nat.le_refl _⟩, ⟨by (with_reducible repeat (first | refine blk_drewN ?_ _ | refine blk_drew ?_ | refine blk_alloc ?_ _)); exact BK530.out⟩, ⟨Short.hB HB⟩⟩
  subst c7
  have H1 : ((raddleref01_vectorFits.f k l0_2).bind fun t533 => (if t533 = true then ((raddleref01_stampFits.f a0_3 a0_4 a0_5).bind fun t534 => (if t534 = true then ((raddleref01_fits.f a0_7 1).bind fun t535 => (if t535 = true then (if (a0_8.size : Int) > 24 then (raddleref01_OpFits.j0 k true a0_0 a0_1 l0_2 a0_3 a0_4 a0_5 a0_6 a0_7 a0_8 a0_9 l0_10 l0_11) else ((raddleref01_fits.f a0_9 1).bind fun t536 => (if t536 = true then ((raddleref01_Row.f k l0_10).bind fun t537 => (if t537 = 0 then (raddleref01_OpFits.j0 k (decide ((l0_11.length : Int) > 64)) a0_0 a0_1 l0_2 a0_3 a0_4 a0_5 a0_6 a0_7 a0_8 a0_9 l0_10 l0_11) else (raddleref01_OpFits.j0 k true a0_0 a0_1 l0_2 a0_3 a0_4 a0_5 a0_6 a0_7 a0_8 a0_9 l0_10 l0_11))) else (raddleref01_OpFits.j0 k true a0_0 a0_1 l0_2 a0_3 a0_4 a0_5 a0_6 a0_7 a0_8 a0_9 l0_10 l0_11)))) else (raddleref01_OpFits.j0 k true a0_0 a0_1 l0_2 a0_3 a0_4 a0_5 a0_6 a0_7 a0_8 a0_9 l0_10 l0_11))) else (raddleref01_OpFits.j0 k true a0_0 a0_1 l0_2 a0_3 a0_4 a0_5 a0_6 a0_7 a0_8 a0_9 l0_10 l0_11))) else (raddleref01_OpFits.j0 k true a0_0 a0_1 l0_2 a0_3 a0_4 a0_5 a0_6 a0_7 a0_8 a0_9 l0_10 l0_11))) = some r := by rw [if_pos rfl] at H; exact H
  clear H
  have H := H1
  clear H1
  replace H := Option.bind_eq_some_iff.mp H
  obtain ⟨t533, A80, H⟩ := H
  replace H : (if t533 = true then ((raddleref01_stampFits.f a0_3 a0_4 a0_5).bind fun t534 => (if t534 = true then ((raddleref01_fits.f a0_7 1).bind fun t535 => (if t535 = true then (if (a0_8.size : Int) > 24 then (raddleref01_OpFits.j0 k true a0_0 a0_1 l0_2 a0_3 a0_4 a0_5 a0_6 a0_7 a0_8 a0_9 l0_10 l0_11) else ((raddleref01_fits.f a0_9 1).bind fun t536 => (if t536 = true then ((raddleref01_Row.f k l0_10).bind fun t537 => (if t537 = 0 then (raddleref01_OpFits.j0 k (decide ((l0_11.length : Int) > 64)) a0_0 a0_1 l0_2 a0_3 a0_4 a0_5 a0_6 a0_7 a0_8 a0_9 l0_10 l0_11) else (raddleref01_OpFits.j0 k true a0_0 a0_1 l0_2 a0_3 a0_4 a0_5 a0_6 a0_7 a0_8 a0_9 l0_10 l0_11))) else (raddleref01_OpFits.j0 k true a0_0 a0_1 l0_2 a0_3 a0_4 a0_5 a0_6 a0_7 a0_8 a0_9 l0_10 l0_11)))) else (raddleref01_OpFits.j0 k true a0_0 a0_1 l0_2 a0_3 a0_4 a0_5 a0_6 a0_7 a0_8 a0_9 l0_10 l0_11))) else (raddleref01_OpFits.j0 k true a0_0 a0_1 l0_2 a0_3 a0_4 a0_5 a0_6 a0_7 a0_8 a0_9 l0_10 l0_11))) else (raddleref01_OpFits.j0 k true a0_0 a0_1 l0_2 a0_3 a0_4 a0_5 a0_6 a0_7 a0_8 a0_9 l0_10 l0_11)) = some r := H
  have A8 := mk_ A80
  clear A80
  by_cases c9 : t533 = true
  rotate_left
  ·
   replace c9 := Bool.eq_false_iff.mpr c9
   subst c9
   have H1 : (raddleref01_OpFits.j0 k true a0_0 a0_1 l0_2 a0_3 a0_4 a0_5 a0_6 a0_7 a0_8 a0_9 l0_10 l0_11) = some r := by rw [if_neg (show ¬ (false = true) by decide)] at H; exact H
   clear H
   have H := H1
   clear H1
   have H' := mk_ H
   clear H
   have hcz51_0 : w3.cell? ⟨gb530, 0, none⟩ = some (.int .i64 a0_0) := kc_ BK530 0
   have hcz51_1 : w3.cell? ⟨gb530, 1, none⟩ = some (.int .i64 a0_1) := kc_ BK530 1
   have hcz51_2 : w3.cell? ⟨gb530, 2, none⟩ = some (.slice A0_2 l0_2.length c0_2) := kc_ BK530 2
   have hcz51_3 : w3.cell? ⟨gb530, 3, none⟩ = some (.int .i64 a0_3) := kc_ BK530 3
   have hcz51_4 : w3.cell? ⟨gb530, 4, none⟩ = some (.int .i64 a0_4) := kc_ BK530 4
   have hcz51_5 : w3.cell? ⟨gb530, 5, none⟩ = some (.int .i64 a0_5) := kc_ BK530 5
   have hcz51_6 : w3.cell? ⟨gb530, 6, none⟩ = some (.int .i64 a0_6) := kc_ BK530 6
   have hcz51_7 : w3.cell? ⟨gb530, 7, none⟩ = some (.int .i64 a0_7) := kc_ BK530 7
   have hcz51_8 : w3.cell? ⟨gb530, 8, none⟩ = some (.string a0_8) := kc_ BK530 8
   have hcz51_9 : w3.cell? ⟨gb530, 9, none⟩ = some (.int .i64 a0_9) := kc_ BK530 9
   have hcz51_10 : w3.cell? ⟨gb530, 10, none⟩ = some (.slice A0_10 l0_10.length c0_10) := kc_ BK530 10
   have hcz51_11 : w3.cell? ⟨gb530, 11, none⟩ = some (.slice A0_11 l0_11.length c0_11) := kc_ BK530 11
   have hfz51_0 := blk_frozen BK530.out 0
   have hfz51_1 := blk_frozen BK530.out 1
   have hfz51_2 := blk_frozen BK530.out 2
   have hfz51_3 := blk_frozen BK530.out 3
   have hfz51_4 := blk_frozen BK530.out 4
   have hfz51_5 := blk_frozen BK530.out 5
   have hfz51_6 := blk_frozen BK530.out 6
   have hfz51_7 := blk_frozen BK530.out 7
   have hfz51_8 := blk_frozen BK530.out 8
   have hfz51_9 := blk_frozen BK530.out 9
   have hfz51_10 := blk_frozen BK530.out 10
   have hfz51_11 := blk_frozen BK530.out 11
   go_wp2_with (first | ((with_reducible refine gate_callee (f := 41) rfl ?_); refine Short.gL (some 6) Try.func41 #[.int .i64 a0_6, .int .i64 1] (h := ?_); (with_reducible refine (raddleref01_fits.calls a0_6 1 true _ A4.out).mono ?_); rintro e w' ⟨rfl, ⟨nd, rfl⟩⟩; refine ⟨_, rfl, ?_⟩) | (go_at_call 42; (with_reducible refine (raddleref01_dotFits.calls a0_0 a0_1 true _ A6.out).mono ?_); rintro e w52 ⟨rfl, hb⟩; have n0_ := mk_ (bB_ BK530 hb); have n1_ := mk_ (below_step (Short.hB HB) hb); clear BK530 HB; revert n0_ n1_; intro BK530 HB; (try clear hb); (try clear hb2); (try clear hk); (try clear hi); have hcz53_0 : w52.cell? ⟨gb530, 0, none⟩ = some (.int .i64 a0_0) := kc_ BK530 0; have hcz53_1 : w52.cell? ⟨gb530, 1, none⟩ = some (.int .i64 a0_1) := kc_ BK530 1; have hcz53_2 : w52.cell? ⟨gb530, 2, none⟩ = some (.slice A0_2 l0_2.length c0_2) := kc_ BK530 2; have hcz53_3 : w52.cell? ⟨gb530, 3, none⟩ = some (.int .i64 a0_3) := kc_ BK530 3; have hcz53_4 : w52.cell? ⟨gb530, 4, none⟩ = some (.int .i64 a0_4) := kc_ BK530 4; have hcz53_5 : w52.cell? ⟨gb530, 5, none⟩ = some (.int .i64 a0_5) := kc_ BK530 5; have hcz53_6 : w52.cell? ⟨gb530, 6, none⟩ = some (.int .i64 a0_6) := kc_ BK530 6; have hcz53_7 : w52.cell? ⟨gb530, 7, none⟩ = some (.int .i64 a0_7) := kc_ BK530 7; have hcz53_8 : w52.cell? ⟨gb530, 8, none⟩ = some (.string a0_8) := kc_ BK530 8; have hcz53_9 : w52.cell? ⟨gb530, 9, none⟩ = some (.int .i64 a0_9) := kc_ BK530 9; have hcz53_10 : w52.cell? ⟨gb530, 10, none⟩ = some (.slice A0_10 l0_10.length c0_10) := kc_ BK530 10; have hcz53_11 : w52.cell? ⟨gb530, 11, none⟩ = some (.slice A0_11 l0_11.length c0_11) := kc_ BK530 11; have hfz53_0 := blk_frozen BK530.out 0; have hfz53_1 := blk_frozen BK530.out 1; have hfz53_2 := blk_frozen BK530.out 2; have hfz53_3 := blk_frozen BK530.out 3; have hfz53_4 := blk_frozen BK530.out 4; have hfz53_5 := blk_frozen BK530.out 5; have hfz53_6 := blk_frozen BK530.out 6; have hfz53_7 := blk_frozen BK530.out 7; have hfz53_8 := blk_frozen BK530.out 8; have hfz53_9 := blk_frozen BK530.out 9; have hfz53_10 := blk_frozen BK530.out 10; have hfz53_11 := blk_frozen BK530.out 11) | (go_at_call 43; (with_reducible refine (raddleref01_vectorFits.calls k _ _ l0_2 false _ ?side1 ?side2 A8.out).mono ?_); (case side1 => exact cX_ (C_below HR0_2.out HB.out)); (case side2 => exact HC0_2.out); rintro e w' ⟨rfl, ⟨nd, rfl⟩⟩))
   go_meet
   case rel => exact ⟨_, (true), z3, H', ⟨by first | omega | exact Nat.le_refl _⟩, ⟨by (with_reducible repeat (first | refine blk_drewN ?_ _ | refine blk_drew ?_ | refine blk_alloc ?_ _)); exact BK530.out⟩, ⟨Short.hB HB⟩⟩
  subst c9
  have H1 : ((raddleref01_stampFits.f a0_3 a0_4 a0_5).bind fun t534 => (if t534 = true then ((raddleref01_fits.f a0_7 1).bind fun t535 => (if t535 = true then (if (a0_8.size : Int) > 24 then (raddleref01_OpFits.j0 k true a0_0 a0_1 l0_2 a0_3 a0_4 a0_5 a0_6 a0_7 a0_8 a0_9 l0_10 l0_11) else ((raddleref01_fits.f a0_9 1).bind fun t536 => (if t536 = true then ((raddleref01_Row.f k l0_10).bind fun t537 => (if t537 = 0 then (raddleref01_OpFits.j0 k (decide ((l0_11.length : Int) > 64)) a0_0 a0_1 l0_2 a0_3 a0_4 a0_5 a0_6 a0_7 a0_8 a0_9 l0_10 l0_11) else (raddleref01_OpFits.j0 k true a0_0 a0_1 l0_2 a0_3 a0_4 a0_5 a0_6 a0_7 a0_8 a0_9 l0_10 l0_11))) else (raddleref01_OpFits.j0 k true a0_0 a0_1 l0_2 a0_3 a0_4 a0_5 a0_6 a0_7 a0_8 a0_9 l0_10 l0_11)))) else (raddleref01_OpFits.j0 k true a0_0 a0_1 l0_2 a0_3 a0_4 a0_5 a0_6 a0_7 a0_8 a0_9 l0_10 l0_11))) else (raddleref01_OpFits.j0 k true a0_0 a0_1 l0_2 a0_3 a0_4 a0_5 a0_6 a0_7 a0_8 a0_9 l0_10 l0_11))) = some r := by rw [if_pos rfl] at H; exact H
  clear H
  have H := H1
  clear H1
  replace H := Option.bind_eq_some_iff.mp H
  obtain ⟨t534, A100, H⟩ := H
  replace H : (if t534 = true then ((raddleref01_fits.f a0_7 1).bind fun t535 => (if t535 = true then (if (a0_8.size : Int) > 24 then (raddleref01_OpFits.j0 k true a0_0 a0_1 l0_2 a0_3 a0_4 a0_5 a0_6 a0_7 a0_8 a0_9 l0_10 l0_11) else ((raddleref01_fits.f a0_9 1).bind fun t536 => (if t536 = true then ((raddleref01_Row.f k l0_10).bind fun t537 => (if t537 = 0 then (raddleref01_OpFits.j0 k (decide ((l0_11.length : Int) > 64)) a0_0 a0_1 l0_2 a0_3 a0_4 a0_5 a0_6 a0_7 a0_8 a0_9 l0_10 l0_11) else (raddleref01_OpFits.j0 k true a0_0 a0_1 l0_2 a0_3 a0_4 a0_5 a0_6 a0_7 a0_8 a0_9 l0_10 l0_11))) else (raddleref01_OpFits.j0 k true a0_0 a0_1 l0_2 a0_3 a0_4 a0_5 a0_6 a0_7 a0_8 a0_9 l0_10 l0_11)))) else (raddleref01_OpFits.j0 k true a0_0 a0_1 l0_2 a0_3 a0_4 a0_5 a0_6 a0_7 a0_8 a0_9 l0_10 l0_11))) else (raddleref01_OpFits.j0 k true a0_0 a0_1 l0_2 a0_3 a0_4 a0_5 a0_6 a0_7 a0_8 a0_9 l0_10 l0_11)) = some r := H
  have A10 := mk_ A100
  clear A100
  by_cases c11 : t534 = true
  rotate_left
  ·
   replace c11 := Bool.eq_false_iff.mpr c11
   subst c11
   have H1 : (raddleref01_OpFits.j0 k true a0_0 a0_1 l0_2 a0_3 a0_4 a0_5 a0_6 a0_7 a0_8 a0_9 l0_10 l0_11) = some r := by rw [if_neg (show ¬ (false = true) by decide)] at H; exact H
   clear H
   have H := H1
   clear H1
   have H' := mk_ H
   clear H
   have hcz47_0 : w3.cell? ⟨gb530, 0, none⟩ = some (.int .i64 a0_0) := kc_ BK530 0
   have hcz47_1 : w3.cell? ⟨gb530, 1, none⟩ = some (.int .i64 a0_1) := kc_ BK530 1
   have hcz47_2 : w3.cell? ⟨gb530, 2, none⟩ = some (.slice A0_2 l0_2.length c0_2) := kc_ BK530 2
   have hcz47_3 : w3.cell? ⟨gb530, 3, none⟩ = some (.int .i64 a0_3) := kc_ BK530 3
   have hcz47_4 : w3.cell? ⟨gb530, 4, none⟩ = some (.int .i64 a0_4) := kc_ BK530 4
   have hcz47_5 : w3.cell? ⟨gb530, 5, none⟩ = some (.int .i64 a0_5) := kc_ BK530 5
   have hcz47_6 : w3.cell? ⟨gb530, 6, none⟩ = some (.int .i64 a0_6) := kc_ BK530 6
   have hcz47_7 : w3.cell? ⟨gb530, 7, none⟩ = some (.int .i64 a0_7) := kc_ BK530 7
   have hcz47_8 : w3.cell? ⟨gb530, 8, none⟩ = some (.string a0_8) := kc_ BK530 8
   have hcz47_9 : w3.cell? ⟨gb530, 9, none⟩ = some (.int .i64 a0_9) := kc_ BK530 9
   have hcz47_10 : w3.cell? ⟨gb530, 10, none⟩ = some (.slice A0_10 l0_10.length c0_10) := kc_ BK530 10
   have hcz47_11 : w3.cell? ⟨gb530, 11, none⟩ = some (.slice A0_11 l0_11.length c0_11) := kc_ BK530 11
   have hfz47_0 := blk_frozen BK530.out 0
   have hfz47_1 := blk_frozen BK530.out 1
   have hfz47_2 := blk_frozen BK530.out 2
   have hfz47_3 := blk_frozen BK530.out 3
   have hfz47_4 := blk_frozen BK530.out 4
   have hfz47_5 := blk_frozen BK530.out 5
   have hfz47_6 := blk_frozen BK530.out 6
   have hfz47_7 := blk_frozen BK530.out 7
   have hfz47_8 := blk_frozen BK530.out 8
   have hfz47_9 := blk_frozen BK530.out 9
   have hfz47_10 := blk_frozen BK530.out 10
   have hfz47_11 := blk_frozen BK530.out 11
   go_wp2_with (first | ((with_reducible refine gate_callee (f := 41) rfl ?_); refine Short.gL (some 6) Try.func41 #[.int .i64 a0_6, .int .i64 1] (h := ?_); (with_reducible refine (raddleref01_fits.calls a0_6 1 true _ A4.out).mono ?_); rintro e w' ⟨rfl, ⟨nd, rfl⟩⟩; refine ⟨_, rfl, ?_⟩) | (go_at_call 42; (with_reducible refine (raddleref01_dotFits.calls a0_0 a0_1 true _ A6.out).mono ?_); rintro e w48 ⟨rfl, hb⟩; have n0_ := mk_ (bB_ BK530 hb); have n1_ := mk_ (below_step (Short.hB HB) hb); clear BK530 HB; revert n0_ n1_; intro BK530 HB; (try clear hb); (try clear hb2); (try clear hk); (try clear hi); have hcz49_0 : w48.cell? ⟨gb530, 0, none⟩ = some (.int .i64 a0_0) := kc_ BK530 0; have hcz49_1 : w48.cell? ⟨gb530, 1, none⟩ = some (.int .i64 a0_1) := kc_ BK530 1; have hcz49_2 : w48.cell? ⟨gb530, 2, none⟩ = some (.slice A0_2 l0_2.length c0_2) := kc_ BK530 2; have hcz49_3 : w48.cell? ⟨gb530, 3, none⟩ = some (.int .i64 a0_3) := kc_ BK530 3; have hcz49_4 : w48.cell? ⟨gb530, 4, none⟩ = some (.int .i64 a0_4) := kc_ BK530 4; have hcz49_5 : w48.cell? ⟨gb530, 5, none⟩ = some (.int .i64 a0_5) := kc_ BK530 5; have hcz49_6 : w48.cell? ⟨gb530, 6, none⟩ = some (.int .i64 a0_6) := kc_ BK530 6; have hcz49_7 : w48.cell? ⟨gb530, 7, none⟩ = some (.int .i64 a0_7) := kc_ BK530 7; have hcz49_8 : w48.cell? ⟨gb530, 8, none⟩ = some (.string a0_8) := kc_ BK530 8; have hcz49_9 : w48.cell? ⟨gb530, 9, none⟩ = some (.int .i64 a0_9) := kc_ BK530 9; have hcz49_10 : w48.cell? ⟨gb530, 10, none⟩ = some (.slice A0_10 l0_10.length c0_10) := kc_ BK530 10; have hcz49_11 : w48.cell? ⟨gb530, 11, none⟩ = some (.slice A0_11 l0_11.length c0_11) := kc_ BK530 11; have hfz49_0 := blk_frozen BK530.out 0; have hfz49_1 := blk_frozen BK530.out 1; have hfz49_2 := blk_frozen BK530.out 2; have hfz49_3 := blk_frozen BK530.out 3; have hfz49_4 := blk_frozen BK530.out 4; have hfz49_5 := blk_frozen BK530.out 5; have hfz49_6 := blk_frozen BK530.out 6; have hfz49_7 := blk_frozen BK530.out 7; have hfz49_8 := blk_frozen BK530.out 8; have hfz49_9 := blk_frozen BK530.out 9; have hfz49_10 := blk_frozen BK530.out 10; have hfz49_11 := blk_frozen BK530.out 11) | (go_at_call 43; (with_reducible refine (raddleref01_vectorFits.calls k _ _ l0_2 true _ ?side1 ?side2 A8.out).mono ?_); (case side1 => exact cX_ (C_below HR0_2.out HB.out)); (case side2 => exact HC0_2.out); rintro e w' ⟨rfl, ⟨nd, rfl⟩⟩) | (go_at_call 44; (with_reducible refine (raddleref01_stampFits.calls a0_3 a0_4 a0_5 false _ A10.out).mono ?_); rintro e w50 ⟨rfl, hb⟩; have n0_ := mk_ (bB_ BK530 hb); have n1_ := mk_ (below_step (Short.hB HB) hb); clear BK530 HB; revert n0_ n1_; intro BK530 HB; (try clear hb); (try clear hb2); (try clear hk); (try clear hi)))
   go_meet
   case rel => exact ⟨_, (true), z3, H', ⟨by first | omega | exact Nat.le_refl _⟩, ⟨by (with_reducible repeat (first | refine blk_drewN ?_ _ | refine blk_drew ?_ | refine blk_alloc ?_ _)); exact BK530.out⟩, ⟨Short.hB HB⟩⟩
  subst c11
  have H1 : ((raddleref01_fits.f a0_7 1).bind fun t535 => (if t535 = true then (if (a0_8.size : Int) > 24 then (raddleref01_OpFits.j0 k true a0_0 a0_1 l0_2 a0_3 a0_4 a0_5 a0_6 a0_7 a0_8 a0_9 l0_10 l0_11) else ((raddleref01_fits.f a0_9 1).bind fun t536 => (if t536 = true then ((raddleref01_Row.f k l0_10).bind fun t537 => (if t537 = 0 then (raddleref01_OpFits.j0 k (decide ((l0_11.length : Int) > 64)) a0_0 a0_1 l0_2 a0_3 a0_4 a0_5 a0_6 a0_7 a0_8 a0_9 l0_10 l0_11) else (raddleref01_OpFits.j0 k true a0_0 a0_1 l0_2 a0_3 a0_4 a0_5 a0_6 a0_7 a0_8 a0_9 l0_10 l0_11))) else (raddleref01_OpFits.j0 k true a0_0 a0_1 l0_2 a0_3 a0_4 a0_5 a0_6 a0_7 a0_8 a0_9 l0_10 l0_11)))) else (raddleref01_OpFits.j0 k true a0_0 a0_1 l0_2 a0_3 a0_4 a0_5 a0_6 a0_7 a0_8 a0_9 l0_10 l0_11))) = some r := by rw [if_pos rfl] at H; exact H
  clear H
  have H := H1
  clear H1
  replace H := Option.bind_eq_some_iff.mp H
  obtain ⟨t535, A120, H⟩ := H
  replace H : (if t535 = true then (if (a0_8.size : Int) > 24 then (raddleref01_OpFits.j0 k true a0_0 a0_1 l0_2 a0_3 a0_4 a0_5 a0_6 a0_7 a0_8 a0_9 l0_10 l0_11) else ((raddleref01_fits.f a0_9 1).bind fun t536 => (if t536 = true then ((raddleref01_Row.f k l0_10).bind fun t537 => (if t537 = 0 then (raddleref01_OpFits.j0 k (decide ((l0_11.length : Int) > 64)) a0_0 a0_1 l0_2 a0_3 a0_4 a0_5 a0_6 a0_7 a0_8 a0_9 l0_10 l0_11) else (raddleref01_OpFits.j0 k true a0_0 a0_1 l0_2 a0_3 a0_4 a0_5 a0_6 a0_7 a0_8 a0_9 l0_10 l0_11))) else (raddleref01_OpFits.j0 k true a0_0 a0_1 l0_2 a0_3 a0_4 a0_5 a0_6 a0_7 a0_8 a0_9 l0_10 l0_11)))) else (raddleref01_OpFits.j0 k true a0_0 a0_1 l0_2 a0_3 a0_4 a0_5 a0_6 a0_7 a0_8 a0_9 l0_10 l0_11)) = some r := H
  have A12 := mk_ A120
  clear A120
  by_cases c13 : t535 = true
  rotate_left
  ·
   replace c13 := Bool.eq_false_iff.mpr c13
   subst c13
   have H1 : (raddleref01_OpFits.j0 k true a0_0 a0_1 l0_2 a0_3 a0_4 a0_5 a0_6 a0_7 a0_8 a0_9 l0_10 l0_11) = some r := by rw [if_neg (show ¬ (false = true) by decide)] at H; exact H
   clear H
   have H := H1
   clear H1
   have H' := mk_ H
   clear H
   have hcz42_0 : w3.cell? ⟨gb530, 0, none⟩ = some (.int .i64 a0_0) := kc_ BK530 0
   have hcz42_1 : w3.cell? ⟨gb530, 1, none⟩ = some (.int .i64 a0_1) := kc_ BK530 1
   have hcz42_2 : w3.cell? ⟨gb530, 2, none⟩ = some (.slice A0_2 l0_2.length c0_2) := kc_ BK530 2
   have hcz42_3 : w3.cell? ⟨gb530, 3, none⟩ = some (.int .i64 a0_3) := kc_ BK530 3
   have hcz42_4 : w3.cell? ⟨gb530, 4, none⟩ = some (.int .i64 a0_4) := kc_ BK530 4
   have hcz42_5 : w3.cell? ⟨gb530, 5, none⟩ = some (.int .i64 a0_5) := kc_ BK530 5
   have hcz42_6 : w3.cell? ⟨gb530, 6, none⟩ = some (.int .i64 a0_6) := kc_ BK530 6
   have hcz42_7 : w3.cell? ⟨gb530, 7, none⟩ = some (.int .i64 a0_7) := kc_ BK530 7
   have hcz42_8 : w3.cell? ⟨gb530, 8, none⟩ = some (.string a0_8) := kc_ BK530 8
   have hcz42_9 : w3.cell? ⟨gb530, 9, none⟩ = some (.int .i64 a0_9) := kc_ BK530 9
   have hcz42_10 : w3.cell? ⟨gb530, 10, none⟩ = some (.slice A0_10 l0_10.length c0_10) := kc_ BK530 10
   have hcz42_11 : w3.cell? ⟨gb530, 11, none⟩ = some (.slice A0_11 l0_11.length c0_11) := kc_ BK530 11
   have hfz42_0 := blk_frozen BK530.out 0
   have hfz42_1 := blk_frozen BK530.out 1
   have hfz42_2 := blk_frozen BK530.out 2
   have hfz42_3 := blk_frozen BK530.out 3
   have hfz42_4 := blk_frozen BK530.out 4
   have hfz42_5 := blk_frozen BK530.out 5
   have hfz42_6 := blk_frozen BK530.out 6
   have hfz42_7 := blk_frozen BK530.out 7
   have hfz42_8 := blk_frozen BK530.out 8
   have hfz42_9 := blk_frozen BK530.out 9
   have hfz42_10 := blk_frozen BK530.out 10
   have hfz42_11 := blk_frozen BK530.out 11
   go_wp2_with (first | ((with_reducible refine gate_callee (f := 41) rfl ?_); refine Short.gL (some 6) Try.func41 #[.int .i64 a0_6, .int .i64 1] (h := ?_); (with_reducible refine (raddleref01_fits.calls a0_6 1 true _ A4.out).mono ?_); rintro e w' ⟨rfl, ⟨nd, rfl⟩⟩; refine ⟨_, rfl, ?_⟩) | (go_at_call 42; (with_reducible refine (raddleref01_dotFits.calls a0_0 a0_1 true _ A6.out).mono ?_); rintro e w43 ⟨rfl, hb⟩; have n0_ := mk_ (bB_ BK530 hb); have n1_ := mk_ (below_step (Short.hB HB) hb); clear BK530 HB; revert n0_ n1_; intro BK530 HB; (try clear hb); (try clear hb2); (try clear hk); (try clear hi); have hcz44_0 : w43.cell? ⟨gb530, 0, none⟩ = some (.int .i64 a0_0) := kc_ BK530 0; have hcz44_1 : w43.cell? ⟨gb530, 1, none⟩ = some (.int .i64 a0_1) := kc_ BK530 1; have hcz44_2 : w43.cell? ⟨gb530, 2, none⟩ = some (.slice A0_2 l0_2.length c0_2) := kc_ BK530 2; have hcz44_3 : w43.cell? ⟨gb530, 3, none⟩ = some (.int .i64 a0_3) := kc_ BK530 3; have hcz44_4 : w43.cell? ⟨gb530, 4, none⟩ = some (.int .i64 a0_4) := kc_ BK530 4; have hcz44_5 : w43.cell? ⟨gb530, 5, none⟩ = some (.int .i64 a0_5) := kc_ BK530 5; have hcz44_6 : w43.cell? ⟨gb530, 6, none⟩ = some (.int .i64 a0_6) := kc_ BK530 6; have hcz44_7 : w43.cell? ⟨gb530, 7, none⟩ = some (.int .i64 a0_7) := kc_ BK530 7; have hcz44_8 : w43.cell? ⟨gb530, 8, none⟩ = some (.string a0_8) := kc_ BK530 8; have hcz44_9 : w43.cell? ⟨gb530, 9, none⟩ = some (.int .i64 a0_9) := kc_ BK530 9; have hcz44_10 : w43.cell? ⟨gb530, 10, none⟩ = some (.slice A0_10 l0_10.length c0_10) := kc_ BK530 10; have hcz44_11 : w43.cell? ⟨gb530, 11, none⟩ = some (.slice A0_11 l0_11.length c0_11) := kc_ BK530 11; have hfz44_0 := blk_frozen BK530.out 0; have hfz44_1 := blk_frozen BK530.out 1; have hfz44_2 := blk_frozen BK530.out 2; have hfz44_3 := blk_frozen BK530.out 3; have hfz44_4 := blk_frozen BK530.out 4; have hfz44_5 := blk_frozen BK530.out 5; have hfz44_6 := blk_frozen BK530.out 6; have hfz44_7 := blk_frozen BK530.out 7; have hfz44_8 := blk_frozen BK530.out 8; have hfz44_9 := blk_frozen BK530.out 9; have hfz44_10 := blk_frozen BK530.out 10; have hfz44_11 := blk_frozen BK530.out 11) | (go_at_call 43; (with_reducible refine (raddleref01_vectorFits.calls k _ _ l0_2 true _ ?side1 ?side2 A8.out).mono ?_); (case side1 => exact cX_ (C_below HR0_2.out HB.out)); (case side2 => exact HC0_2.out); rintro e w' ⟨rfl, ⟨nd, rfl⟩⟩) | (go_at_call 44; (with_reducible refine (raddleref01_stampFits.calls a0_3 a0_4 a0_5 true _ A10.out).mono ?_); rintro e w45 ⟨rfl, hb⟩; have n0_ := mk_ (bB_ BK530 hb); have n1_ := mk_ (below_step (Short.hB HB) hb); clear BK530 HB; revert n0_ n1_; intro BK530 HB; (try clear hb); (try clear hb2); (try clear hk); (try clear hi); have hcz46_0 : w45.cell? ⟨gb530, 0, none⟩ = some (.int .i64 a0_0) := kc_ BK530 0; have hcz46_1 : w45.cell? ⟨gb530, 1, none⟩ = some (.int .i64 a0_1) := kc_ BK530 1; have hcz46_2 : w45.cell? ⟨gb530, 2, none⟩ = some (.slice A0_2 l0_2.length c0_2) := kc_ BK530 2; have hcz46_3 : w45.cell? ⟨gb530, 3, none⟩ = some (.int .i64 a0_3) := kc_ BK530 3; have hcz46_4 : w45.cell? ⟨gb530, 4, none⟩ = some (.int .i64 a0_4) := kc_ BK530 4; have hcz46_5 : w45.cell? ⟨gb530, 5, none⟩ = some (.int .i64 a0_5) := kc_ BK530 5; have hcz46_6 : w45.cell? ⟨gb530, 6, none⟩ = some (.int .i64 a0_6) := kc_ BK530 6; have hcz46_7 : w45.cell? ⟨gb530, 7, none⟩ = some (.int .i64 a0_7) := kc_ BK530 7; have hcz46_8 : w45.cell? ⟨gb530, 8, none⟩ = some (.string a0_8) := kc_ BK530 8; have hcz46_9 : w45.cell? ⟨gb530, 9, none⟩ = some (.int .i64 a0_9) := kc_ BK530 9; have hcz46_10 : w45.cell? ⟨gb530, 10, none⟩ = some (.slice A0_10 l0_10.length c0_10) := kc_ BK530 10; have hcz46_11 : w45.cell? ⟨gb530, 11, none⟩ = some (.slice A0_11 l0_11.length c0_11) := kc_ BK530 11; have hfz46_0 := blk_frozen BK530.out 0; have hfz46_1 := blk_frozen BK530.out 1; have hfz46_2 := blk_frozen BK530.out 2; have hfz46_3 := blk_frozen BK530.out 3; have hfz46_4 := blk_frozen BK530.out 4; have hfz46_5 := blk_frozen BK530.out 5; have hfz46_6 := blk_frozen BK530.out 6; have hfz46_7 := blk_frozen BK530.out 7; have hfz46_8 := blk_frozen BK530.out 8; have hfz46_9 := blk_frozen BK530.out 9; have hfz46_10 := blk_frozen BK530.out 10; have hfz46_11 := blk_frozen BK530.out 11) | (go_at_call 41; (with_reducible refine (raddleref01_fits.calls a0_7 1 false _ A12.out).mono ?_); rintro e w' ⟨rfl, ⟨nd, rfl⟩⟩))
   go_meet
   case rel => exact ⟨_, (true), z3, H', ⟨by first | omega | exact Nat.le_refl _⟩, ⟨by (with_reducible repeat (first | refine blk_drewN ?_ _ | refine blk_drew ?_ | refine blk_alloc ?_ _)); exact BK530.out⟩, ⟨Short.hB HB⟩⟩
  subst c13
  have H1 : (if (a0_8.size : Int) > 24 then (raddleref01_OpFits.j0 k true a0_0 a0_1 l0_2 a0_3 a0_4 a0_5 a0_6 a0_7 a0_8 a0_9 l0_10 l0_11) else ((raddleref01_fits.f a0_9 1).bind fun t536 => (if t536 = true then ((raddleref01_Row.f k l0_10).bind fun t537 => (if t537 = 0 then (raddleref01_OpFits.j0 k (decide ((l0_11.length : Int) > 64)) a0_0 a0_1 l0_2 a0_3 a0_4 a0_5 a0_6 a0_7 a0_8 a0_9 l0_10 l0_11) else (raddleref01_OpFits.j0 k true a0_0 a0_1 l0_2 a0_3 a0_4 a0_5 a0_6 a0_7 a0_8 a0_9 l0_10 l0_11))) else (raddleref01_OpFits.j0 k true a0_0 a0_1 l0_2 a0_3 a0_4 a0_5 a0_6 a0_7 a0_8 a0_9 l0_10 l0_11)))) = some r := by rw [if_pos rfl] at H; exact H
  clear H
  have H := H1
  clear H1
  by_cases c14 : (a0_8.size : Int) > 24
  ·
   rw [if_pos c14] at H
   have c14b0 : decide (24 < (a0_8.size : Int)) = true := decide_eq_true c14
   have c14b1 : decide (24 < a0_8.size) = true := decide_eq_true z4
   clear c14
   (first | rw [c14b0] | (simp only [i64_w, i32_w]; rw [c14b0]) | skip)
   have H' := mk_ H
   clear H
   have hcz15_0 : w3.cell? ⟨gb530, 0, none⟩ = some (.int .i64 a0_0) := kc_ BK530 0
   have hcz15_1 : w3.cell? ⟨gb530, 1, none⟩ = some (.int .i64 a0_1) := kc_ BK530 1
   have hcz15_2 : w3.cell? ⟨gb530, 2, none⟩ = some (.slice A0_2 l0_2.length c0_2) := kc_ BK530 2
   have hcz15_3 : w3.cell? ⟨gb530, 3, none⟩ = some (.int .i64 a0_3) := kc_ BK530 3
   have hcz15_4 : w3.cell? ⟨gb530, 4, none⟩ = some (.int .i64 a0_4) := kc_ BK530 4
   have hcz15_5 : w3.cell? ⟨gb530, 5, none⟩ = some (.int .i64 a0_5) := kc_ BK530 5
   have hcz15_6 : w3.cell? ⟨gb530, 6, none⟩ = some (.int .i64 a0_6) := kc_ BK530 6
   have hcz15_7 : w3.cell? ⟨gb530, 7, none⟩ = some (.int .i64 a0_7) := kc_ BK530 7
   have hcz15_8 : w3.cell? ⟨gb530, 8, none⟩ = some (.string a0_8) := kc_ BK530 8
   have hcz15_9 : w3.cell? ⟨gb530, 9, none⟩ = some (.int .i64 a0_9) := kc_ BK530 9
   have hcz15_10 : w3.cell? ⟨gb530, 10, none⟩ = some (.slice A0_10 l0_10.length c0_10) := kc_ BK530 10
   have hcz15_11 : w3.cell? ⟨gb530, 11, none⟩ = some (.slice A0_11 l0_11.length c0_11) := kc_ BK530 11
   have hfz15_0 := blk_frozen BK530.out 0
   have hfz15_1 := blk_frozen BK530.out 1
   have hfz15_2 := blk_frozen BK530.out 2
   have hfz15_3 := blk_frozen BK530.out 3
   have hfz15_4 := blk_frozen BK530.out 4
   have hfz15_5 := blk_frozen BK530.out 5
   have hfz15_6 := blk_frozen BK530.out 6
   have hfz15_7 := blk_frozen BK530.out 7
   have hfz15_8 := blk_frozen BK530.out 8
   have hfz15_9 := blk_frozen BK530.out 9
   have hfz15_10 := blk_frozen BK530.out 10
   have hfz15_11 := blk_frozen BK530.out 11
   go_wp2_with (first | ((with_reducible refine gate_callee (f := 41) rfl ?_); refine Short.gL (some 6) Try.func41 #[.int .i64 a0_6, .int .i64 1] (h := ?_); (with_reducible refine (raddleref01_fits.calls a0_6 1 true _ A4.out).mono ?_); rintro e w' ⟨rfl, ⟨nd, rfl⟩⟩; refine ⟨_, rfl, ?_⟩) | (go_at_call 42; (with_reducible refine (raddleref01_dotFits.calls a0_0 a0_1 true _ A6.out).mono ?_); rintro e w16 ⟨rfl, hb⟩; have n0_ := mk_ (bB_ BK530 hb); have n1_ := mk_ (below_step (Short.hB HB) hb); clear BK530 HB; revert n0_ n1_; intro BK530 HB; (try clear hb); (try clear hb2); (try clear hk); (try clear hi); have hcz17_0 : w16.cell? ⟨gb530, 0, none⟩ = some (.int .i64 a0_0) := kc_ BK530 0; have hcz17_1 : w16.cell? ⟨gb530, 1, none⟩ = some (.int .i64 a0_1) := kc_ BK530 1; have hcz17_2 : w16.cell? ⟨gb530, 2, none⟩ = some (.slice A0_2 l0_2.length c0_2) := kc_ BK530 2; have hcz17_3 : w16.cell? ⟨gb530, 3, none⟩ = some (.int .i64 a0_3) := kc_ BK530 3; have hcz17_4 : w16.cell? ⟨gb530, 4, none⟩ = some (.int .i64 a0_4) := kc_ BK530 4; have hcz17_5 : w16.cell? ⟨gb530, 5, none⟩ = some (.int .i64 a0_5) := kc_ BK530 5; have hcz17_6 : w16.cell? ⟨gb530, 6, none⟩ = some (.int .i64 a0_6) := kc_ BK530 6; have hcz17_7 : w16.cell? ⟨gb530, 7, none⟩ = some (.int .i64 a0_7) := kc_ BK530 7; have hcz17_8 : w16.cell? ⟨gb530, 8, none⟩ = some (.string a0_8) := kc_ BK530 8; have hcz17_9 : w16.cell? ⟨gb530, 9, none⟩ = some (.int .i64 a0_9) := kc_ BK530 9; have hcz17_10 : w16.cell? ⟨gb530, 10, none⟩ = some (.slice A0_10 l0_10.length c0_10) := kc_ BK530 10; have hcz17_11 : w16.cell? ⟨gb530, 11, none⟩ = some (.slice A0_11 l0_11.length c0_11) := kc_ BK530 11; have hfz17_0 := blk_frozen BK530.out 0; have hfz17_1 := blk_frozen BK530.out 1; have hfz17_2 := blk_frozen BK530.out 2; have hfz17_3 := blk_frozen BK530.out 3; have hfz17_4 := blk_frozen BK530.out 4; have hfz17_5 := blk_frozen BK530.out 5; have hfz17_6 := blk_frozen BK530.out 6; have hfz17_7 := blk_frozen BK530.out 7; have hfz17_8 := blk_frozen BK530.out 8; have hfz17_9 := blk_frozen BK530.out 9; have hfz17_10 := blk_frozen BK530.out 10; have hfz17_11 := blk_frozen BK530.out 11) | (go_at_call 43; (with_reducible refine (raddleref01_vectorFits.calls k _ _ l0_2 true _ ?side1 ?side2 A8.out).mono ?_); (case side1 => exact cX_ (C_below HR0_2.out HB.out)); (case side2 => exact HC0_2.out); rintro e w' ⟨rfl, ⟨nd, rfl⟩⟩) | (go_at_call 44; (with_reducible refine (raddleref01_stampFits.calls a0_3 a0_4 a0_5 true _ A10.out).mono ?_); rintro e w18 ⟨rfl, hb⟩; have n0_ := mk_ (bB_ BK530 hb); have n1_ := mk_ (below_step (Short.hB HB) hb); clear BK530 HB; revert n0_ n1_; intro BK530 HB; (try clear hb); (try clear hb2); (try clear hk); (try clear hi); have hcz19_0 : w18.cell? ⟨gb530, 0, none⟩ = some (.int .i64 a0_0) := kc_ BK530 0; have hcz19_1 : w18.cell? ⟨gb530, 1, none⟩ = some (.int .i64 a0_1) := kc_ BK530 1; have hcz19_2 : w18.cell? ⟨gb530, 2, none⟩ = some (.slice A0_2 l0_2.length c0_2) := kc_ BK530 2; have hcz19_3 : w18.cell? ⟨gb530, 3, none⟩ = some (.int .i64 a0_3) := kc_ BK530 3; have hcz19_4 : w18.cell? ⟨gb530, 4, none⟩ = some (.int .i64 a0_4) := kc_ BK530 4; have hcz19_5 : w18.cell? ⟨gb530, 5, none⟩ = some (.int .i64 a0_5) := kc_ BK530 5; have hcz19_6 : w18.cell? ⟨gb530, 6, none⟩ = some (.int .i64 a0_6) := kc_ BK530 6; have hcz19_7 : w18.cell? ⟨gb530, 7, none⟩ = some (.int .i64 a0_7) := kc_ BK530 7; have hcz19_8 : w18.cell? ⟨gb530, 8, none⟩ = some (.string a0_8) := kc_ BK530 8; have hcz19_9 : w18.cell? ⟨gb530, 9, none⟩ = some (.int .i64 a0_9) := kc_ BK530 9; have hcz19_10 : w18.cell? ⟨gb530, 10, none⟩ = some (.slice A0_10 l0_10.length c0_10) := kc_ BK530 10; have hcz19_11 : w18.cell? ⟨gb530, 11, none⟩ = some (.slice A0_11 l0_11.length c0_11) := kc_ BK530 11; have hfz19_0 := blk_frozen BK530.out 0; have hfz19_1 := blk_frozen BK530.out 1; have hfz19_2 := blk_frozen BK530.out 2; have hfz19_3 := blk_frozen BK530.out 3; have hfz19_4 := blk_frozen BK530.out 4; have hfz19_5 := blk_frozen BK530.out 5; have hfz19_6 := blk_frozen BK530.out 6; have hfz19_7 := blk_frozen BK530.out 7; have hfz19_8 := blk_frozen BK530.out 8; have hfz19_9 := blk_frozen BK530.out 9; have hfz19_10 := blk_frozen BK530.out 10; have hfz19_11 := blk_frozen BK530.out 11) | (go_at_call 41; (with_reducible refine (raddleref01_fits.calls a0_7 1 true _ A12.out).mono ?_); rintro e w' ⟨rfl, ⟨nd, rfl⟩⟩))
   go_meet
   case rel => exact ⟨_, (true), z3, H', ⟨by first | omega | exact Nat.le_refl _⟩, ⟨by (with_reducible repeat (first | refine blk_drewN ?_ _ | refine blk_drew ?_ | refine blk_alloc ?_ _)); exact BK530.out⟩, ⟨Short.hB HB⟩⟩
  rw [if_neg c14] at H
  have c14b0 : decide (24 < (a0_8.size : Int)) = false := decide_eq_false c14
  have c14b1 : decide (24 < a0_8.size) = false := decide_eq_false z4
  clear c14
  (first | rw [c14b0] | (simp only [i64_w, i32_w]; rw [c14b0]) | skip)
  replace H := Option.bind_eq_some_iff.mp H
  obtain ⟨t536, A200, H⟩ := H
  replace H : (if t536 = true then ((raddleref01_Row.f k l0_10).bind fun t537 => (if t537 = 0 then (raddleref01_OpFits.j0 k (decide ((l0_11.length : Int) > 64)) a0_0 a0_1 l0_2 a0_3 a0_4 a0_5 a0_6 a0_7 a0_8 a0_9 l0_10 l0_11) else (raddleref01_OpFits.j0 k true a0_0 a0_1 l0_2 a0_3 a0_4 a0_5 a0_6 a0_7 a0_8 a0_9 l0_10 l0_11))) else (raddleref01_OpFits.j0 k true a0_0 a0_1 l0_2 a0_3 a0_4 a0_5 a0_6 a0_7 a0_8 a0_9 l0_10 l0_11)) = some r := H
  have A20 := mk_ A200
  clear A200
  by_cases c21 : t536 = true
  rotate_left
  ·
   replace c21 := Bool.eq_false_iff.mpr c21
   subst c21
   have H1 : (raddleref01_OpFits.j0 k true a0_0 a0_1 l0_2 a0_3 a0_4 a0_5 a0_6 a0_7 a0_8 a0_9 l0_10 l0_11) = some r := by rw [if_neg (show ¬ (false = true) by decide)] at H; exact H
   clear H
   have H := H1
   clear H1
   have H' := mk_ H
   clear H
   have hcz37_0 : w3.cell? ⟨gb530, 0, none⟩ = some (.int .i64 a0_0) := kc_ BK530 0
   have hcz37_1 : w3.cell? ⟨gb530, 1, none⟩ = some (.int .i64 a0_1) := kc_ BK530 1
   have hcz37_2 : w3.cell? ⟨gb530, 2, none⟩ = some (.slice A0_2 l0_2.length c0_2) := kc_ BK530 2
   have hcz37_3 : w3.cell? ⟨gb530, 3, none⟩ = some (.int .i64 a0_3) := kc_ BK530 3
   have hcz37_4 : w3.cell? ⟨gb530, 4, none⟩ = some (.int .i64 a0_4) := kc_ BK530 4
   have hcz37_5 : w3.cell? ⟨gb530, 5, none⟩ = some (.int .i64 a0_5) := kc_ BK530 5
   have hcz37_6 : w3.cell? ⟨gb530, 6, none⟩ = some (.int .i64 a0_6) := kc_ BK530 6
   have hcz37_7 : w3.cell? ⟨gb530, 7, none⟩ = some (.int .i64 a0_7) := kc_ BK530 7
   have hcz37_8 : w3.cell? ⟨gb530, 8, none⟩ = some (.string a0_8) := kc_ BK530 8
   have hcz37_9 : w3.cell? ⟨gb530, 9, none⟩ = some (.int .i64 a0_9) := kc_ BK530 9
   have hcz37_10 : w3.cell? ⟨gb530, 10, none⟩ = some (.slice A0_10 l0_10.length c0_10) := kc_ BK530 10
   have hcz37_11 : w3.cell? ⟨gb530, 11, none⟩ = some (.slice A0_11 l0_11.length c0_11) := kc_ BK530 11
   have hfz37_0 := blk_frozen BK530.out 0
   have hfz37_1 := blk_frozen BK530.out 1
   have hfz37_2 := blk_frozen BK530.out 2
   have hfz37_3 := blk_frozen BK530.out 3
   have hfz37_4 := blk_frozen BK530.out 4
   have hfz37_5 := blk_frozen BK530.out 5
   have hfz37_6 := blk_frozen BK530.out 6
   have hfz37_7 := blk_frozen BK530.out 7
   have hfz37_8 := blk_frozen BK530.out 8
   have hfz37_9 := blk_frozen BK530.out 9
   have hfz37_10 := blk_frozen BK530.out 10
   have hfz37_11 := blk_frozen BK530.out 11
   go_wp2_with (first | ((with_reducible refine gate_callee (f := 41) rfl ?_); refine Short.gL (some 6) Try.func41 #[.int .i64 a0_6, .int .i64 1] (h := ?_); (with_reducible refine (raddleref01_fits.calls a0_6 1 true _ A4.out).mono ?_); rintro e w' ⟨rfl, ⟨nd, rfl⟩⟩; refine ⟨_, rfl, ?_⟩) | (go_at_call 42; (with_reducible refine (raddleref01_dotFits.calls a0_0 a0_1 true _ A6.out).mono ?_); rintro e w38 ⟨rfl, hb⟩; have n0_ := mk_ (bB_ BK530 hb); have n1_ := mk_ (below_step (Short.hB HB) hb); clear BK530 HB; revert n0_ n1_; intro BK530 HB; (try clear hb); (try clear hb2); (try clear hk); (try clear hi); have hcz39_0 : w38.cell? ⟨gb530, 0, none⟩ = some (.int .i64 a0_0) := kc_ BK530 0; have hcz39_1 : w38.cell? ⟨gb530, 1, none⟩ = some (.int .i64 a0_1) := kc_ BK530 1; have hcz39_2 : w38.cell? ⟨gb530, 2, none⟩ = some (.slice A0_2 l0_2.length c0_2) := kc_ BK530 2; have hcz39_3 : w38.cell? ⟨gb530, 3, none⟩ = some (.int .i64 a0_3) := kc_ BK530 3; have hcz39_4 : w38.cell? ⟨gb530, 4, none⟩ = some (.int .i64 a0_4) := kc_ BK530 4; have hcz39_5 : w38.cell? ⟨gb530, 5, none⟩ = some (.int .i64 a0_5) := kc_ BK530 5; have hcz39_6 : w38.cell? ⟨gb530, 6, none⟩ = some (.int .i64 a0_6) := kc_ BK530 6; have hcz39_7 : w38.cell? ⟨gb530, 7, none⟩ = some (.int .i64 a0_7) := kc_ BK530 7; have hcz39_8 : w38.cell? ⟨gb530, 8, none⟩ = some (.string a0_8) := kc_ BK530 8; have hcz39_9 : w38.cell? ⟨gb530, 9, none⟩ = some (.int .i64 a0_9) := kc_ BK530 9; have hcz39_10 : w38.cell? ⟨gb530, 10, none⟩ = some (.slice A0_10 l0_10.length c0_10) := kc_ BK530 10; have hcz39_11 : w38.cell? ⟨gb530, 11, none⟩ = some (.slice A0_11 l0_11.length c0_11) := kc_ BK530 11; have hfz39_0 := blk_frozen BK530.out 0; have hfz39_1 := blk_frozen BK530.out 1; have hfz39_2 := blk_frozen BK530.out 2; have hfz39_3 := blk_frozen BK530.out 3; have hfz39_4 := blk_frozen BK530.out 4; have hfz39_5 := blk_frozen BK530.out 5; have hfz39_6 := blk_frozen BK530.out 6; have hfz39_7 := blk_frozen BK530.out 7; have hfz39_8 := blk_frozen BK530.out 8; have hfz39_9 := blk_frozen BK530.out 9; have hfz39_10 := blk_frozen BK530.out 10; have hfz39_11 := blk_frozen BK530.out 11) | (go_at_call 43; (with_reducible refine (raddleref01_vectorFits.calls k _ _ l0_2 true _ ?side1 ?side2 A8.out).mono ?_); (case side1 => exact cX_ (C_below HR0_2.out HB.out)); (case side2 => exact HC0_2.out); rintro e w' ⟨rfl, ⟨nd, rfl⟩⟩) | (go_at_call 44; (with_reducible refine (raddleref01_stampFits.calls a0_3 a0_4 a0_5 true _ A10.out).mono ?_); rintro e w40 ⟨rfl, hb⟩; have n0_ := mk_ (bB_ BK530 hb); have n1_ := mk_ (below_step (Short.hB HB) hb); clear BK530 HB; revert n0_ n1_; intro BK530 HB; (try clear hb); (try clear hb2); (try clear hk); (try clear hi); have hcz41_0 : w40.cell? ⟨gb530, 0, none⟩ = some (.int .i64 a0_0) := kc_ BK530 0; have hcz41_1 : w40.cell? ⟨gb530, 1, none⟩ = some (.int .i64 a0_1) := kc_ BK530 1; have hcz41_2 : w40.cell? ⟨gb530, 2, none⟩ = some (.slice A0_2 l0_2.length c0_2) := kc_ BK530 2; have hcz41_3 : w40.cell? ⟨gb530, 3, none⟩ = some (.int .i64 a0_3) := kc_ BK530 3; have hcz41_4 : w40.cell? ⟨gb530, 4, none⟩ = some (.int .i64 a0_4) := kc_ BK530 4; have hcz41_5 : w40.cell? ⟨gb530, 5, none⟩ = some (.int .i64 a0_5) := kc_ BK530 5; have hcz41_6 : w40.cell? ⟨gb530, 6, none⟩ = some (.int .i64 a0_6) := kc_ BK530 6; have hcz41_7 : w40.cell? ⟨gb530, 7, none⟩ = some (.int .i64 a0_7) := kc_ BK530 7; have hcz41_8 : w40.cell? ⟨gb530, 8, none⟩ = some (.string a0_8) := kc_ BK530 8; have hcz41_9 : w40.cell? ⟨gb530, 9, none⟩ = some (.int .i64 a0_9) := kc_ BK530 9; have hcz41_10 : w40.cell? ⟨gb530, 10, none⟩ = some (.slice A0_10 l0_10.length c0_10) := kc_ BK530 10; have hcz41_11 : w40.cell? ⟨gb530, 11, none⟩ = some (.slice A0_11 l0_11.length c0_11) := kc_ BK530 11; have hfz41_0 := blk_frozen BK530.out 0; have hfz41_1 := blk_frozen BK530.out 1; have hfz41_2 := blk_frozen BK530.out 2; have hfz41_3 := blk_frozen BK530.out 3; have hfz41_4 := blk_frozen BK530.out 4; have hfz41_5 := blk_frozen BK530.out 5; have hfz41_6 := blk_frozen BK530.out 6; have hfz41_7 := blk_frozen BK530.out 7; have hfz41_8 := blk_frozen BK530.out 8; have hfz41_9 := blk_frozen BK530.out 9; have hfz41_10 := blk_frozen BK530.out 10; have hfz41_11 := blk_frozen BK530.out 11) | (go_at_call 41; (with_reducible refine (raddleref01_fits.calls a0_7 1 true _ A12.out).mono ?_); rintro e w' ⟨rfl, ⟨nd, rfl⟩⟩) | (go_at_call 41; (with_reducible refine (raddleref01_fits.calls a0_9 1 false _ A20.out).mono ?_); rintro e w' ⟨rfl, ⟨nd, rfl⟩⟩))
   go_meet
   case rel => exact ⟨_, (true), z3, H', ⟨by first | omega | exact Nat.le_refl _⟩, ⟨by (with_reducible repeat (first | refine blk_drewN ?_ _ | refine blk_drew ?_ | refine blk_alloc ?_ _)); exact BK530.out⟩, ⟨Short.hB HB⟩⟩
  subst c21
  have H1 : ((raddleref01_Row.f k l0_10).bind fun t537 => (if t537 = 0 then (raddleref01_OpFits.j0 k (decide ((l0_11.length : Int) > 64)) a0_0 a0_1 l0_2 a0_3 a0_4 a0_5 a0_6 a0_7 a0_8 a0_9 l0_10 l0_11) else (raddleref01_OpFits.j0 k true a0_0 a0_1 l0_2 a0_3 a0_4 a0_5 a0_6 a0_7 a0_8 a0_9 l0_10 l0_11))) = some r := by rw [if_pos rfl] at H; exact H
  clear H
  have H := H1
  clear H1
  replace H := Option.bind_eq_some_iff.mp H
  obtain ⟨t537, A220, H⟩ := H
  replace H : (if t537 = 0 then (raddleref01_OpFits.j0 k (decide ((l0_11.length : Int) > 64)) a0_0 a0_1 l0_2 a0_3 a0_4 a0_5 a0_6 a0_7 a0_8 a0_9 l0_10 l0_11) else (raddleref01_OpFits.j0 k true a0_0 a0_1 l0_2 a0_3 a0_4 a0_5 a0_6 a0_7 a0_8 a0_9 l0_10 l0_11)) = some r := H
  have A22 := mk_ A220
  clear A220
  by_cases c23 : t537 = 0
  rotate_left
  ·
   rw [if_neg c23] at H
   have c23b0 : (t537 == 0) = false := beq_eq_false_iff_ne.mpr c23
   have c23b1 : (t537 != 0) = true := bne_iff_ne.mpr c23
   have H' := mk_ H
   clear H
   have hcz31_0 : w3.cell? ⟨gb530, 0, none⟩ = some (.int .i64 a0_0) := kc_ BK530 0
   have hcz31_1 : w3.cell? ⟨gb530, 1, none⟩ = some (.int .i64 a0_1) := kc_ BK530 1
   have hcz31_2 : w3.cell? ⟨gb530, 2, none⟩ = some (.slice A0_2 l0_2.length c0_2) := kc_ BK530 2
   have hcz31_3 : w3.cell? ⟨gb530, 3, none⟩ = some (.int .i64 a0_3) := kc_ BK530 3
   have hcz31_4 : w3.cell? ⟨gb530, 4, none⟩ = some (.int .i64 a0_4) := kc_ BK530 4
   have hcz31_5 : w3.cell? ⟨gb530, 5, none⟩ = some (.int .i64 a0_5) := kc_ BK530 5
   have hcz31_6 : w3.cell? ⟨gb530, 6, none⟩ = some (.int .i64 a0_6) := kc_ BK530 6
   have hcz31_7 : w3.cell? ⟨gb530, 7, none⟩ = some (.int .i64 a0_7) := kc_ BK530 7
   have hcz31_8 : w3.cell? ⟨gb530, 8, none⟩ = some (.string a0_8) := kc_ BK530 8
   have hcz31_9 : w3.cell? ⟨gb530, 9, none⟩ = some (.int .i64 a0_9) := kc_ BK530 9
   have hcz31_10 : w3.cell? ⟨gb530, 10, none⟩ = some (.slice A0_10 l0_10.length c0_10) := kc_ BK530 10
   have hcz31_11 : w3.cell? ⟨gb530, 11, none⟩ = some (.slice A0_11 l0_11.length c0_11) := kc_ BK530 11
   have hfz31_0 := blk_frozen BK530.out 0
   have hfz31_1 := blk_frozen BK530.out 1
   have hfz31_2 := blk_frozen BK530.out 2
   have hfz31_3 := blk_frozen BK530.out 3
   have hfz31_4 := blk_frozen BK530.out 4
   have hfz31_5 := blk_frozen BK530.out 5
   have hfz31_6 := blk_frozen BK530.out 6
   have hfz31_7 := blk_frozen BK530.out 7
   have hfz31_8 := blk_frozen BK530.out 8
   have hfz31_9 := blk_frozen BK530.out 9
   have hfz31_10 := blk_frozen BK530.out 10
   have hfz31_11 := blk_frozen BK530.out 11
   go_wp2_with (first | ((with_reducible refine gate_callee (f := 41) rfl ?_); refine Short.gL (some 6) Try.func41 #[.int .i64 a0_6, .int .i64 1] (h := ?_); (with_reducible refine (raddleref01_fits.calls a0_6 1 true _ A4.out).mono ?_); rintro e w' ⟨rfl, ⟨nd, rfl⟩⟩; refine ⟨_, rfl, ?_⟩) | (go_at_call 42; (with_reducible refine (raddleref01_dotFits.calls a0_0 a0_1 true _ A6.out).mono ?_); rintro e w32 ⟨rfl, hb⟩; have n0_ := mk_ (bB_ BK530 hb); have n1_ := mk_ (below_step (Short.hB HB) hb); clear BK530 HB; revert n0_ n1_; intro BK530 HB; (try clear hb); (try clear hb2); (try clear hk); (try clear hi); have hcz33_0 : w32.cell? ⟨gb530, 0, none⟩ = some (.int .i64 a0_0) := kc_ BK530 0; have hcz33_1 : w32.cell? ⟨gb530, 1, none⟩ = some (.int .i64 a0_1) := kc_ BK530 1; have hcz33_2 : w32.cell? ⟨gb530, 2, none⟩ = some (.slice A0_2 l0_2.length c0_2) := kc_ BK530 2; have hcz33_3 : w32.cell? ⟨gb530, 3, none⟩ = some (.int .i64 a0_3) := kc_ BK530 3; have hcz33_4 : w32.cell? ⟨gb530, 4, none⟩ = some (.int .i64 a0_4) := kc_ BK530 4; have hcz33_5 : w32.cell? ⟨gb530, 5, none⟩ = some (.int .i64 a0_5) := kc_ BK530 5; have hcz33_6 : w32.cell? ⟨gb530, 6, none⟩ = some (.int .i64 a0_6) := kc_ BK530 6; have hcz33_7 : w32.cell? ⟨gb530, 7, none⟩ = some (.int .i64 a0_7) := kc_ BK530 7; have hcz33_8 : w32.cell? ⟨gb530, 8, none⟩ = some (.string a0_8) := kc_ BK530 8; have hcz33_9 : w32.cell? ⟨gb530, 9, none⟩ = some (.int .i64 a0_9) := kc_ BK530 9; have hcz33_10 : w32.cell? ⟨gb530, 10, none⟩ = some (.slice A0_10 l0_10.length c0_10) := kc_ BK530 10; have hcz33_11 : w32.cell? ⟨gb530, 11, none⟩ = some (.slice A0_11 l0_11.length c0_11) := kc_ BK530 11; have hfz33_0 := blk_frozen BK530.out 0; have hfz33_1 := blk_frozen BK530.out 1; have hfz33_2 := blk_frozen BK530.out 2; have hfz33_3 := blk_frozen BK530.out 3; have hfz33_4 := blk_frozen BK530.out 4; have hfz33_5 := blk_frozen BK530.out 5; have hfz33_6 := blk_frozen BK530.out 6; have hfz33_7 := blk_frozen BK530.out 7; have hfz33_8 := blk_frozen BK530.out 8; have hfz33_9 := blk_frozen BK530.out 9; have hfz33_10 := blk_frozen BK530.out 10; have hfz33_11 := blk_frozen BK530.out 11) | (go_at_call 43; (with_reducible refine (raddleref01_vectorFits.calls k _ _ l0_2 true _ ?side1 ?side2 A8.out).mono ?_); (case side1 => exact cX_ (C_below HR0_2.out HB.out)); (case side2 => exact HC0_2.out); rintro e w' ⟨rfl, ⟨nd, rfl⟩⟩) | (go_at_call 44; (with_reducible refine (raddleref01_stampFits.calls a0_3 a0_4 a0_5 true _ A10.out).mono ?_); rintro e w34 ⟨rfl, hb⟩; have n0_ := mk_ (bB_ BK530 hb); have n1_ := mk_ (below_step (Short.hB HB) hb); clear BK530 HB; revert n0_ n1_; intro BK530 HB; (try clear hb); (try clear hb2); (try clear hk); (try clear hi); have hcz35_0 : w34.cell? ⟨gb530, 0, none⟩ = some (.int .i64 a0_0) := kc_ BK530 0; have hcz35_1 : w34.cell? ⟨gb530, 1, none⟩ = some (.int .i64 a0_1) := kc_ BK530 1; have hcz35_2 : w34.cell? ⟨gb530, 2, none⟩ = some (.slice A0_2 l0_2.length c0_2) := kc_ BK530 2; have hcz35_3 : w34.cell? ⟨gb530, 3, none⟩ = some (.int .i64 a0_3) := kc_ BK530 3; have hcz35_4 : w34.cell? ⟨gb530, 4, none⟩ = some (.int .i64 a0_4) := kc_ BK530 4; have hcz35_5 : w34.cell? ⟨gb530, 5, none⟩ = some (.int .i64 a0_5) := kc_ BK530 5; have hcz35_6 : w34.cell? ⟨gb530, 6, none⟩ = some (.int .i64 a0_6) := kc_ BK530 6; have hcz35_7 : w34.cell? ⟨gb530, 7, none⟩ = some (.int .i64 a0_7) := kc_ BK530 7; have hcz35_8 : w34.cell? ⟨gb530, 8, none⟩ = some (.string a0_8) := kc_ BK530 8; have hcz35_9 : w34.cell? ⟨gb530, 9, none⟩ = some (.int .i64 a0_9) := kc_ BK530 9; have hcz35_10 : w34.cell? ⟨gb530, 10, none⟩ = some (.slice A0_10 l0_10.length c0_10) := kc_ BK530 10; have hcz35_11 : w34.cell? ⟨gb530, 11, none⟩ = some (.slice A0_11 l0_11.length c0_11) := kc_ BK530 11; have hfz35_0 := blk_frozen BK530.out 0; have hfz35_1 := blk_frozen BK530.out 1; have hfz35_2 := blk_frozen BK530.out 2; have hfz35_3 := blk_frozen BK530.out 3; have hfz35_4 := blk_frozen BK530.out 4; have hfz35_5 := blk_frozen BK530.out 5; have hfz35_6 := blk_frozen BK530.out 6; have hfz35_7 := blk_frozen BK530.out 7; have hfz35_8 := blk_frozen BK530.out 8; have hfz35_9 := blk_frozen BK530.out 9; have hfz35_10 := blk_frozen BK530.out 10; have hfz35_11 := blk_frozen BK530.out 11) | (go_at_call 41; (with_reducible refine (raddleref01_fits.calls a0_7 1 true _ A12.out).mono ?_); rintro e w' ⟨rfl, ⟨nd, rfl⟩⟩) | (go_at_call 41; (with_reducible refine (raddleref01_fits.calls a0_9 1 true _ A20.out).mono ?_); rintro e w' ⟨rfl, ⟨nd, rfl⟩⟩) | (go_at_call 45; (with_reducible refine (raddleref01_Row.calls k _ _ l0_10 t537 _ ?side1 ?side2 A22.out).mono ?_); (case side1 => exact cX_ (C_below HR0_10.out (Short.hB HB))); (case side2 => exact HC0_10.out); rintro e w36 ⟨rfl, hb⟩; have n0_ := mk_ (bB_ BK530 hb); have n1_ := mk_ (below_step (Short.hB HB) hb); clear BK530 HB; revert n0_ n1_; intro BK530 HB; (try clear hb); (try clear hb2); (try clear hk); (try clear hi)))
   go_meet
   case rel => exact ⟨_, (true), z3, H', ⟨by first | omega | exact Nat.le_refl _⟩, ⟨by (with_reducible repeat (first | refine blk_drewN ?_ _ | refine blk_drew ?_ | refine blk_alloc ?_ _)); exact BK530.out⟩, ⟨Short.hB HB⟩⟩
  rw [if_pos c23] at H
  have c23b0 : (t537 == 0) = true := beq_iff_eq.mpr c23
  have c23b1 : (t537 != 0) = false := bne_eq_false_iff_eq.mpr c23
  clear c23
  have H' := mk_ H
  clear H
  have hcz24_0 : w3.cell? ⟨gb530, 0, none⟩ = some (.int .i64 a0_0) := kc_ BK530 0
  have hcz24_1 : w3.cell? ⟨gb530, 1, none⟩ = some (.int .i64 a0_1) := kc_ BK530 1
  have hcz24_2 : w3.cell? ⟨gb530, 2, none⟩ = some (.slice A0_2 l0_2.length c0_2) := kc_ BK530 2
  have hcz24_3 : w3.cell? ⟨gb530, 3, none⟩ = some (.int .i64 a0_3) := kc_ BK530 3
  have hcz24_4 : w3.cell? ⟨gb530, 4, none⟩ = some (.int .i64 a0_4) := kc_ BK530 4
  have hcz24_5 : w3.cell? ⟨gb530, 5, none⟩ = some (.int .i64 a0_5) := kc_ BK530 5
  have hcz24_6 : w3.cell? ⟨gb530, 6, none⟩ = some (.int .i64 a0_6) := kc_ BK530 6
  have hcz24_7 : w3.cell? ⟨gb530, 7, none⟩ = some (.int .i64 a0_7) := kc_ BK530 7
  have hcz24_8 : w3.cell? ⟨gb530, 8, none⟩ = some (.string a0_8) := kc_ BK530 8
  have hcz24_9 : w3.cell? ⟨gb530, 9, none⟩ = some (.int .i64 a0_9) := kc_ BK530 9
  have hcz24_10 : w3.cell? ⟨gb530, 10, none⟩ = some (.slice A0_10 l0_10.length c0_10) := kc_ BK530 10
  have hcz24_11 : w3.cell? ⟨gb530, 11, none⟩ = some (.slice A0_11 l0_11.length c0_11) := kc_ BK530 11
  have hfz24_0 := blk_frozen BK530.out 0
  have hfz24_1 := blk_frozen BK530.out 1
  have hfz24_2 := blk_frozen BK530.out 2
  have hfz24_3 := blk_frozen BK530.out 3
  have hfz24_4 := blk_frozen BK530.out 4
  have hfz24_5 := blk_frozen BK530.out 5
  have hfz24_6 := blk_frozen BK530.out 6
  have hfz24_7 := blk_frozen BK530.out 7
  have hfz24_8 := blk_frozen BK530.out 8
  have hfz24_9 := blk_frozen BK530.out 9
  have hfz24_10 := blk_frozen BK530.out 10
  have hfz24_11 := blk_frozen BK530.out 11
  go_wp2_with (first | ((with_reducible refine gate_callee (f := 41) rfl ?_); refine Short.gL (some 6) Try.func41 #[.int .i64 a0_6, .int .i64 1] (h := ?_); (with_reducible refine (raddleref01_fits.calls a0_6 1 true _ A4.out).mono ?_); rintro e w' ⟨rfl, ⟨nd, rfl⟩⟩; refine ⟨_, rfl, ?_⟩) | (go_at_call 42; (with_reducible refine (raddleref01_dotFits.calls a0_0 a0_1 true _ A6.out).mono ?_); rintro e w25 ⟨rfl, hb⟩; have n0_ := mk_ (bB_ BK530 hb); have n1_ := mk_ (below_step (Short.hB HB) hb); clear BK530 HB; revert n0_ n1_; intro BK530 HB; (try clear hb); (try clear hb2); (try clear hk); (try clear hi); have hcz26_0 : w25.cell? ⟨gb530, 0, none⟩ = some (.int .i64 a0_0) := kc_ BK530 0; have hcz26_1 : w25.cell? ⟨gb530, 1, none⟩ = some (.int .i64 a0_1) := kc_ BK530 1; have hcz26_2 : w25.cell? ⟨gb530, 2, none⟩ = some (.slice A0_2 l0_2.length c0_2) := kc_ BK530 2; have hcz26_3 : w25.cell? ⟨gb530, 3, none⟩ = some (.int .i64 a0_3) := kc_ BK530 3; have hcz26_4 : w25.cell? ⟨gb530, 4, none⟩ = some (.int .i64 a0_4) := kc_ BK530 4; have hcz26_5 : w25.cell? ⟨gb530, 5, none⟩ = some (.int .i64 a0_5) := kc_ BK530 5; have hcz26_6 : w25.cell? ⟨gb530, 6, none⟩ = some (.int .i64 a0_6) := kc_ BK530 6; have hcz26_7 : w25.cell? ⟨gb530, 7, none⟩ = some (.int .i64 a0_7) := kc_ BK530 7; have hcz26_8 : w25.cell? ⟨gb530, 8, none⟩ = some (.string a0_8) := kc_ BK530 8; have hcz26_9 : w25.cell? ⟨gb530, 9, none⟩ = some (.int .i64 a0_9) := kc_ BK530 9; have hcz26_10 : w25.cell? ⟨gb530, 10, none⟩ = some (.slice A0_10 l0_10.length c0_10) := kc_ BK530 10; have hcz26_11 : w25.cell? ⟨gb530, 11, none⟩ = some (.slice A0_11 l0_11.length c0_11) := kc_ BK530 11; have hfz26_0 := blk_frozen BK530.out 0; have hfz26_1 := blk_frozen BK530.out 1; have hfz26_2 := blk_frozen BK530.out 2; have hfz26_3 := blk_frozen BK530.out 3; have hfz26_4 := blk_frozen BK530.out 4; have hfz26_5 := blk_frozen BK530.out 5; have hfz26_6 := blk_frozen BK530.out 6; have hfz26_7 := blk_frozen BK530.out 7; have hfz26_8 := blk_frozen BK530.out 8; have hfz26_9 := blk_frozen BK530.out 9; have hfz26_10 := blk_frozen BK530.out 10; have hfz26_11 := blk_frozen BK530.out 11) | (go_at_call 43; (with_reducible refine (raddleref01_vectorFits.calls k _ _ l0_2 true _ ?side1 ?side2 A8.out).mono ?_); (case side1 => exact cX_ (C_below HR0_2.out HB.out)); (case side2 => exact HC0_2.out); rintro e w' ⟨rfl, ⟨nd, rfl⟩⟩) | (go_at_call 44; (with_reducible refine (raddleref01_stampFits.calls a0_3 a0_4 a0_5 true _ A10.out).mono ?_); rintro e w27 ⟨rfl, hb⟩; have n0_ := mk_ (bB_ BK530 hb); have n1_ := mk_ (below_step (Short.hB HB) hb); clear BK530 HB; revert n0_ n1_; intro BK530 HB; (try clear hb); (try clear hb2); (try clear hk); (try clear hi); have hcz28_0 : w27.cell? ⟨gb530, 0, none⟩ = some (.int .i64 a0_0) := kc_ BK530 0; have hcz28_1 : w27.cell? ⟨gb530, 1, none⟩ = some (.int .i64 a0_1) := kc_ BK530 1; have hcz28_2 : w27.cell? ⟨gb530, 2, none⟩ = some (.slice A0_2 l0_2.length c0_2) := kc_ BK530 2; have hcz28_3 : w27.cell? ⟨gb530, 3, none⟩ = some (.int .i64 a0_3) := kc_ BK530 3; have hcz28_4 : w27.cell? ⟨gb530, 4, none⟩ = some (.int .i64 a0_4) := kc_ BK530 4; have hcz28_5 : w27.cell? ⟨gb530, 5, none⟩ = some (.int .i64 a0_5) := kc_ BK530 5; have hcz28_6 : w27.cell? ⟨gb530, 6, none⟩ = some (.int .i64 a0_6) := kc_ BK530 6; have hcz28_7 : w27.cell? ⟨gb530, 7, none⟩ = some (.int .i64 a0_7) := kc_ BK530 7; have hcz28_8 : w27.cell? ⟨gb530, 8, none⟩ = some (.string a0_8) := kc_ BK530 8; have hcz28_9 : w27.cell? ⟨gb530, 9, none⟩ = some (.int .i64 a0_9) := kc_ BK530 9; have hcz28_10 : w27.cell? ⟨gb530, 10, none⟩ = some (.slice A0_10 l0_10.length c0_10) := kc_ BK530 10; have hcz28_11 : w27.cell? ⟨gb530, 11, none⟩ = some (.slice A0_11 l0_11.length c0_11) := kc_ BK530 11; have hfz28_0 := blk_frozen BK530.out 0; have hfz28_1 := blk_frozen BK530.out 1; have hfz28_2 := blk_frozen BK530.out 2; have hfz28_3 := blk_frozen BK530.out 3; have hfz28_4 := blk_frozen BK530.out 4; have hfz28_5 := blk_frozen BK530.out 5; have hfz28_6 := blk_frozen BK530.out 6; have hfz28_7 := blk_frozen BK530.out 7; have hfz28_8 := blk_frozen BK530.out 8; have hfz28_9 := blk_frozen BK530.out 9; have hfz28_10 := blk_frozen BK530.out 10; have hfz28_11 := blk_frozen BK530.out 11) | (go_at_call 41; (with_reducible refine (raddleref01_fits.calls a0_7 1 true _ A12.out).mono ?_); rintro e w' ⟨rfl, ⟨nd, rfl⟩⟩) | (go_at_call 41; (with_reducible refine (raddleref01_fits.calls a0_9 1 true _ A20.out).mono ?_); rintro e w' ⟨rfl, ⟨nd, rfl⟩⟩) | (go_at_call 45; (with_reducible refine (raddleref01_Row.calls k _ _ l0_10 t537 _ ?side1 ?side2 A22.out).mono ?_); (case side1 => exact cX_ (C_below HR0_10.out (Short.hB HB))); (case side2 => exact HC0_10.out); rintro e w29 ⟨rfl, hb⟩; have n0_ := mk_ (bB_ BK530 hb); have n1_ := mk_ (below_step (Short.hB HB) hb); clear BK530 HB; revert n0_ n1_; intro BK530 HB; (try clear hb); (try clear hb2); (try clear hk); (try clear hi); have hcz30_0 : w29.cell? ⟨gb530, 0, none⟩ = some (.int .i64 a0_0) := kc_ BK530 0; have hcz30_1 : w29.cell? ⟨gb530, 1, none⟩ = some (.int .i64 a0_1) := kc_ BK530 1; have hcz30_2 : w29.cell? ⟨gb530, 2, none⟩ = some (.slice A0_2 l0_2.length c0_2) := kc_ BK530 2; have hcz30_3 : w29.cell? ⟨gb530, 3, none⟩ = some (.int .i64 a0_3) := kc_ BK530 3; have hcz30_4 : w29.cell? ⟨gb530, 4, none⟩ = some (.int .i64 a0_4) := kc_ BK530 4; have hcz30_5 : w29.cell? ⟨gb530, 5, none⟩ = some (.int .i64 a0_5) := kc_ BK530 5; have hcz30_6 : w29.cell? ⟨gb530, 6, none⟩ = some (.int .i64 a0_6) := kc_ BK530 6; have hcz30_7 : w29.cell? ⟨gb530, 7, none⟩ = some (.int .i64 a0_7) := kc_ BK530 7; have hcz30_8 : w29.cell? ⟨gb530, 8, none⟩ = some (.string a0_8) := kc_ BK530 8; have hcz30_9 : w29.cell? ⟨gb530, 9, none⟩ = some (.int .i64 a0_9) := kc_ BK530 9; have hcz30_10 : w29.cell? ⟨gb530, 10, none⟩ = some (.slice A0_10 l0_10.length c0_10) := kc_ BK530 10; have hcz30_11 : w29.cell? ⟨gb530, 11, none⟩ = some (.slice A0_11 l0_11.length c0_11) := kc_ BK530 11; have hfz30_0 := blk_frozen BK530.out 0; have hfz30_1 := blk_frozen BK530.out 1; have hfz30_2 := blk_frozen BK530.out 2; have hfz30_3 := blk_frozen BK530.out 3; have hfz30_4 := blk_frozen BK530.out 4; have hfz30_5 := blk_frozen BK530.out 5; have hfz30_6 := blk_frozen BK530.out 6; have hfz30_7 := blk_frozen BK530.out 7; have hfz30_8 := blk_frozen BK530.out 8; have hfz30_9 := blk_frozen BK530.out 9; have hfz30_10 := blk_frozen BK530.out 10; have hfz30_11 := blk_frozen BK530.out 11))
  go_meet
  case rel => exact ⟨_, (decide ((l0_11.length : Int) > 64)), z3, H', ⟨by first | omega | exact Nat.le_refl _⟩, ⟨by (with_reducible repeat (first | refine blk_drewN ?_ _ | refine blk_drew ?_ | refine blk_alloc ?_ _)); exact BK530.out⟩, ⟨Short.hB HB⟩⟩
 case rest => as_aux_lemma =>
  clear HC2
  try clear c1
  try clear c2
  try clear p2
  try clear c4
  try clear c5
  try clear c7
  try clear c9
  try clear c11
  try clear c13
  try clear c14
  try clear c14b0
  try clear c14b1
  try clear c21
  try clear c22
  try clear c23
  try clear c23b0
  try clear c23b1
  try clear c41
  try clear hcz15_0
  try clear hcz15_1
  try clear hcz15_10
  try clear hcz15_11
  try clear hcz15_2
  try clear hcz15_3
  try clear hcz15_4
  try clear hcz15_5
  try clear hcz15_6
  try clear hcz15_7
  try clear hcz15_8
  try clear hcz15_9
  try clear hcz17_0
  try clear hcz17_1
  try clear hcz17_10
  try clear hcz17_11
  try clear hcz17_2
  try clear hcz17_3
  try clear hcz17_4
  try clear hcz17_5
  try clear hcz17_6
  try clear hcz17_7
  try clear hcz17_8
  try clear hcz17_9
  try clear hcz19_0
  try clear hcz19_1
  try clear hcz19_10
  try clear hcz19_11
  try clear hcz19_2
  try clear hcz19_3
  try clear hcz19_4
  try clear hcz19_5
  try clear hcz19_6
  try clear hcz19_7
  try clear hcz19_8
  try clear hcz19_9
  try clear hcz24_0
  try clear hcz24_1
  try clear hcz24_10
  try clear hcz24_11
  try clear hcz24_2
  try clear hcz24_3
  try clear hcz24_4
  try clear hcz24_5
  try clear hcz24_6
  try clear hcz24_7
  try clear hcz24_8
  try clear hcz24_9
  try clear hcz26_0
  try clear hcz26_1
  try clear hcz26_10
  try clear hcz26_11
  try clear hcz26_2
  try clear hcz26_3
  try clear hcz26_4
  try clear hcz26_5
  try clear hcz26_6
  try clear hcz26_7
  try clear hcz26_8
  try clear hcz26_9
  try clear hcz28_0
  try clear hcz28_1
  try clear hcz28_10
  try clear hcz28_11
  try clear hcz28_2
  try clear hcz28_3
  try clear hcz28_4
  try clear hcz28_5
  try clear hcz28_6
  try clear hcz28_7
  try clear hcz28_8
  try clear hcz28_9
  try clear hcz30_0
  try clear hcz30_1
  try clear hcz30_10
  try clear hcz30_11
  try clear hcz30_2
  try clear hcz30_3
  try clear hcz30_4
  try clear hcz30_5
  try clear hcz30_6
  try clear hcz30_7
  try clear hcz30_8
  try clear hcz30_9
  try clear hcz31_0
  try clear hcz31_1
  try clear hcz31_10
  try clear hcz31_11
  try clear hcz31_2
  try clear hcz31_3
  try clear hcz31_4
  try clear hcz31_5
  try clear hcz31_6
  try clear hcz31_7
  try clear hcz31_8
  try clear hcz31_9
  try clear hcz33_0
  try clear hcz33_1
  try clear hcz33_10
  try clear hcz33_11
  try clear hcz33_2
  try clear hcz33_3
  try clear hcz33_4
  try clear hcz33_5
  try clear hcz33_6
  try clear hcz33_7
  try clear hcz33_8
  try clear hcz33_9
  try clear hcz35_0
  try clear hcz35_1
  try clear hcz35_10
  try clear hcz35_11
  try clear hcz35_2
  try clear hcz35_3
  try clear hcz35_4
  try clear hcz35_5
  try clear hcz35_6
  try clear hcz35_7
  try clear hcz35_8
  try clear hcz35_9
  try clear hcz37_0
  try clear hcz37_1
  try clear hcz37_10
  try clear hcz37_11
  try clear hcz37_2
  try clear hcz37_3
  try clear hcz37_4
  try clear hcz37_5
  try clear hcz37_6
  try clear hcz37_7
  try clear hcz37_8
  try clear hcz37_9
  try clear hcz39_0
  try clear hcz39_1
  try clear hcz39_10
  try clear hcz39_11
  try clear hcz39_2
  try clear hcz39_3
  try clear hcz39_4
  try clear hcz39_5
  try clear hcz39_6
  try clear hcz39_7
  try clear hcz39_8
  try clear hcz39_9
  try clear hcz41_0
  try clear hcz41_1
  try clear hcz41_10
  try clear hcz41_11
  try clear hcz41_2
  try clear hcz41_3
  try clear hcz41_4
  try clear hcz41_5
  try clear hcz41_6
  try clear hcz41_7
  try clear hcz41_8
  try clear hcz41_9
  try clear hcz42_0
  try clear hcz42_1
  try clear hcz42_10
  try clear hcz42_11
  try clear hcz42_2
  try clear hcz42_3
  try clear hcz42_4
  try clear hcz42_5
  try clear hcz42_6
  try clear hcz42_7
  try clear hcz42_8
  try clear hcz42_9
  try clear hcz44_0
  try clear hcz44_1
  try clear hcz44_10
  try clear hcz44_11
  try clear hcz44_2
  try clear hcz44_3
  try clear hcz44_4
  try clear hcz44_5
  try clear hcz44_6
  try clear hcz44_7
  try clear hcz44_8
  try clear hcz44_9
  try clear hcz46_0
  try clear hcz46_1
  try clear hcz46_10
  try clear hcz46_11
  try clear hcz46_2
  try clear hcz46_3
  try clear hcz46_4
  try clear hcz46_5
  try clear hcz46_6
  try clear hcz46_7
  try clear hcz46_8
  try clear hcz46_9
  try clear hcz47_0
  try clear hcz47_1
  try clear hcz47_10
  try clear hcz47_11
  try clear hcz47_2
  try clear hcz47_3
  try clear hcz47_4
  try clear hcz47_5
  try clear hcz47_6
  try clear hcz47_7
  try clear hcz47_8
  try clear hcz47_9
  try clear hcz49_0
  try clear hcz49_1
  try clear hcz49_10
  try clear hcz49_11
  try clear hcz49_2
  try clear hcz49_3
  try clear hcz49_4
  try clear hcz49_5
  try clear hcz49_6
  try clear hcz49_7
  try clear hcz49_8
  try clear hcz49_9
  try clear hcz51_0
  try clear hcz51_1
  try clear hcz51_10
  try clear hcz51_11
  try clear hcz51_2
  try clear hcz51_3
  try clear hcz51_4
  try clear hcz51_5
  try clear hcz51_6
  try clear hcz51_7
  try clear hcz51_8
  try clear hcz51_9
  try clear hcz53_0
  try clear hcz53_1
  try clear hcz53_10
  try clear hcz53_11
  try clear hcz53_2
  try clear hcz53_3
  try clear hcz53_4
  try clear hcz53_5
  try clear hcz53_6
  try clear hcz53_7
  try clear hcz53_8
  try clear hcz53_9
  try clear hcz54_0
  try clear hcz54_1
  try clear hcz54_10
  try clear hcz54_11
  try clear hcz54_2
  try clear hcz54_3
  try clear hcz54_4
  try clear hcz54_5
  try clear hcz54_6
  try clear hcz54_7
  try clear hcz54_8
  try clear hcz54_9
  try clear hcz56_0
  try clear hcz56_1
  try clear hcz56_10
  try clear hcz56_11
  try clear hcz56_2
  try clear hcz56_3
  try clear hcz56_4
  try clear hcz56_5
  try clear hcz56_6
  try clear hcz56_7
  try clear hcz56_8
  try clear hcz56_9
  try clear hfz15_0
  try clear hfz15_1
  try clear hfz15_10
  try clear hfz15_11
  try clear hfz15_2
  try clear hfz15_3
  try clear hfz15_4
  try clear hfz15_5
  try clear hfz15_6
  try clear hfz15_7
  try clear hfz15_8
  try clear hfz15_9
  try clear hfz17_0
  try clear hfz17_1
  try clear hfz17_10
  try clear hfz17_11
  try clear hfz17_2
  try clear hfz17_3
  try clear hfz17_4
  try clear hfz17_5
  try clear hfz17_6
  try clear hfz17_7
  try clear hfz17_8
  try clear hfz17_9
  try clear hfz19_0
  try clear hfz19_1
  try clear hfz19_10
  try clear hfz19_11
  try clear hfz19_2
  try clear hfz19_3
  try clear hfz19_4
  try clear hfz19_5
  try clear hfz19_6
  try clear hfz19_7
  try clear hfz19_8
  try clear hfz19_9
  try clear hfz24_0
  try clear hfz24_1
  try clear hfz24_10
  try clear hfz24_11
  try clear hfz24_2
  try clear hfz24_3
  try clear hfz24_4
  try clear hfz24_5
  try clear hfz24_6
  try clear hfz24_7
  try clear hfz24_8
  try clear hfz24_9
  try clear hfz26_0
  try clear hfz26_1
  try clear hfz26_10
  try clear hfz26_11
  try clear hfz26_2
  try clear hfz26_3
  try clear hfz26_4
  try clear hfz26_5
  try clear hfz26_6
  try clear hfz26_7
  try clear hfz26_8
  try clear hfz26_9
  try clear hfz28_0
  try clear hfz28_1
  try clear hfz28_10
  try clear hfz28_11
  try clear hfz28_2
  try clear hfz28_3
  try clear hfz28_4
  try clear hfz28_5
  try clear hfz28_6
  try clear hfz28_7
  try clear hfz28_8
  try clear hfz28_9
  try clear hfz30_0
  try clear hfz30_1
  try clear hfz30_10
  try clear hfz30_11
  try clear hfz30_2
  try clear hfz30_3
  try clear hfz30_4
  try clear hfz30_5
  try clear hfz30_6
  try clear hfz30_7
  try clear hfz30_8
  try clear hfz30_9
  try clear hfz31_0
  try clear hfz31_1
  try clear hfz31_10
  try clear hfz31_11
  try clear hfz31_2
  try clear hfz31_3
  try clear hfz31_4
  try clear hfz31_5
  try clear hfz31_6
  try clear hfz31_7
  try clear hfz31_8
  try clear hfz31_9
  try clear hfz33_0
  try clear hfz33_1
  try clear hfz33_10
  try clear hfz33_11
  try clear hfz33_2
  try clear hfz33_3
  try clear hfz33_4
  try clear hfz33_5
  try clear hfz33_6
  try clear hfz33_7
  try clear hfz33_8
  try clear hfz33_9
  try clear hfz35_0
  try clear hfz35_1
  try clear hfz35_10
  try clear hfz35_11
  try clear hfz35_2
  try clear hfz35_3
  try clear hfz35_4
  try clear hfz35_5
  try clear hfz35_6
  try clear hfz35_7
  try clear hfz35_8
  try clear hfz35_9
  try clear hfz37_0
  try clear hfz37_1
  try clear hfz37_10
  try clear hfz37_11
  try clear hfz37_2
  try clear hfz37_3
  try clear hfz37_4
  try clear hfz37_5
  try clear hfz37_6
  try clear hfz37_7
  try clear hfz37_8
  try clear hfz37_9
  try clear hfz39_0
  try clear hfz39_1
  try clear hfz39_10
  try clear hfz39_11
  try clear hfz39_2
  try clear hfz39_3
  try clear hfz39_4
  try clear hfz39_5
  try clear hfz39_6
  try clear hfz39_7
  try clear hfz39_8
  try clear hfz39_9
  try clear hfz41_0
  try clear hfz41_1
  try clear hfz41_10
  try clear hfz41_11
  try clear hfz41_2
  try clear hfz41_3
  try clear hfz41_4
  try clear hfz41_5
  try clear hfz41_6
  try clear hfz41_7
  try clear hfz41_8
  try clear hfz41_9
  try clear hfz42_0
  try clear hfz42_1
  try clear hfz42_10
  try clear hfz42_11
  try clear hfz42_2
  try clear hfz42_3
  try clear hfz42_4
  try clear hfz42_5
  try clear hfz42_6
  try clear hfz42_7
  try clear hfz42_8
  try clear hfz42_9
  try clear hfz44_0
  try clear hfz44_1
  try clear hfz44_10
  try clear hfz44_11
  try clear hfz44_2
  try clear hfz44_3
  try clear hfz44_4
  try clear hfz44_5
  try clear hfz44_6
  try clear hfz44_7
  try clear hfz44_8
  try clear hfz44_9
  try clear hfz46_0
  try clear hfz46_1
  try clear hfz46_10
  try clear hfz46_11
  try clear hfz46_2
  try clear hfz46_3
  try clear hfz46_4
  try clear hfz46_5
  try clear hfz46_6
  try clear hfz46_7
  try clear hfz46_8
  try clear hfz46_9
  try clear hfz47_0
  try clear hfz47_1
  try clear hfz47_10
  try clear hfz47_11
  try clear hfz47_2
  try clear hfz47_3
  try clear hfz47_4
  try clear hfz47_5
  try clear hfz47_6
  try clear hfz47_7
  try clear hfz47_8
  try clear hfz47_9
  try clear hfz49_0
  try clear hfz49_1
  try clear hfz49_10
  try clear hfz49_11
  try clear hfz49_2
  try clear hfz49_3
  try clear hfz49_4
  try clear hfz49_5
  try clear hfz49_6
  try clear hfz49_7
  try clear hfz49_8
  try clear hfz49_9
  try clear hfz51_0
  try clear hfz51_1
  try clear hfz51_10
  try clear hfz51_11
  try clear hfz51_2
  try clear hfz51_3
  try clear hfz51_4
  try clear hfz51_5
  try clear hfz51_6
  try clear hfz51_7
  try clear hfz51_8
  try clear hfz51_9
  try clear hfz53_0
  try clear hfz53_1
  try clear hfz53_10
  try clear hfz53_11
  try clear hfz53_2
  try clear hfz53_3
  try clear hfz53_4
  try clear hfz53_5
  try clear hfz53_6
  try clear hfz53_7
  try clear hfz53_8
  try clear hfz53_9
  try clear hfz54_0
  try clear hfz54_1
  try clear hfz54_10
  try clear hfz54_11
  try clear hfz54_2
  try clear hfz54_3
  try clear hfz54_4
  try clear hfz54_5
  try clear hfz54_6
  try clear hfz54_7
  try clear hfz54_8
  try clear hfz54_9
  try clear hfz56_0
  try clear hfz56_1
  try clear hfz56_10
  try clear hfz56_11
  try clear hfz56_2
  try clear hfz56_3
  try clear hfz56_4
  try clear hfz56_5
  try clear hfz56_6
  try clear hfz56_7
  try clear hfz56_8
  try clear hfz56_9
  obtain ⟨kq, x55_1, rfl, HA, HJ1, BK530, HB⟩ := hcut
  cases kq with
  | zero => exact absurd HA.out (by simp [raddleref01_OpFits.j0])
  | succ kj1 =>
   have H := HA.out
   clear HA
   simp only [raddleref01_OpFits.j0] at H
   by_cases c57 : x55_1 = true
   ·
    subst c57
    have H1 : (some false) = some r := by rw [if_pos rfl] at H; exact H
    clear H
    have H := H1
    clear H1
    obtain rfl := Option.some.inj H
    go_wp2
    go_ret
    exact ⟨q0, Short.hB HB⟩
   ·
    replace c57 := Bool.eq_false_iff.mpr c57
    subst c57
    have H1 : (raddleref01_OpFits.l0 kj1 0 a0_0 a0_1 l0_2 a0_3 a0_4 a0_5 a0_6 a0_7 a0_8 a0_9 l0_10 l0_11) = some r := by rw [if_neg (show ¬ (false = true) by decide)] at H; exact H
    clear H
    have H := H1
    clear H1
    have H' := mk_ H
    clear H
    go_wp2
    go_loopg [3] kj1 (fun kq v3 w' => ∃ (x3_2 : Int), v3 = .int .i64 x3_2 ∧ Aside0 (raddleref01_OpFits.l0 kq x3_2 a0_0 a0_1 l0_2 a0_3 a0_4 a0_5 a0_6 a0_7 a0_8 a0_9 l0_10 l0_11 = some r) ∧ Aside0 (kq ≤ kj1) ∧ Aside0 (w'.heap[gb530]? = some (.cells #[.int .i64 a0_0, .int .i64 a0_1, (.slice A0_2 l0_2.length c0_2), .int .i64 a0_3, .int .i64 a0_4, .int .i64 a0_5, .int .i64 a0_6, .int .i64 a0_7, .string a0_8, .int .i64 a0_9, (.slice A0_10 l0_10.length c0_10), (.slice A0_11 l0_11.length c0_11)] 32 (0, 0))) ∧ Aside0 (Below w.heap.size w w'))
    case atStart => exact ⟨(0), z3, H', ⟨Nat.le_refl _⟩, ⟨by (with_reducible repeat (first | refine blk_drewN ?_ _ | refine blk_drew ?_ | refine blk_alloc ?_ _)); exact BK530.out⟩, ⟨Short.hB HB⟩⟩
    case round =>
     clear H'
     try clear c1
     try clear c2
     try clear p2
     try clear c4
     try clear c5
     try clear c7
     try clear c9
     try clear c11
     try clear c13
     try clear c14
     try clear c14b0
     try clear c14b1
     try clear c21
     try clear c22
     try clear c23
     try clear c23b0
     try clear c23b1
     try clear c41
     try clear c57
     try clear hcz15_0
     try clear hcz15_1
     try clear hcz15_10
     try clear hcz15_11
     try clear hcz15_2
     try clear hcz15_3
     try clear hcz15_4
     try clear hcz15_5
     try clear hcz15_6
     try clear hcz15_7
     try clear hcz15_8
     try clear hcz15_9
     try clear hcz17_0
     try clear hcz17_1
     try clear hcz17_10
     try clear hcz17_11
     try clear hcz17_2
     try clear hcz17_3
     try clear hcz17_4
     try clear hcz17_5
     try clear hcz17_6
     try clear hcz17_7
     try clear hcz17_8
     try clear hcz17_9
     try clear hcz19_0
     try clear hcz19_1
     try clear hcz19_10
     try clear hcz19_11
     try clear hcz19_2
     try clear hcz19_3
     try clear hcz19_4
     try clear hcz19_5
     try clear hcz19_6
     try clear hcz19_7
     try clear hcz19_8
     try clear hcz19_9
     try clear hcz24_0
     try clear hcz24_1
     try clear hcz24_10
     try clear hcz24_11
     try clear hcz24_2
     try clear hcz24_3
     try clear hcz24_4
     try clear hcz24_5
     try clear hcz24_6
     try clear hcz24_7
     try clear hcz24_8
     try clear hcz24_9
     try clear hcz26_0
     try clear hcz26_1
     try clear hcz26_10
     try clear hcz26_11
     try clear hcz26_2
     try clear hcz26_3
     try clear hcz26_4
     try clear hcz26_5
     try clear hcz26_6
     try clear hcz26_7
     try clear hcz26_8
     try clear hcz26_9
     try clear hcz28_0
     try clear hcz28_1
     try clear hcz28_10
     try clear hcz28_11
     try clear hcz28_2
     try clear hcz28_3
     try clear hcz28_4
     try clear hcz28_5
     try clear hcz28_6
     try clear hcz28_7
     try clear hcz28_8
     try clear hcz28_9
     try clear hcz30_0
     try clear hcz30_1
     try clear hcz30_10
     try clear hcz30_11
     try clear hcz30_2
     try clear hcz30_3
     try clear hcz30_4
     try clear hcz30_5
     try clear hcz30_6
     try clear hcz30_7
     try clear hcz30_8
     try clear hcz30_9
     try clear hcz31_0
     try clear hcz31_1
     try clear hcz31_10
     try clear hcz31_11
     try clear hcz31_2
     try clear hcz31_3
     try clear hcz31_4
     try clear hcz31_5
     try clear hcz31_6
     try clear hcz31_7
     try clear hcz31_8
     try clear hcz31_9
     try clear hcz33_0
     try clear hcz33_1
     try clear hcz33_10
     try clear hcz33_11
     try clear hcz33_2
     try clear hcz33_3
     try clear hcz33_4
     try clear hcz33_5
     try clear hcz33_6
     try clear hcz33_7
     try clear hcz33_8
     try clear hcz33_9
     try clear hcz35_0
     try clear hcz35_1
     try clear hcz35_10
     try clear hcz35_11
     try clear hcz35_2
     try clear hcz35_3
     try clear hcz35_4
     try clear hcz35_5
     try clear hcz35_6
     try clear hcz35_7
     try clear hcz35_8
     try clear hcz35_9
     try clear hcz37_0
     try clear hcz37_1
     try clear hcz37_10
     try clear hcz37_11
     try clear hcz37_2
     try clear hcz37_3
     try clear hcz37_4
     try clear hcz37_5
     try clear hcz37_6
     try clear hcz37_7
     try clear hcz37_8
     try clear hcz37_9
     try clear hcz39_0
     try clear hcz39_1
     try clear hcz39_10
     try clear hcz39_11
     try clear hcz39_2
     try clear hcz39_3
     try clear hcz39_4
     try clear hcz39_5
     try clear hcz39_6
     try clear hcz39_7
     try clear hcz39_8
     try clear hcz39_9
     try clear hcz41_0
     try clear hcz41_1
     try clear hcz41_10
     try clear hcz41_11
     try clear hcz41_2
     try clear hcz41_3
     try clear hcz41_4
     try clear hcz41_5
     try clear hcz41_6
     try clear hcz41_7
     try clear hcz41_8
     try clear hcz41_9
     try clear hcz42_0
     try clear hcz42_1
     try clear hcz42_10
     try clear hcz42_11
     try clear hcz42_2
     try clear hcz42_3
     try clear hcz42_4
     try clear hcz42_5
     try clear hcz42_6
     try clear hcz42_7
     try clear hcz42_8
     try clear hcz42_9
     try clear hcz44_0
     try clear hcz44_1
     try clear hcz44_10
     try clear hcz44_11
     try clear hcz44_2
     try clear hcz44_3
     try clear hcz44_4
     try clear hcz44_5
     try clear hcz44_6
     try clear hcz44_7
     try clear hcz44_8
     try clear hcz44_9
     try clear hcz46_0
     try clear hcz46_1
     try clear hcz46_10
     try clear hcz46_11
     try clear hcz46_2
     try clear hcz46_3
     try clear hcz46_4
     try clear hcz46_5
     try clear hcz46_6
     try clear hcz46_7
     try clear hcz46_8
     try clear hcz46_9
     try clear hcz47_0
     try clear hcz47_1
     try clear hcz47_10
     try clear hcz47_11
     try clear hcz47_2
     try clear hcz47_3
     try clear hcz47_4
     try clear hcz47_5
     try clear hcz47_6
     try clear hcz47_7
     try clear hcz47_8
     try clear hcz47_9
     try clear hcz49_0
     try clear hcz49_1
     try clear hcz49_10
     try clear hcz49_11
     try clear hcz49_2
     try clear hcz49_3
     try clear hcz49_4
     try clear hcz49_5
     try clear hcz49_6
     try clear hcz49_7
     try clear hcz49_8
     try clear hcz49_9
     try clear hcz51_0
     try clear hcz51_1
     try clear hcz51_10
     try clear hcz51_11
     try clear hcz51_2
     try clear hcz51_3
     try clear hcz51_4
     try clear hcz51_5
     try clear hcz51_6
     try clear hcz51_7
     try clear hcz51_8
     try clear hcz51_9
     try clear hcz53_0
     try clear hcz53_1
     try clear hcz53_10
     try clear hcz53_11
     try clear hcz53_2
     try clear hcz53_3
     try clear hcz53_4
     try clear hcz53_5
     try clear hcz53_6
     try clear hcz53_7
     try clear hcz53_8
     try clear hcz53_9
     try clear hcz54_0
     try clear hcz54_1
     try clear hcz54_10
     try clear hcz54_11
     try clear hcz54_2
     try clear hcz54_3
     try clear hcz54_4
     try clear hcz54_5
     try clear hcz54_6
     try clear hcz54_7
     try clear hcz54_8
     try clear hcz54_9
     try clear hcz56_0
     try clear hcz56_1
     try clear hcz56_10
     try clear hcz56_11
     try clear hcz56_2
     try clear hcz56_3
     try clear hcz56_4
     try clear hcz56_5
     try clear hcz56_6
     try clear hcz56_7
     try clear hcz56_8
     try clear hcz56_9
     try clear hfz15_0
     try clear hfz15_1
     try clear hfz15_10
     try clear hfz15_11
     try clear hfz15_2
     try clear hfz15_3
     try clear hfz15_4
     try clear hfz15_5
     try clear hfz15_6
     try clear hfz15_7
     try clear hfz15_8
     try clear hfz15_9
     try clear hfz17_0
     try clear hfz17_1
     try clear hfz17_10
     try clear hfz17_11
     try clear hfz17_2
     try clear hfz17_3
     try clear hfz17_4
     try clear hfz17_5
     try clear hfz17_6
     try clear hfz17_7
     try clear hfz17_8
     try clear hfz17_9
     try clear hfz19_0
     try clear hfz19_1
     try clear hfz19_10
     try clear hfz19_11
     try clear hfz19_2
     try clear hfz19_3
     try clear hfz19_4
     try clear hfz19_5
     try clear hfz19_6
     try clear hfz19_7
     try clear hfz19_8
     try clear hfz19_9
     try clear hfz24_0
     try clear hfz24_1
     try clear hfz24_10
     try clear hfz24_11
     try clear hfz24_2
     try clear hfz24_3
     try clear hfz24_4
     try clear hfz24_5
     try clear hfz24_6
     try clear hfz24_7
     try clear hfz24_8
     try clear hfz24_9
     try clear hfz26_0
     try clear hfz26_1
     try clear hfz26_10
     try clear hfz26_11
     try clear hfz26_2
     try clear hfz26_3
     try clear hfz26_4
     try clear hfz26_5
     try clear hfz26_6
     try clear hfz26_7
     try clear hfz26_8
     try clear hfz26_9
     try clear hfz28_0
     try clear hfz28_1
     try clear hfz28_10
     try clear hfz28_11
     try clear hfz28_2
     try clear hfz28_3
     try clear hfz28_4
     try clear hfz28_5
     try clear hfz28_6
     try clear hfz28_7
     try clear hfz28_8
     try clear hfz28_9
     try clear hfz30_0
     try clear hfz30_1
     try clear hfz30_10
     try clear hfz30_11
     try clear hfz30_2
     try clear hfz30_3
     try clear hfz30_4
     try clear hfz30_5
     try clear hfz30_6
     try clear hfz30_7
     try clear hfz30_8
     try clear hfz30_9
     try clear hfz31_0
     try clear hfz31_1
     try clear hfz31_10
     try clear hfz31_11
     try clear hfz31_2
     try clear hfz31_3
     try clear hfz31_4
     try clear hfz31_5
     try clear hfz31_6
     try clear hfz31_7
     try clear hfz31_8
     try clear hfz31_9
     try clear hfz33_0
     try clear hfz33_1
     try clear hfz33_10
     try clear hfz33_11
     try clear hfz33_2
     try clear hfz33_3
     try clear hfz33_4
     try clear hfz33_5
     try clear hfz33_6
     try clear hfz33_7
     try clear hfz33_8
     try clear hfz33_9
     try clear hfz35_0
     try clear hfz35_1
     try clear hfz35_10
     try clear hfz35_11
     try clear hfz35_2
     try clear hfz35_3
     try clear hfz35_4
     try clear hfz35_5
     try clear hfz35_6
     try clear hfz35_7
     try clear hfz35_8
     try clear hfz35_9
     try clear hfz37_0
     try clear hfz37_1
     try clear hfz37_10
     try clear hfz37_11
     try clear hfz37_2
     try clear hfz37_3
     try clear hfz37_4
     try clear hfz37_5
     try clear hfz37_6
     try clear hfz37_7
     try clear hfz37_8
     try clear hfz37_9
     try clear hfz39_0
     try clear hfz39_1
     try clear hfz39_10
     try clear hfz39_11
     try clear hfz39_2
     try clear hfz39_3
     try clear hfz39_4
     try clear hfz39_5
     try clear hfz39_6
     try clear hfz39_7
     try clear hfz39_8
     try clear hfz39_9
     try clear hfz41_0
     try clear hfz41_1
     try clear hfz41_10
     try clear hfz41_11
     try clear hfz41_2
     try clear hfz41_3
     try clear hfz41_4
     try clear hfz41_5
     try clear hfz41_6
     try clear hfz41_7
     try clear hfz41_8
     try clear hfz41_9
     try clear hfz42_0
     try clear hfz42_1
     try clear hfz42_10
     try clear hfz42_11
     try clear hfz42_2
     try clear hfz42_3
     try clear hfz42_4
     try clear hfz42_5
     try clear hfz42_6
     try clear hfz42_7
     try clear hfz42_8
     try clear hfz42_9
     try clear hfz44_0
     try clear hfz44_1
     try clear hfz44_10
     try clear hfz44_11
     try clear hfz44_2
     try clear hfz44_3
     try clear hfz44_4
     try clear hfz44_5
     try clear hfz44_6
     try clear hfz44_7
     try clear hfz44_8
     try clear hfz44_9
     try clear hfz46_0
     try clear hfz46_1
     try clear hfz46_10
     try clear hfz46_11
     try clear hfz46_2
     try clear hfz46_3
     try clear hfz46_4
     try clear hfz46_5
     try clear hfz46_6
     try clear hfz46_7
     try clear hfz46_8
     try clear hfz46_9
     try clear hfz47_0
     try clear hfz47_1
     try clear hfz47_10
     try clear hfz47_11
     try clear hfz47_2
     try clear hfz47_3
     try clear hfz47_4
     try clear hfz47_5
     try clear hfz47_6
     try clear hfz47_7
     try clear hfz47_8
     try clear hfz47_9
     try clear hfz49_0
     try clear hfz49_1
     try clear hfz49_10
     try clear hfz49_11
     try clear hfz49_2
     try clear hfz49_3
     try clear hfz49_4
     try clear hfz49_5
     try clear hfz49_6
     try clear hfz49_7
     try clear hfz49_8
     try clear hfz49_9
     try clear hfz51_0
     try clear hfz51_1
     try clear hfz51_10
     try clear hfz51_11
     try clear hfz51_2
     try clear hfz51_3
     try clear hfz51_4
     try clear hfz51_5
     try clear hfz51_6
     try clear hfz51_7
     try clear hfz51_8
     try clear hfz51_9
     try clear hfz53_0
     try clear hfz53_1
     try clear hfz53_10
     try clear hfz53_11
     try clear hfz53_2
     try clear hfz53_3
     try clear hfz53_4
     try clear hfz53_5
     try clear hfz53_6
     try clear hfz53_7
     try clear hfz53_8
     try clear hfz53_9
     try clear hfz54_0
     try clear hfz54_1
     try clear hfz54_10
     try clear hfz54_11
     try clear hfz54_2
     try clear hfz54_3
     try clear hfz54_4
     try clear hfz54_5
     try clear hfz54_6
     try clear hfz54_7
     try clear hfz54_8
     try clear hfz54_9
     try clear hfz56_0
     try clear hfz56_1
     try clear hfz56_10
     try clear hfz56_11
     try clear hfz56_2
     try clear hfz56_3
     try clear hfz56_4
     try clear hfz56_5
     try clear hfz56_6
     try clear hfz56_7
     try clear hfz56_8
     try clear hfz56_9
     try clear p2
     obtain ⟨x3_2, rfl, HA, HK2, BK530, HB⟩ := hrel
     cases gk with
     | zero => exact absurd HA.out (by simp [raddleref01_OpFits.l0])
     | succ k2 =>
      have H := HA.out
      clear HA
      simp only [raddleref01_OpFits.l0] at H
      by_cases c58 : x3_2 < (l0_11.length : Int)
      ·
       rw [if_pos c58] at H
       have c58b0 : decide (x3_2 < (l0_11.length : Int)) = true := decide_eq_true c58
       clear c58
       by_cases c59 : 0 ≤ x3_2
       ·
        rw [if_pos c59] at H
        have c59b0 : decide (0 ≤ x3_2) = true := decide_eq_true c59
        clear c59
        replace H := Option.bind_eq_some_iff.mp H
        obtain ⟨t539, A600, H⟩ := H
        replace H : (if t539 = true then (raddleref01_OpFits.l0 k2 (wrap64 (x3_2 + 1)) a0_0 a0_1 l0_2 a0_3 a0_4 a0_5 a0_6 a0_7 a0_8 a0_9 l0_10 l0_11) else (some false)) = some r := H
        have A60 := mk_ A600
        clear A600
        by_cases c61 : t539 = true
        ·
         subst c61
         have H1 : (raddleref01_OpFits.l0 k2 (wrap64 (x3_2 + 1)) a0_0 a0_1 l0_2 a0_3 a0_4 a0_5 a0_6 a0_7 a0_8 a0_9 l0_10 l0_11) = some r := by rw [if_pos rfl] at H; exact H
         clear H
         have H := H1
         clear H1
         have H' := mk_ H
         clear H
         have hcz62_0 : wr.cell? ⟨gb530, 0, none⟩ = some (.int .i64 a0_0) := kc_ BK530 0
         have hcz62_1 : wr.cell? ⟨gb530, 1, none⟩ = some (.int .i64 a0_1) := kc_ BK530 1
         have hcz62_2 : wr.cell? ⟨gb530, 2, none⟩ = some (.slice A0_2 l0_2.length c0_2) := kc_ BK530 2
         have hcz62_3 : wr.cell? ⟨gb530, 3, none⟩ = some (.int .i64 a0_3) := kc_ BK530 3
         have hcz62_4 : wr.cell? ⟨gb530, 4, none⟩ = some (.int .i64 a0_4) := kc_ BK530 4
         have hcz62_5 : wr.cell? ⟨gb530, 5, none⟩ = some (.int .i64 a0_5) := kc_ BK530 5
         have hcz62_6 : wr.cell? ⟨gb530, 6, none⟩ = some (.int .i64 a0_6) := kc_ BK530 6
         have hcz62_7 : wr.cell? ⟨gb530, 7, none⟩ = some (.int .i64 a0_7) := kc_ BK530 7
         have hcz62_8 : wr.cell? ⟨gb530, 8, none⟩ = some (.string a0_8) := kc_ BK530 8
         have hcz62_9 : wr.cell? ⟨gb530, 9, none⟩ = some (.int .i64 a0_9) := kc_ BK530 9
         have hcz62_10 : wr.cell? ⟨gb530, 10, none⟩ = some (.slice A0_10 l0_10.length c0_10) := kc_ BK530 10
         have hcz62_11 : wr.cell? ⟨gb530, 11, none⟩ = some (.slice A0_11 l0_11.length c0_11) := kc_ BK530 11
         have hfz62_0 := blk_frozen BK530.out
         have p538 : 0 ≤ (x3_2 : Int) := of_decide_eq_true z0
         have q538 : x3_2 < (l0_11.length : Int) := of_decide_eq_true z0
         obtain ⟨ad538, e538, hx538_0, hx538_1⟩ := at_T25 HR0_11.out x3_2 p538 q538
         cases e538
         replace hx538_0 := up_ HB hx538_0
         replace hx538_1 := up_ HB hx538_1
         replace p538 := eq_true p538
         replace q538 := eq_true q538
         go_wp2_with (first | ((with_reducible refine gate_callee (f := 42) rfl ?_); refine Short.gL (some 68) Try.func42 #[.agg #[.int .i64 ((rd_T25 l0_11 x3_2).f0), .int .i64 ((rd_T25 l0_11 x3_2).f1)]] (h := ?_); (with_reducible refine (raddleref01_dotFits.calls ((rd_T25 l0_11 x3_2).f0) ((rd_T25 l0_11 x3_2).f1) true _ A60.out).mono ?_); rintro e w63 ⟨rfl, hb⟩; refine ⟨_, rfl, ?_⟩; have n0_ := mk_ (bB_ BK530 hb); have n1_ := mk_ (below_step (Short.hB HB) hb); clear BK530 HB; revert n0_ n1_; intro BK530 HB; (try clear hb)))
         go_roundg k2
         case measure => have := HJ1.out; have := HK2.out; omega
         case rel => exact ⟨(wrap64 (x3_2 + 1)), z3, H', ⟨by have := HJ1.out; have := HK2.out; omega⟩, ⟨by (with_reducible repeat (first | refine blk_drewN ?_ _ | refine blk_drew ?_ | refine blk_alloc ?_ _)); exact BK530.out⟩, ⟨Short.hB HB⟩⟩
        ·
         replace c61 := Bool.eq_false_iff.mpr c61
         subst c61
         have H1 : (some false) = some r := by rw [if_neg (show ¬ (false = true) by decide)] at H; exact H
         clear H
         have H := H1
         clear H1
         obtain rfl := Option.some.inj H
         have hcz64_0 : wr.cell? ⟨gb530, 0, none⟩ = some (.int .i64 a0_0) := kc_ BK530 0
         have hcz64_1 : wr.cell? ⟨gb530, 1, none⟩ = some (.int .i64 a0_1) := kc_ BK530 1
         have hcz64_2 : wr.cell? ⟨gb530, 2, none⟩ = some (.slice A0_2 l0_2.length c0_2) := kc_ BK530 2
         have hcz64_3 : wr.cell? ⟨gb530, 3, none⟩ = some (.int .i64 a0_3) := kc_ BK530 3
         have hcz64_4 : wr.cell? ⟨gb530, 4, none⟩ = some (.int .i64 a0_4) := kc_ BK530 4
         have hcz64_5 : wr.cell? ⟨gb530, 5, none⟩ = some (.int .i64 a0_5) := kc_ BK530 5
         have hcz64_6 : wr.cell? ⟨gb530, 6, none⟩ = some (.int .i64 a0_6) := kc_ BK530 6
         have hcz64_7 : wr.cell? ⟨gb530, 7, none⟩ = some (.int .i64 a0_7) := kc_ BK530 7
         have hcz64_8 : wr.cell? ⟨gb530, 8, none⟩ = some (.string a0_8) := kc_ BK530 8
         have hcz64_9 : wr.cell? ⟨gb530, 9, none⟩ = some (.int .i64 a0_9) := kc_ BK530 9
         have hcz64_10 : wr.cell? ⟨gb530, 10, none⟩ = some (.slice A0_10 l0_10.length c0_10) := kc_ BK530 10
         have hcz64_11 : wr.cell? ⟨gb530, 11, none⟩ = some (.slice A0_11 l0_11.length c0_11) := kc_ BK530 11
         have hfz64_0 := blk_frozen BK530.out
         have p538 : 0 ≤ (x3_2 : Int) := of_decide_eq_true z0
         have q538 : x3_2 < (l0_11.length : Int) := of_decide_eq_true z0
         obtain ⟨ad538, e538, hx538_0, hx538_1⟩ := at_T25 HR0_11.out x3_2 p538 q538
         cases e538
         replace hx538_0 := up_ HB hx538_0
         replace hx538_1 := up_ HB hx538_1
         replace p538 := eq_true p538
         replace q538 := eq_true q538
         go_wp2_with (first | ((with_reducible refine gate_callee (f := 42) rfl ?_); refine Short.gL (some 68) Try.func42 #[.agg #[.int .i64 ((rd_T25 l0_11 x3_2).f0), .int .i64 ((rd_T25 l0_11 x3_2).f1)]] (h := ?_); (with_reducible refine (raddleref01_dotFits.calls ((rd_T25 l0_11 x3_2).f0) ((rd_T25 l0_11 x3_2).f1) false _ A60.out).mono ?_); rintro e w65 ⟨rfl, hb⟩; refine ⟨_, rfl, ?_⟩; have n0_ := mk_ (bB_ BK530 hb); have n1_ := mk_ (below_step (Short.hB HB) hb); clear BK530 HB; revert n0_ n1_; intro BK530 HB; (try clear hb)))
         go_ret
         exact ⟨q0, Short.hB HB⟩
       ·
        rw [if_neg c59] at H
        exact absurd H (by simp)
      ·
       rw [if_neg c58] at H
       have c58b0 : decide (x3_2 < (l0_11.length : Int)) = false := decide_eq_false c58
       clear c58
       obtain rfl := Option.some.inj H
       have hcz66_0 : wr.cell? ⟨gb530, 0, none⟩ = some (.int .i64 a0_0) := kc_ BK530 0
       have hcz66_1 : wr.cell? ⟨gb530, 1, none⟩ = some (.int .i64 a0_1) := kc_ BK530 1
       have hcz66_2 : wr.cell? ⟨gb530, 2, none⟩ = some (.slice A0_2 l0_2.length c0_2) := kc_ BK530 2
       have hcz66_3 : wr.cell? ⟨gb530, 3, none⟩ = some (.int .i64 a0_3) := kc_ BK530 3
       have hcz66_4 : wr.cell? ⟨gb530, 4, none⟩ = some (.int .i64 a0_4) := kc_ BK530 4
       have hcz66_5 : wr.cell? ⟨gb530, 5, none⟩ = some (.int .i64 a0_5) := kc_ BK530 5
       have hcz66_6 : wr.cell? ⟨gb530, 6, none⟩ = some (.int .i64 a0_6) := kc_ BK530 6
       have hcz66_7 : wr.cell? ⟨gb530, 7, none⟩ = some (.int .i64 a0_7) := kc_ BK530 7
       have hcz66_8 : wr.cell? ⟨gb530, 8, none⟩ = some (.string a0_8) := kc_ BK530 8
       have hcz66_9 : wr.cell? ⟨gb530, 9, none⟩ = some (.int .i64 a0_9) := kc_ BK530 9
       have hcz66_10 : wr.cell? ⟨gb530, 10, none⟩ = some (.slice A0_10 l0_10.length c0_10) := kc_ BK530 10
       have hcz66_11 : wr.cell? ⟨gb530, 11, none⟩ = some (.slice A0_11 l0_11.length c0_11) := kc_ BK530 11
       have hfz66_0 := blk_frozen BK530.out
       go_wp2
       go_ret
       exact ⟨q0, Short.hB HB⟩
end Go.Proofs.Ytjnjfogfpmeacaa.PAll
end
