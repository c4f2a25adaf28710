-- Put together by a program of this session (wip/slice2.py) out of the seat's texts.
import Derived.Test.YtjnjfogfpmeacaaGreatZOET
import Derived.Laws.StructEq
import Derived.Test.YtjnjfogfpmeacaaGreatProg
import Derived.WalkSpells
import Derived.Lib.SliceRun
import Derived.Laws.Cover1
set_option maxHeartbeats 8000000
set_option maxRecDepth 100000
open Go.Proofs.YtjnjfogfpmeacaaGreatW Go.Proofs.YtjnjfogfpmeacaaGreat
section
namespace Go.Proofs.YtjnjfogfpmeacaaGreat.PAll
open Go.RowKit PrintWords PrintLast PrintMore ZipT PrintWords.Kd PrintMore.Kd
attribute [local go_sem] eP eN fD fA dS dT eO eK   -- for this text's walks alone
set_option linter.unusedVariables false
set_option linter.unusedSimpArgs false
def errW : Option Int → Value
 | none => .nilIface
 | some c => .iface 0 (.int .i64 c)
theorem aZ : errW none = .nilIface := rfl
theorem aY (c : Int) : errW (some c) = .iface 0 (.int .i64 c) := rfl
theorem info3 : (Tryz.prog.info? 3).map (fun i => (i.zero, i.size, i.bytes)) = some (some (.int .i64 0), 1, 8) := by kernel_rfl
theorem info5 : (Tryz.prog.info? 5).map (fun i => (i.zero, i.size, i.bytes)) = some (some (.int .u8 0), 1, 1) := by kernel_rfl
theorem info24 : (Tryz.prog.info? 24).map (fun i => (i.zero, i.size, i.bytes)) = some (some (.agg #[(.int .i64 0), (.int .i64 0)]), 2, 16) := by kernel_rfl
theorem info53 : (Tryz.prog.info? 53).map (fun i => (i.zero, i.size, i.bytes)) = some (some (.agg #[(.slice none 0 0)]), 1, 24) := by kernel_rfl
theorem info102 : (Tryz.prog.info? 102).map (fun i => (i.zero, i.size, i.bytes)) = some (some (.agg #[(.int .i64 0), (.int .i64 0), (.string ⟨#[]⟩)]), 3, 32) := by kernel_rfl
structure S53 where
 f0 : (List Int)
def z53 : S53 := ⟨([] : List Int)⟩
def k53 : Kd S53 := Kd.iso (Kd.slice 3 (Kd.int .i64)) (fun x : S53 => x.f0)
theorem k53_open {w : World} {x : S53} {cs : List Value} (h : k53.K w x cs) : ∃ A0 c0, cs = [.slice A0 x.f0.length c0] ∧ x.f0.length ≤ c0 ∧ (Kd.int .i64).C w A0 x.f0.length x.f0 := by
 obtain ⟨A0, c0, rfl, l0, g0⟩ := h
 exact ⟨A0, c0, rfl, l0, g0⟩
theorem k53_mkM (w : World) (base : Nat) (ok : Nat → Prop) (x : S53) {v0 : Value} (g0 : (Kd.int .i64).R 3 w base ok v0 x.f0) : k53.M w base ok x [v0] := ⟨v0, rfl, g0⟩
def cP (xs : List S53) (i : Int) : S53 := xs.getD i.toNat z53
theorem fQ {w : World} {A : Option Addr} {n : Nat} {xs : List S53} (h : Kd.C k53 w A n xs) (i : Int) (h0 : 0 ≤ i) (h1 : i < n) : ∃ ad A0 c0, A = some ad ∧ w.cell? (ad.add i.toNat) = some (.slice A0 (cP xs i).f0.length c0) ∧ (cP xs i).f0.length ≤ c0 ∧ (Kd.int .i64).C w A0 (cP xs i).f0.length (cP xs i).f0 := by
 obtain ⟨ad, c, e, _, hK, hc0⟩ := C_get h z53 i h0 h1
 have hc : ∀ j u, c[j]? = some u → w.cell? (ad.add (i.toNat * 1 + j)) = some u := hc0
 obtain ⟨A0, c0, rfl, l0, g0⟩ := k53_open hK
 exact ⟨ad, A0, c0, e, by have hq := hc 0 _ rfl; rwa [Nat.mul_one, Nat.add_zero] at hq, l0, g0⟩
structure S102 where
 f0 : Int
 f1 : Int
 f2 : ByteArray
def z102 : S102 := ⟨(0 : Int), (0 : Int), (⟨#[]⟩ : ByteArray)⟩
def k102 : Kd S102 := Kd.iso (Kd.pair (Kd.int .i64) (Kd.pair (Kd.int .i64) Kd.string)) (fun x : S102 => (x.f0, x.f1, x.f2))
theorem k102_open {w : World} {x : S102} {cs : List Value} (h : k102.K w x cs) : cs = [.int .i64 x.f0, .int .i64 x.f1, .string x.f2] := by
 obtain ⟨_, _, rfl, rfl, ⟨_, _, rfl, rfl, rfl⟩⟩ := h
 exact rfl
theorem k102_mkM (w : World) (base : Nat) (ok : Nat → Prop) (x : S102)  : k102.M w base ok x [.int .i64 x.f0, .int .i64 x.f1, .string x.f2] := ⟨[.int .i64 x.f0], [.int .i64 x.f1, .string x.f2], rfl, rfl, ⟨[.int .i64 x.f1], [.string x.f2], rfl, rfl, rfl⟩⟩
def aK (xs : List S102) (i : Int) : S102 := xs.getD i.toNat z102
theorem fK {w : World} {A : Option Addr} {n : Nat} {xs : List S102} (h : Kd.C k102 w A n xs) (i : Int) (h0 : 0 ≤ i) (h1 : i < n) : ∃ ad , A = some ad ∧ w.cell? (ad.add (i.toNat * 3)) = some (.int .i64 (aK xs i).f0) ∧ w.cell? ⟨(ad.add (i.toNat * 3)).block, (ad.add (i.toNat * 3)).off + 1, none⟩ = some (.int .i64 (aK xs i).f1) ∧ w.cell? ⟨(ad.add (i.toNat * 3)).block, (ad.add (i.toNat * 3)).off + 2, none⟩ = some (.string (aK xs i).f2) := by
 obtain ⟨ad, c, e, _, hK, hc0⟩ := C_get h z102 i h0 h1
 have hc : ∀ j u, c[j]? = some u → w.cell? (ad.add (i.toNat * 3 + j)) = some u := hc0
 obtain rfl := k102_open hK
 exact ⟨ad, e, hc 0 _ rfl, by rw [← fB _ _ 1 z3_]; exact hc 1 _ rfl, by rw [← fB _ _ 2 z3_]; exact hc 2 _ rfl⟩
structure S24 where
 f0 : Int
 f1 : Int
def z24 : S24 := ⟨(0 : Int), (0 : Int)⟩
def k24 : Kd S24 := Kd.iso (Kd.pair (Kd.int .i64) (Kd.int .i64)) (fun x : S24 => (x.f0, x.f1))
theorem k24_open {w : World} {x : S24} {cs : List Value} (h : k24.K w x cs) : cs = [.int .i64 x.f0, .int .i64 x.f1] := by
 obtain ⟨_, _, rfl, rfl, rfl⟩ := h
 exact rfl
theorem k24_mk (w : World) (x : S24)  : k24.K w x [.int .i64 x.f0, .int .i64 x.f1] := ⟨[.int .i64 x.f0], [.int .i64 x.f1], rfl, rfl, rfl⟩
theorem k24_mkM (w : World) (base : Nat) (ok : Nat → Prop) (x : S24)  : k24.M w base ok x [.int .i64 x.f0, .int .i64 x.f1] := ⟨[.int .i64 x.f0], [.int .i64 x.f1], rfl, rfl, rfl⟩
def aW (xs : List S24) (i : Int) : S24 := xs.getD i.toNat z24
theorem fS {w : World} {A : Option Addr} {n : Nat} {xs : List S24} (h : Kd.C k24 w A n xs) (i : Int) (h0 : 0 ≤ i) (h1 : i < n) : ∃ ad , A = some ad ∧ w.cell? (ad.add (i.toNat * 2)) = some (.int .i64 (aW xs i).f0) ∧ w.cell? ⟨(ad.add (i.toNat * 2)).block, (ad.add (i.toNat * 2)).off + 1, none⟩ = some (.int .i64 (aW xs i).f1) := by
 obtain ⟨ad, c, e, _, hK, hc0⟩ := C_get h z24 i h0 h1
 have hc : ∀ j u, c[j]? = some u → w.cell? (ad.add (i.toNat * 2 + j)) = some u := hc0
 obtain rfl := k24_open hK
 exact ⟨ad, e, hc 0 _ rfl, by rw [← fB _ _ 1 z3_]; exact hc 1 _ rfl⟩
structure S27 where
 f0 : Int
 f1 : Int
 f2 : Int
def z27 : S27 := ⟨(0 : Int), (0 : Int), (0 : Int)⟩
def k27 : Kd S27 := Kd.iso (Kd.pair (Kd.int .i64) (Kd.pair (Kd.int .i64) (Kd.int .i64))) (fun x : S27 => (x.f0, x.f1, x.f2))
theorem k27_open {w : World} {x : S27} {cs : List Value} (h : k27.K w x cs) : cs = [.int .i64 x.f0, .int .i64 x.f1, .int .i64 x.f2] := by
 obtain ⟨_, _, rfl, rfl, ⟨_, _, rfl, rfl, rfl⟩⟩ := h
 exact rfl
theorem k27_mk (w : World) (x : S27)  : k27.K w x [.int .i64 x.f0, .int .i64 x.f1, .int .i64 x.f2] := ⟨[.int .i64 x.f0], [.int .i64 x.f1, .int .i64 x.f2], rfl, rfl, ⟨[.int .i64 x.f1], [.int .i64 x.f2], rfl, rfl, rfl⟩⟩
structure S31 where
 f0 : S24
 f1 : (List Int)
 f2 : S27
 f3 : Int
 f4 : Int
 f5 : ByteArray
 f6 : Int
 f7 : (List S102)
 f8 : (List S24)
def z31 : S31 := ⟨z24, ([] : List Int), z27, (0 : Int), (0 : Int), (⟨#[]⟩ : ByteArray), (0 : Int), ([] : List S102), ([] : List S24)⟩
def k31 : Kd S31 := Kd.iso (Kd.pair k24 (Kd.pair (Kd.slice 3 (Kd.int .i64)) (Kd.pair k27 (Kd.pair (Kd.int .i64) (Kd.pair (Kd.int .i64) (Kd.pair Kd.string (Kd.pair (Kd.int .i64) (Kd.pair (Kd.slice 102 k102) (Kd.slice 24 k24))))))))) (fun x : S31 => (x.f0, x.f1, x.f2, x.f3, x.f4, x.f5, x.f6, x.f7, x.f8))
theorem k31_open {w : World} {x : S31} {cs : List Value} (h : k31.K w x cs) : ∃ A2 c2 A10 c10 A11 c11, cs = [.int .i64 x.f0.f0, .int .i64 x.f0.f1, .slice A2 x.f1.length c2, .int .i64 x.f2.f0, .int .i64 x.f2.f1, .int .i64 x.f2.f2, .int .i64 x.f3, .int .i64 x.f4, .string x.f5, .int .i64 x.f6, .slice A10 x.f7.length c10, .slice A11 x.f8.length c11] ∧ x.f1.length ≤ c2 ∧ (Kd.int .i64).C w A2 x.f1.length x.f1 ∧ x.f7.length ≤ c10 ∧ k102.C w A10 x.f7.length x.f7 ∧ x.f8.length ≤ c11 ∧ k24.C w A11 x.f8.length x.f8 := by
 obtain ⟨_, _, rfl, s0, ⟨_, _, rfl, ⟨A2, c2, rfl, l2, g2⟩, ⟨_, _, rfl, s3, ⟨_, _, rfl, rfl, ⟨_, _, rfl, rfl, ⟨_, _, rfl, rfl, ⟨_, _, rfl, rfl, ⟨_, _, rfl, ⟨A10, c10, rfl, l10, g10⟩, ⟨A11, c11, rfl, l11, g11⟩⟩⟩⟩⟩⟩⟩⟩⟩ := h
 obtain rfl := k24_open s0
 obtain rfl := k27_open s3
 exact ⟨A2, c2, A10, c10, A11, c11, rfl, l2, g2, l10, g10, l11, g11⟩
theorem k31_mk (w : World) (x : S31) {A2 : Option Addr} {c2 : Nat} (l2 : x.f1.length ≤ c2) (g2 : (Kd.int .i64).C w A2 x.f1.length x.f1) {A10 : Option Addr} {c10 : Nat} (l10 : x.f7.length ≤ c10) (g10 : k102.C w A10 x.f7.length x.f7) {A11 : Option Addr} {c11 : Nat} (l11 : x.f8.length ≤ c11) (g11 : k24.C w A11 x.f8.length x.f8) : k31.K w x [.int .i64 x.f0.f0, .int .i64 x.f0.f1, .slice A2 x.f1.length c2, .int .i64 x.f2.f0, .int .i64 x.f2.f1, .int .i64 x.f2.f2, .int .i64 x.f3, .int .i64 x.f4, .string x.f5, .int .i64 x.f6, .slice A10 x.f7.length c10, .slice A11 x.f8.length c11] := ⟨[.int .i64 x.f0.f0, .int .i64 x.f0.f1], [.slice A2 x.f1.length c2, .int .i64 x.f2.f0, .int .i64 x.f2.f1, .int .i64 x.f2.f2, .int .i64 x.f3, .int .i64 x.f4, .string x.f5, .int .i64 x.f6, .slice A10 x.f7.length c10, .slice A11 x.f8.length c11], rfl, (k24_mk w x.f0 ), ⟨[.slice A2 x.f1.length c2], [.int .i64 x.f2.f0, .int .i64 x.f2.f1, .int .i64 x.f2.f2, .int .i64 x.f3, .int .i64 x.f4, .string x.f5, .int .i64 x.f6, .slice A10 x.f7.length c10, .slice A11 x.f8.length c11], rfl, ⟨A2, c2, rfl, l2, g2⟩, ⟨[.int .i64 x.f2.f0, .int .i64 x.f2.f1, .int .i64 x.f2.f2], [.int .i64 x.f3, .int .i64 x.f4, .string x.f5, .int .i64 x.f6, .slice A10 x.f7.length c10, .slice A11 x.f8.length c11], rfl, (k27_mk w x.f2 ), ⟨[.int .i64 x.f3], [.int .i64 x.f4, .string x.f5, .int .i64 x.f6, .slice A10 x.f7.length c10, .slice A11 x.f8.length c11], rfl, rfl, ⟨[.int .i64 x.f4], [.string x.f5, .int .i64 x.f6, .slice A10 x.f7.length c10, .slice A11 x.f8.length c11], rfl, rfl, ⟨[.string x.f5], [.int .i64 x.f6, .slice A10 x.f7.length c10, .slice A11 x.f8.length c11], rfl, rfl, ⟨[.int .i64 x.f6], [.slice A10 x.f7.length c10, .slice A11 x.f8.length c11], rfl, rfl, ⟨[.slice A10 x.f7.length c10], [.slice A11 x.f8.length c11], rfl, ⟨A10, c10, rfl, l10, g10⟩, ⟨A11, c11, rfl, l11, g11⟩⟩⟩⟩⟩⟩⟩⟩⟩
def dF (xs : List S31) (i : Int) : S31 := xs.getD i.toNat z31
theorem gK {w : World} {A : Option Addr} {n : Nat} {xs : List S31} (h : Kd.C k31 w A n xs) (i : Int) (h0 : 0 ≤ i) (h1 : i < n) : ∃ ad A2 c2 A10 c10 A11 c11, A = some ad ∧ w.cell? (ad.add (i.toNat * 12)) = some (.int .i64 (dF xs i).f0.f0) ∧ w.cell? ⟨(ad.add (i.toNat * 12)).block, (ad.add (i.toNat * 12)).off + 1, none⟩ = some (.int .i64 (dF xs i).f0.f1) ∧ w.cell? ⟨(ad.add (i.toNat * 12)).block, (ad.add (i.toNat * 12)).off + 2, none⟩ = some (.slice A2 (dF xs i).f1.length c2) ∧ w.cell? ⟨(ad.add (i.toNat * 12)).block, (ad.add (i.toNat * 12)).off + 3, none⟩ = some (.int .i64 (dF xs i).f2.f0) ∧ w.cell? ⟨(ad.add (i.toNat * 12)).block, (ad.add (i.toNat * 12)).off + 4, none⟩ = some (.int .i64 (dF xs i).f2.f1) ∧ w.cell? ⟨(ad.add (i.toNat * 12)).block, (ad.add (i.toNat * 12)).off + 5, none⟩ = some (.int .i64 (dF xs i).f2.f2) ∧ w.cell? ⟨(ad.add (i.toNat * 12)).block, (ad.add (i.toNat * 12)).off + 6, none⟩ = some (.int .i64 (dF xs i).f3) ∧ w.cell? ⟨(ad.add (i.toNat * 12)).block, (ad.add (i.toNat * 12)).off + 7, none⟩ = some (.int .i64 (dF xs i).f4) ∧ w.cell? ⟨(ad.add (i.toNat * 12)).block, (ad.add (i.toNat * 12)).off + 8, none⟩ = some (.string (dF xs i).f5) ∧ w.cell? ⟨(ad.add (i.toNat * 12)).block, (ad.add (i.toNat * 12)).off + 9, none⟩ = some (.int .i64 (dF xs i).f6) ∧ w.cell? ⟨(ad.add (i.toNat * 12)).block, (ad.add (i.toNat * 12)).off + 10, none⟩ = some (.slice A10 (dF xs i).f7.length c10) ∧ w.cell? ⟨(ad.add (i.toNat * 12)).block, (ad.add (i.toNat * 12)).off + 11, none⟩ = some (.slice A11 (dF xs i).f8.length c11) ∧ (dF xs i).f1.length ≤ c2 ∧ (Kd.int .i64).C w A2 (dF xs i).f1.length (dF xs i).f1 ∧ (dF xs i).f7.length ≤ c10 ∧ k102.C w A10 (dF xs i).f7.length (dF xs i).f7 ∧ (dF xs i).f8.length ≤ c11 ∧ k24.C w A11 (dF xs i).f8.length (dF xs i).f8 := by
 obtain ⟨ad, c, e, _, hK, hc0⟩ := C_get h z31 i h0 h1
 have hc : ∀ j u, c[j]? = some u → w.cell? (ad.add (i.toNat * 12 + j)) = some u := hc0
 obtain ⟨A2, c2, A10, c10, A11, c11, rfl, l2, g2, l10, g10, l11, g11⟩ := k31_open hK
 exact ⟨ad, A2, c2, A10, c10, A11, c11, e, hc 0 _ rfl, by rw [← fB _ _ 1 z3_]; exact hc 1 _ rfl, by rw [← fB _ _ 2 z3_]; exact hc 2 _ rfl, by rw [← fB _ _ 3 z3_]; exact hc 3 _ rfl, by rw [← fB _ _ 4 z3_]; exact hc 4 _ rfl, by rw [← fB _ _ 5 z3_]; exact hc 5 _ rfl, by rw [← fB _ _ 6 z3_]; exact hc 6 _ rfl, by rw [← fB _ _ 7 z3_]; exact hc 7 _ rfl, by rw [← fB _ _ 8 z3_]; exact hc 8 _ rfl, by rw [← fB _ _ 9 z3_]; exact hc 9 _ rfl, by rw [← fB _ _ 10 z3_]; exact hc 10 _ rfl, by rw [← fB _ _ 11 z3_]; exact hc 11 _ rfl, l2, g2, l10, g10, l11, g11⟩
end Go.Proofs.YtjnjfogfpmeacaaGreat.PAll
end
section
namespace Go.Proofs.YtjnjfogfpmeacaaGreat.PAll
open Go.RowKit PrintWords PrintLast PrintMore ZipT PrintWords.Kd PrintMore.Kd
attribute [local go_sem] eP eN fD fA dS dT eO eK   -- for this text's walks alone
set_option linter.unusedVariables false
set_option linter.unusedSimpArgs false
def bO.l0 : Nat → List (S53) → Int → Option (Bool)
 | 0, _, _ => none
 | k + 1, x0, x3 => if x3 < (x0.length : Int) then (if 0 ≤ x3 then (if (((cP x0 x3).f0).length : Int) > 30 then (some true) else (bO.l0 k x0 (wrap64 (x3 + 1)))) else (none)) else (some false)
def bO.f (k : Nat) (l0 : List (S53)) : Option (Bool) := if (l0.length : Int) > 30 then (some true) else (bO.l0 k l0 0)
theorem bO.calls (k : Nat) (A0 : Option Addr) (c0 : Nat) (l0 : List (S53)) (r : Bool) (w : World) (hr0 : Kd.C k53 w A0 l0.length l0) (hc0 : l0.length ≤ c0) (h : bO.f k l0 = some r) :
  Calls Tryz.prog 4 #[.slice A0 l0.length c0] w fun e w' => e = .returned (.bool r) ∧ Drawn0 w w' := by
 have HR0 := mk_ hr0
 have HC0 := mk_ hc0
 clear hr0 hc0
 have H : (if (l0.length : Int) > 30 then (some true) else (bO.l0 k l0 0)) = some r := h
 clear h
 by_cases c2 : (l0.length : Int) > 30
 ·
  rw [if_pos c2] at H
  have c2b0 : decide (30 < (l0.length : Int)) = true := decide_eq_true c2
  have c2b1 : decide (30 < l0.length) = true := decide_eq_true z3_
  clear c2
  obtain rfl := Option.some.inj H
  go_enter Tryz.func4, Tryz.ntmps4
  go_wp2
  go_ret
  exact ⟨z4_, by repeat (first | exact Drawn0.refl _ | apply Drawn0.step)⟩
 rw [if_neg c2] at H
 have c2b0 : decide (30 < (l0.length : Int)) = false := decide_eq_false c2
 have c2b1 : decide (30 < l0.length) = false := decide_eq_false z3_
 clear c2
 have H' := mk_ H
 clear H
 go_enter Tryz.func4, Tryz.ntmps4
 go_wp2
 go_loopg [3] k (fun kq v3 w' => ∃ (x3_1 : Int), v3 = .int .i64 x3_1 ∧ Aside0 (bO.l0 kq l0 x3_1 = some r) ∧ Aside0 (kq ≤ k) ∧ Drawn0 w w')
 case atStart => exact ⟨(0), z4_, H', ⟨Nat.le_refl _⟩, by repeat (first | exact Drawn0.refl _ | apply Drawn0.step)⟩
 case round =>
  clear H'
  try clear c2
  try clear c2b0
  try clear c2b1
  try clear p2
  obtain ⟨x3_1, rfl, HA, HK1, ⟨m1, rfl⟩⟩ := hrel
  cases gk with
  | zero => exact absurd HA.out (by simp [bO.l0])
  | succ k1 =>
   have H := HA.out
   clear HA
   simp only [bO.l0] at H
   by_cases c3 : x3_1 < (l0.length : Int)
   rotate_left
   ·
    rw [if_neg c3] at H
    have c3b0 : decide (x3_1 < (l0.length : Int)) = false := decide_eq_false c3
    clear c3
    obtain rfl := Option.some.inj H
    go_wp2
    go_ret
    exact ⟨z4_, by repeat (first | exact Drawn0.refl _ | apply Drawn0.step)⟩
   rw [if_pos c3] at H
   have c3b0 : decide (x3_1 < (l0.length : Int)) = true := decide_eq_true c3
   clear c3
   by_cases c4 : 0 ≤ x3_1
   rotate_left
   ·
    rw [if_neg c4] at H
    exact absurd H z6_
   rw [if_pos c4] at H
   have c4b0 : decide (0 ≤ x3_1) = true := decide_eq_true c4
   clear c4
   by_cases c5 : (((cP l0 x3_1).f0).length : Int) > 30
   ·
    rw [if_pos c5] at H
    have c5b0 : decide (30 < (((cP l0 x3_1).f0).length : Int)) = true := decide_eq_true c5
    have c5b1 : decide (30 < ((cP l0 x3_1).f0).length) = true := decide_eq_true z3_
    clear c5
    obtain rfl := Option.some.inj H
    have p101 : 0 ≤ (x3_1 : Int) := of_decide_eq_true z1_
    have q101 : x3_1 < (l0.length : Int) := of_decide_eq_true z1_
    obtain ⟨ad101, A101_0, c101_0, e101, hx101_0, hl101_0, hi101_0⟩ := fQ HR0.out x3_1 p101 q101
    cases e101
    have HR101_0 := mk_ hi101_0
    have HC101_0 := mk_ hl101_0
    clear hi101_0 hl101_0
    replace p101 := eq_true p101
    replace q101 := eq_true q101
    go_wp2
    go_ret
    exact ⟨z4_, by repeat (first | exact Drawn0.refl _ | apply Drawn0.step)⟩
   rw [if_neg c5] at H
   have c5b0 : decide (30 < (((cP l0 x3_1).f0).length : Int)) = false := decide_eq_false c5
   have c5b1 : decide (30 < ((cP l0 x3_1).f0).length) = false := decide_eq_false z3_
   clear c5
   have H' := mk_ H
   clear H
   have p101 : 0 ≤ (x3_1 : Int) := of_decide_eq_true z1_
   have q101 : x3_1 < (l0.length : Int) := of_decide_eq_true z1_
   obtain ⟨ad101, A101_0, c101_0, e101, hx101_0, hl101_0, hi101_0⟩ := fQ HR0.out x3_1 p101 q101
   cases e101
   have HR101_0 := mk_ hi101_0
   have HC101_0 := mk_ hl101_0
   clear hi101_0 hl101_0
   replace p101 := eq_true p101
   replace q101 := eq_true q101
   go_wp2
   go_roundg k1
   case measure => have := HK1.out; omega
   case rel => exact ⟨(wrap64 (x3_1 + 1)), z4_, H', ⟨by have := HK1.out; omega⟩, by repeat (first | exact Drawn0.refl _ | apply Drawn0.step)⟩
def cJ.l0 : Nat → List (S102) → Int → Option (Bool)
 | 0, _, _ => none
 | k + 1, x0, x3 => if x3 < (x0.length : Int) then (if 0 ≤ x3 then (if (((aK x0 x3).f2).size : Int) > 300 then (some true) else (cJ.l0 k x0 (wrap64 (x3 + 1)))) else (none)) else (some false)
def cJ.f (k : Nat) (l0 : List (S102)) : Option (Bool) := cJ.l0 k l0 0
theorem cJ.calls (k : Nat) (A0 : Option Addr) (c0 : Nat) (l0 : List (S102)) (r : Bool) (w : World) (hr0 : Kd.C k102 w A0 l0.length l0) (hc0 : l0.length ≤ c0) (h : cJ.f k l0 = some r) :
  Calls Tryz.prog 49 #[.slice A0 l0.length c0] w fun e w' => e = .returned (.bool r) ∧ Drawn0 w w' := by
 have HR0 := mk_ hr0
 have HC0 := mk_ hc0
 clear hr0 hc0
 have H : (cJ.l0 k l0 0) = some r := h
 clear h
 have H' := mk_ H
 clear H
 go_enter Tryz.func49, Tryz.ntmps49
 go_wp2
 go_loopg [3] k (fun kq v3 w' => ∃ (x3_1 : Int), v3 = .int .i64 x3_1 ∧ Aside0 (cJ.l0 kq l0 x3_1 = some r) ∧ Aside0 (kq ≤ k) ∧ Drawn0 w w')
 case atStart => exact ⟨(0), z4_, H', ⟨Nat.le_refl _⟩, by repeat (first | exact Drawn0.refl _ | apply Drawn0.step)⟩
 case round =>
  clear H'
  obtain ⟨x3_1, rfl, HA, HK1, ⟨m1, rfl⟩⟩ := hrel
  cases gk with
  | zero => exact absurd HA.out (by simp [cJ.l0])
  | succ k1 =>
   have H := HA.out
   clear HA
   simp only [cJ.l0] at H
   by_cases c2 : x3_1 < (l0.length : Int)
   rotate_left
   ·
    rw [if_neg c2] at H
    have c2b0 : decide (x3_1 < (l0.length : Int)) = false := decide_eq_false c2
    clear c2
    obtain rfl := Option.some.inj H
    go_wp2
    go_ret
    exact ⟨z4_, by repeat (first | exact Drawn0.refl _ | apply Drawn0.step)⟩
   rw [if_pos c2] at H
   have c2b0 : decide (x3_1 < (l0.length : Int)) = true := decide_eq_true c2
   clear c2
   by_cases c3 : 0 ≤ x3_1
   rotate_left
   ·
    rw [if_neg c3] at H
    exact absurd H z6_
   rw [if_pos c3] at H
   have c3b0 : decide (0 ≤ x3_1) = true := decide_eq_true c3
   clear c3
   by_cases c4 : (((aK l0 x3_1).f2).size : Int) > 300
   ·
    rw [if_pos c4] at H
    have c4b0 : decide (300 < (((aK l0 x3_1).f2).size : Int)) = true := decide_eq_true c4
    have c4b1 : decide (300 < ((aK l0 x3_1).f2).size) = true := decide_eq_true z3_
    clear c4
    obtain rfl := Option.some.inj H
    have p102 : 0 ≤ (x3_1 : Int) := of_decide_eq_true z1_
    have q102 : x3_1 < (l0.length : Int) := of_decide_eq_true z1_
    obtain ⟨ad102, e102, hx102_0, hx102_1, hx102_2⟩ := fK HR0.out x3_1 p102 q102
    cases e102
    replace p102 := eq_true p102
    replace q102 := eq_true q102
    go_wp2
    go_ret
    exact ⟨z4_, by repeat (first | exact Drawn0.refl _ | apply Drawn0.step)⟩
   rw [if_neg c4] at H
   have c4b0 : decide (300 < (((aK l0 x3_1).f2).size : Int)) = false := decide_eq_false c4
   have c4b1 : decide (300 < ((aK l0 x3_1).f2).size) = false := decide_eq_false z3_
   clear c4
   have H' := mk_ H
   clear H
   have p102 : 0 ≤ (x3_1 : Int) := of_decide_eq_true z1_
   have q102 : x3_1 < (l0.length : Int) := of_decide_eq_true z1_
   obtain ⟨ad102, e102, hx102_0, hx102_1, hx102_2⟩ := fK HR0.out x3_1 p102 q102
   cases e102
   replace p102 := eq_true p102
   replace q102 := eq_true q102
   go_wp2
   go_roundg k1
   case measure => have := HK1.out; omega
   case rel => exact ⟨(wrap64 (x3_1 + 1)), z4_, H', ⟨by have := HK1.out; omega⟩, by repeat (first | exact Drawn0.refl _ | apply Drawn0.step)⟩
def eC.f (k : Nat) (l0 : List (S102)) : Option (Bool) := if (l0.length : Int) > 40 then (some true) else ((cJ.f k l0).bind fun t103 => (some t103))
theorem eC.calls (k : Nat) (A0 : Option Addr) (c0 : Nat) (l0 : List (S102)) (r : Bool) (w : World) (hr0 : Kd.C k102 w A0 l0.length l0) (hc0 : l0.length ≤ c0) (h : eC.f k l0 = some r) :
  Calls Tryz.prog 22 #[.slice A0 l0.length c0] w fun e w' => e = .returned (.bool r) ∧ Drawn0 w w' := by
 have HR0 := mk_ hr0
 have HC0 := mk_ hc0
 clear hr0 hc0
 have H : (if (l0.length : Int) > 40 then (some true) else ((cJ.f k l0).bind fun t103 => (some t103))) = some r := h
 clear h
 by_cases c2 : (l0.length : Int) > 40
 rotate_left
 rw [if_neg c2] at H
 have c2b0 : decide (40 < (l0.length : Int)) = false := decide_eq_false c2
 have c2b1 : decide (40 < l0.length) = false := decide_eq_false z3_
 clear c2
 obtain ⟨t103, A3, H⟩ := Option.bind_eq_some_iff.mp H
 replace A3 := mk_ A3
 obtain rfl := Option.some.inj H
 rotate_right
 rw [if_pos c2] at H
 have c2b0 : decide (40 < (l0.length : Int)) = true := decide_eq_true c2
 have c2b1 : decide (40 < l0.length) = true := decide_eq_true z3_
 clear c2
 obtain rfl := Option.some.inj H
 all_goals
  go_enter Tryz.func22, Tryz.ntmps22
  go_wp2_with ((go_at_call 49; (with_reducible refine (cJ.calls k _ _ l0 t103 _ ?side1 ?side2 A3.out).mono ?_); (case side1 => repeat (first | exact HR0.out | (with_reducible refine C_alloc ?_ _) | (with_reducible refine C_drewN ?_ _) | (with_reducible refine C_drew ?_))); (case side2 => exact HC0.out); rintro e w' ⟨rfl, ⟨nd, rfl⟩⟩))
  go_ret
  exact ⟨z4_, by repeat (first | exact Drawn0.refl _ | apply Drawn0.step)⟩
def cE.l0 : Nat → List (S31) → Int → Option (Bool)
 | 0, _, _ => none
 | k + 1, x0, x3 => if x3 < (x0.length : Int) then (if 0 ≤ x3 then (if (((dF x0 x3).f1).length : Int) > 30 then (some true) else (if (((dF x0 x3).f5).size : Int) > 100 then (some true) else ((eC.f k ((dF x0 x3).f7)).bind fun t107 => (if t107 = true then (some true) else (if (((dF x0 x3).f8).length : Int) > 100 then (some true) else (cE.l0 k x0 (wrap64 (x3 + 1)))))))) else (none)) else (some false)
def cE.f (k : Nat) (l0 : List (S31)) : Option (Bool) := if (l0.length : Int) > 300 then (some true) else (cE.l0 k l0 0)
theorem cE.calls (k : Nat) (A0 : Option Addr) (c0 : Nat) (l0 : List (S31)) (r : Bool) (w : World) (hr0 : Kd.C k31 w A0 l0.length l0) (hc0 : l0.length ≤ c0) (h : cE.f k l0 = some r) :
  Calls Tryz.prog 5 #[.slice A0 l0.length c0] w fun e w' => e = .returned (.bool r) ∧ Drawn0 w w' := by
 have HR0 := mk_ hr0
 have HC0 := mk_ hc0
 clear hr0 hc0
 have H : (if (l0.length : Int) > 300 then (some true) else (cE.l0 k l0 0)) = some r := h
 clear h
 by_cases c2 : (l0.length : Int) > 300
 ·
  rw [if_pos c2] at H
  have c2b0 : decide (300 < (l0.length : Int)) = true := decide_eq_true c2
  have c2b1 : decide (300 < l0.length) = true := decide_eq_true z3_
  clear c2
  obtain rfl := Option.some.inj H
  go_enter Tryz.func5, Tryz.ntmps5
  go_wp2
  go_ret
  exact ⟨z4_, by repeat (first | exact Drawn0.refl _ | apply Drawn0.step)⟩
 rw [if_neg c2] at H
 have c2b0 : decide (300 < (l0.length : Int)) = false := decide_eq_false c2
 have c2b1 : decide (300 < l0.length) = false := decide_eq_false z3_
 clear c2
 have H' := mk_ H
 clear H
 go_enter Tryz.func5, Tryz.ntmps5
 go_wp2
 go_loopg [3] k (fun kq v3 w' => ∃ (x3_1 : Int), v3 = .int .i64 x3_1 ∧ Aside0 (cE.l0 kq l0 x3_1 = some r) ∧ Aside0 (kq ≤ k) ∧ Drawn0 w w')
 case atStart => exact ⟨(0), z4_, H', ⟨Nat.le_refl _⟩, by repeat (first | exact Drawn0.refl _ | apply Drawn0.step)⟩
 case round =>
  clear H'
  try clear c2
  try clear c2b0
  try clear c2b1
  try clear p2
  obtain ⟨x3_1, rfl, HA, HK1, ⟨m1, rfl⟩⟩ := hrel
  cases gk with
  | zero => exact absurd HA.out (by simp [cE.l0])
  | succ k1 =>
   have H := HA.out
   clear HA
   simp only [cE.l0] at H
   by_cases c3 : x3_1 < (l0.length : Int)
   rotate_left
   ·
    rw [if_neg c3] at H
    have c3b0 : decide (x3_1 < (l0.length : Int)) = false := decide_eq_false c3
    clear c3
    obtain rfl := Option.some.inj H
    go_wp2
    go_ret
    exact ⟨z4_, by repeat (first | exact Drawn0.refl _ | apply Drawn0.step)⟩
   rw [if_pos c3] at H
   have c3b0 : decide (x3_1 < (l0.length : Int)) = true := decide_eq_true c3
   clear c3
   by_cases c4 : 0 ≤ x3_1
   rotate_left
   ·
    rw [if_neg c4] at H
    exact absurd H z6_
   rw [if_pos c4] at H
   have c4b0 : decide (0 ≤ x3_1) = true := decide_eq_true c4
   clear c4
   by_cases c5 : (((dF l0 x3_1).f1).length : Int) > 30
   ·
    rw [if_pos c5] at H
    have c5b0 : decide (30 < (((dF l0 x3_1).f1).length : Int)) = true := decide_eq_true c5
    have c5b1 : decide (30 < ((dF l0 x3_1).f1).length) = true := decide_eq_true z3_
    clear c5
    obtain rfl := Option.some.inj H
    have p104 : 0 ≤ (x3_1 : Int) := of_decide_eq_true z1_
    have q104 : x3_1 < (l0.length : Int) := of_decide_eq_true z1_
    obtain ⟨ad104, A104_2, c104_2, A104_10, c104_10, A104_11, c104_11, e104, hx104_0, hx104_1, hx104_2, hx104_3, hx104_4, hx104_5, hx104_6, hx104_7, hx104_8, hx104_9, hx104_10, hx104_11, hl104_2, hi104_2, hl104_10, hi104_10, hl104_11, hi104_11⟩ := gK HR0.out x3_1 p104 q104
    cases e104
    have HR104_2 := mk_ hi104_2
    have HC104_2 := mk_ hl104_2
    clear hi104_2 hl104_2
    have HR104_10 := mk_ hi104_10
    have HC104_10 := mk_ hl104_10
    clear hi104_10 hl104_10
    have HR104_11 := mk_ hi104_11
    have HC104_11 := mk_ hl104_11
    clear hi104_11 hl104_11
    replace p104 := eq_true p104
    replace q104 := eq_true q104
    go_wp2
    go_ret
    exact ⟨z4_, by repeat (first | exact Drawn0.refl _ | apply Drawn0.step)⟩
   rw [if_neg c5] at H
   have c5b0 : decide (30 < (((dF l0 x3_1).f1).length : Int)) = false := decide_eq_false c5
   have c5b1 : decide (30 < ((dF l0 x3_1).f1).length) = false := decide_eq_false z3_
   clear c5
   by_cases c6 : (((dF l0 x3_1).f5).size : Int) > 100
   ·
    rw [if_pos c6] at H
    have c6b0 : decide (100 < (((dF l0 x3_1).f5).size : Int)) = true := decide_eq_true c6
    have c6b1 : decide (100 < ((dF l0 x3_1).f5).size) = true := decide_eq_true z3_
    clear c6
    obtain rfl := Option.some.inj H
    have p104 : 0 ≤ (x3_1 : Int) := of_decide_eq_true z1_
    have q104 : x3_1 < (l0.length : Int) := of_decide_eq_true z1_
    obtain ⟨ad104, A104_2, c104_2, A104_10, c104_10, A104_11, c104_11, e104, hx104_0, hx104_1, hx104_2, hx104_3, hx104_4, hx104_5, hx104_6, hx104_7, hx104_8, hx104_9, hx104_10, hx104_11, hl104_2, hi104_2, hl104_10, hi104_10, hl104_11, hi104_11⟩ := gK HR0.out x3_1 p104 q104
    cases e104
    have HR104_2 := mk_ hi104_2
    have HC104_2 := mk_ hl104_2
    clear hi104_2 hl104_2
    have HR104_10 := mk_ hi104_10
    have HC104_10 := mk_ hl104_10
    clear hi104_10 hl104_10
    have HR104_11 := mk_ hi104_11
    have HC104_11 := mk_ hl104_11
    clear hi104_11 hl104_11
    replace p104 := eq_true p104
    replace q104 := eq_true q104
    have p105 : 0 ≤ (x3_1 : Int) := of_decide_eq_true z1_
    have q105 : x3_1 < (l0.length : Int) := of_decide_eq_true z1_
    obtain ⟨ad105, A105_2, c105_2, A105_10, c105_10, A105_11, c105_11, e105, hx105_0, hx105_1, hx105_2, hx105_3, hx105_4, hx105_5, hx105_6, hx105_7, hx105_8, hx105_9, hx105_10, hx105_11, hl105_2, hi105_2, hl105_10, hi105_10, hl105_11, hi105_11⟩ := gK HR0.out x3_1 p105 q105
    obtain rfl : ad104 = ad105 := (by injection e105)
    have HR105_2 := mk_ hi105_2
    have HC105_2 := mk_ hl105_2
    clear hi105_2 hl105_2
    have HR105_10 := mk_ hi105_10
    have HC105_10 := mk_ hl105_10
    clear hi105_10 hl105_10
    have HR105_11 := mk_ hi105_11
    have HC105_11 := mk_ hl105_11
    clear hi105_11 hl105_11
    replace p105 := eq_true p105
    replace q105 := eq_true q105
    have ea_ := Option.some.inj (hx104_2.symm.trans hx105_2)
    injection ea_ with ea_ en_ ec_
    subst ea_
    subst ec_
    clear en_
    have ea_ := Option.some.inj (hx104_10.symm.trans hx105_10)
    injection ea_ with ea_ en_ ec_
    subst ea_
    subst ec_
    clear en_
    have ea_ := Option.some.inj (hx104_11.symm.trans hx105_11)
    injection ea_ with ea_ en_ ec_
    subst ea_
    subst ec_
    clear en_
    go_wp2
    go_ret
    exact ⟨z4_, by repeat (first | exact Drawn0.refl _ | apply Drawn0.step)⟩
   rw [if_neg c6] at H
   have c6b0 : decide (100 < (((dF l0 x3_1).f5).size : Int)) = false := decide_eq_false c6
   have c6b1 : decide (100 < ((dF l0 x3_1).f5).size) = false := decide_eq_false z3_
   clear c6
   obtain ⟨t107, A7, H⟩ := Option.bind_eq_some_iff.mp H
   replace A7 := mk_ A7
   by_cases c8 : t107 = true
   ·
    subst c8
    rw [if_pos rfl] at H
    obtain rfl := Option.some.inj H
    have p104 : 0 ≤ (x3_1 : Int) := of_decide_eq_true z1_
    have q104 : x3_1 < (l0.length : Int) := of_decide_eq_true z1_
    obtain ⟨ad104, A104_2, c104_2, A104_10, c104_10, A104_11, c104_11, e104, hx104_0, hx104_1, hx104_2, hx104_3, hx104_4, hx104_5, hx104_6, hx104_7, hx104_8, hx104_9, hx104_10, hx104_11, hl104_2, hi104_2, hl104_10, hi104_10, hl104_11, hi104_11⟩ := gK HR0.out x3_1 p104 q104
    cases e104
    have HR104_2 := mk_ hi104_2
    have HC104_2 := mk_ hl104_2
    clear hi104_2 hl104_2
    have HR104_10 := mk_ hi104_10
    have HC104_10 := mk_ hl104_10
    clear hi104_10 hl104_10
    have HR104_11 := mk_ hi104_11
    have HC104_11 := mk_ hl104_11
    clear hi104_11 hl104_11
    replace p104 := eq_true p104
    replace q104 := eq_true q104
    have p105 : 0 ≤ (x3_1 : Int) := of_decide_eq_true z1_
    have q105 : x3_1 < (l0.length : Int) := of_decide_eq_true z1_
    obtain ⟨ad105, A105_2, c105_2, A105_10, c105_10, A105_11, c105_11, e105, hx105_0, hx105_1, hx105_2, hx105_3, hx105_4, hx105_5, hx105_6, hx105_7, hx105_8, hx105_9, hx105_10, hx105_11, hl105_2, hi105_2, hl105_10, hi105_10, hl105_11, hi105_11⟩ := gK HR0.out x3_1 p105 q105
    obtain rfl : ad104 = ad105 := (by injection e105)
    have HR105_2 := mk_ hi105_2
    have HC105_2 := mk_ hl105_2
    clear hi105_2 hl105_2
    have HR105_10 := mk_ hi105_10
    have HC105_10 := mk_ hl105_10
    clear hi105_10 hl105_10
    have HR105_11 := mk_ hi105_11
    have HC105_11 := mk_ hl105_11
    clear hi105_11 hl105_11
    replace p105 := eq_true p105
    replace q105 := eq_true q105
    have ea_ := Option.some.inj (hx104_2.symm.trans hx105_2)
    injection ea_ with ea_ en_ ec_
    subst ea_
    subst ec_
    clear en_
    have ea_ := Option.some.inj (hx104_10.symm.trans hx105_10)
    injection ea_ with ea_ en_ ec_
    subst ea_
    subst ec_
    clear en_
    have ea_ := Option.some.inj (hx104_11.symm.trans hx105_11)
    injection ea_ with ea_ en_ ec_
    subst ea_
    subst ec_
    clear en_
    have p106 : 0 ≤ (x3_1 : Int) := of_decide_eq_true z1_
    have q106 : x3_1 < (l0.length : Int) := of_decide_eq_true z1_
    obtain ⟨ad106, A106_2, c106_2, A106_10, c106_10, A106_11, c106_11, e106, hx106_0, hx106_1, hx106_2, hx106_3, hx106_4, hx106_5, hx106_6, hx106_7, hx106_8, hx106_9, hx106_10, hx106_11, hl106_2, hi106_2, hl106_10, hi106_10, hl106_11, hi106_11⟩ := gK HR0.out x3_1 p106 q106
    obtain rfl : ad104 = ad106 := (by injection e106)
    have HR106_2 := mk_ hi106_2
    have HC106_2 := mk_ hl106_2
    clear hi106_2 hl106_2
    have HR106_10 := mk_ hi106_10
    have HC106_10 := mk_ hl106_10
    clear hi106_10 hl106_10
    have HR106_11 := mk_ hi106_11
    have HC106_11 := mk_ hl106_11
    clear hi106_11 hl106_11
    replace p106 := eq_true p106
    replace q106 := eq_true q106
    have ea_ := Option.some.inj (hx104_2.symm.trans hx106_2)
    injection ea_ with ea_ en_ ec_
    subst ea_
    subst ec_
    clear en_
    have ea_ := Option.some.inj (hx104_10.symm.trans hx106_10)
    injection ea_ with ea_ en_ ec_
    subst ea_
    subst ec_
    clear en_
    have ea_ := Option.some.inj (hx104_11.symm.trans hx106_11)
    injection ea_ with ea_ en_ ec_
    subst ea_
    subst ec_
    clear en_
    go_wp2_with (first | (go_at_call 22; (with_reducible refine (eC.calls k1 _ _ ((dF l0 x3_1).f7) true _ ?side1 ?side2 A7.out).mono ?_); (case side1 => repeat (first | exact HR106_10.out | (with_reducible refine C_alloc ?_ _) | (with_reducible refine C_drewN ?_ _) | (with_reducible refine C_drew ?_))); (case side2 => exact HC106_10.out); rintro e w' ⟨rfl, ⟨nd, rfl⟩⟩))
    go_ret
    exact ⟨z4_, by repeat (first | exact Drawn0.refl _ | apply Drawn0.step)⟩
   replace c8 := Bool.eq_false_iff.mpr c8
   subst c8
   rw [if_neg (show ¬ (false = true) by decide)] at H
   by_cases c9 : (((dF l0 x3_1).f8).length : Int) > 100
   ·
    rw [if_pos c9] at H
    have c9b0 : decide (100 < (((dF l0 x3_1).f8).length : Int)) = true := decide_eq_true c9
    have c9b1 : decide (100 < ((dF l0 x3_1).f8).length) = true := decide_eq_true z3_
    clear c9
    obtain rfl := Option.some.inj H
    have p104 : 0 ≤ (x3_1 : Int) := of_decide_eq_true z1_
    have q104 : x3_1 < (l0.length : Int) := of_decide_eq_true z1_
    obtain ⟨ad104, A104_2, c104_2, A104_10, c104_10, A104_11, c104_11, e104, hx104_0, hx104_1, hx104_2, hx104_3, hx104_4, hx104_5, hx104_6, hx104_7, hx104_8, hx104_9, hx104_10, hx104_11, hl104_2, hi104_2, hl104_10, hi104_10, hl104_11, hi104_11⟩ := gK HR0.out x3_1 p104 q104
    cases e104
    have HR104_2 := mk_ hi104_2
    have HC104_2 := mk_ hl104_2
    clear hi104_2 hl104_2
    have HR104_10 := mk_ hi104_10
    have HC104_10 := mk_ hl104_10
    clear hi104_10 hl104_10
    have HR104_11 := mk_ hi104_11
    have HC104_11 := mk_ hl104_11
    clear hi104_11 hl104_11
    replace p104 := eq_true p104
    replace q104 := eq_true q104
    have p105 : 0 ≤ (x3_1 : Int) := of_decide_eq_true z1_
    have q105 : x3_1 < (l0.length : Int) := of_decide_eq_true z1_
    obtain ⟨ad105, A105_2, c105_2, A105_10, c105_10, A105_11, c105_11, e105, hx105_0, hx105_1, hx105_2, hx105_3, hx105_4, hx105_5, hx105_6, hx105_7, hx105_8, hx105_9, hx105_10, hx105_11, hl105_2, hi105_2, hl105_10, hi105_10, hl105_11, hi105_11⟩ := gK HR0.out x3_1 p105 q105
    obtain rfl : ad104 = ad105 := (by injection e105)
    have HR105_2 := mk_ hi105_2
    have HC105_2 := mk_ hl105_2
    clear hi105_2 hl105_2
    have HR105_10 := mk_ hi105_10
    have HC105_10 := mk_ hl105_10
    clear hi105_10 hl105_10
    have HR105_11 := mk_ hi105_11
    have HC105_11 := mk_ hl105_11
    clear hi105_11 hl105_11
    replace p105 := eq_true p105
    replace q105 := eq_true q105
    have ea_ := Option.some.inj (hx104_2.symm.trans hx105_2)
    injection ea_ with ea_ en_ ec_
    subst ea_
    subst ec_
    clear en_
    have ea_ := Option.some.inj (hx104_10.symm.trans hx105_10)
    injection ea_ with ea_ en_ ec_
    subst ea_
    subst ec_
    clear en_
    have ea_ := Option.some.inj (hx104_11.symm.trans hx105_11)
    injection ea_ with ea_ en_ ec_
    subst ea_
    subst ec_
    clear en_
    have p106 : 0 ≤ (x3_1 : Int) := of_decide_eq_true z1_
    have q106 : x3_1 < (l0.length : Int) := of_decide_eq_true z1_
    obtain ⟨ad106, A106_2, c106_2, A106_10, c106_10, A106_11, c106_11, e106, hx106_0, hx106_1, hx106_2, hx106_3, hx106_4, hx106_5, hx106_6, hx106_7, hx106_8, hx106_9, hx106_10, hx106_11, hl106_2, hi106_2, hl106_10, hi106_10, hl106_11, hi106_11⟩ := gK HR0.out x3_1 p106 q106
    obtain rfl : ad104 = ad106 := (by injection e106)
    have HR106_2 := mk_ hi106_2
    have HC106_2 := mk_ hl106_2
    clear hi106_2 hl106_2
    have HR106_10 := mk_ hi106_10
    have HC106_10 := mk_ hl106_10
    clear hi106_10 hl106_10
    have HR106_11 := mk_ hi106_11
    have HC106_11 := mk_ hl106_11
    clear hi106_11 hl106_11
    replace p106 := eq_true p106
    replace q106 := eq_true q106
    have ea_ := Option.some.inj (hx104_2.symm.trans hx106_2)
    injection ea_ with ea_ en_ ec_
    subst ea_
    subst ec_
    clear en_
    have ea_ := Option.some.inj (hx104_10.symm.trans hx106_10)
    injection ea_ with ea_ en_ ec_
    subst ea_
    subst ec_
    clear en_
    have ea_ := Option.some.inj (hx104_11.symm.trans hx106_11)
    injection ea_ with ea_ en_ ec_
    subst ea_
    subst ec_
    clear en_
    go_wp2_with (first | (go_at_call 22; (with_reducible refine (eC.calls k1 _ _ ((dF l0 x3_1).f7) false _ ?side1 ?side2 A7.out).mono ?_); (case side1 => repeat (first | exact HR106_10.out | (with_reducible refine C_alloc ?_ _) | (with_reducible refine C_drewN ?_ _) | (with_reducible refine C_drew ?_))); (case side2 => exact HC106_10.out); rintro e w' ⟨rfl, ⟨nd, rfl⟩⟩; have p108 : 0 ≤ (x3_1 : Int) := of_decide_eq_true z1_; have q108 : x3_1 < (l0.length : Int) := of_decide_eq_true z1_; obtain ⟨ad108, A108_2, c108_2, A108_10, c108_10, A108_11, c108_11, e108, hx108_0, hx108_1, hx108_2, hx108_3, hx108_4, hx108_5, hx108_6, hx108_7, hx108_8, hx108_9, hx108_10, hx108_11, hl108_2, hi108_2, hl108_10, hi108_10, hl108_11, hi108_11⟩ := gK HR0.out x3_1 p108 q108; obtain rfl : ad104 = ad108 := (by injection e108); have HR108_2 := mk_ hi108_2; have HC108_2 := mk_ hl108_2; clear hi108_2 hl108_2; have HR108_10 := mk_ hi108_10; have HC108_10 := mk_ hl108_10; clear hi108_10 hl108_10; have HR108_11 := mk_ hi108_11; have HC108_11 := mk_ hl108_11; clear hi108_11 hl108_11; replace p108 := eq_true p108; replace q108 := eq_true q108; have ea_ := Option.some.inj (hx104_2.symm.trans hx108_2); injection ea_ with ea_ en_ ec_; subst ea_; subst ec_; clear en_; have ea_ := Option.some.inj (hx104_10.symm.trans hx108_10); injection ea_ with ea_ en_ ec_; subst ea_; subst ec_; clear en_; have ea_ := Option.some.inj (hx104_11.symm.trans hx108_11); injection ea_ with ea_ en_ ec_; subst ea_; subst ec_; clear en_))
    go_ret
    exact ⟨z4_, by repeat (first | exact Drawn0.refl _ | apply Drawn0.step)⟩
   rw [if_neg c9] at H
   have c9b0 : decide (100 < (((dF l0 x3_1).f8).length : Int)) = false := decide_eq_false c9
   have c9b1 : decide (100 < ((dF l0 x3_1).f8).length) = false := decide_eq_false z3_
   clear c9
   have H' := mk_ H
   clear H
   have p104 : 0 ≤ (x3_1 : Int) := of_decide_eq_true z1_
   have q104 : x3_1 < (l0.length : Int) := of_decide_eq_true z1_
   obtain ⟨ad104, A104_2, c104_2, A104_10, c104_10, A104_11, c104_11, e104, hx104_0, hx104_1, hx104_2, hx104_3, hx104_4, hx104_5, hx104_6, hx104_7, hx104_8, hx104_9, hx104_10, hx104_11, hl104_2, hi104_2, hl104_10, hi104_10, hl104_11, hi104_11⟩ := gK HR0.out x3_1 p104 q104
   cases e104
   have HR104_2 := mk_ hi104_2
   have HC104_2 := mk_ hl104_2
   clear hi104_2 hl104_2
   have HR104_10 := mk_ hi104_10
   have HC104_10 := mk_ hl104_10
   clear hi104_10 hl104_10
   have HR104_11 := mk_ hi104_11
   have HC104_11 := mk_ hl104_11
   clear hi104_11 hl104_11
   replace p104 := eq_true p104
   replace q104 := eq_true q104
   have p105 : 0 ≤ (x3_1 : Int) := of_decide_eq_true z1_
   have q105 : x3_1 < (l0.length : Int) := of_decide_eq_true z1_
   obtain ⟨ad105, A105_2, c105_2, A105_10, c105_10, A105_11, c105_11, e105, hx105_0, hx105_1, hx105_2, hx105_3, hx105_4, hx105_5, hx105_6, hx105_7, hx105_8, hx105_9, hx105_10, hx105_11, hl105_2, hi105_2, hl105_10, hi105_10, hl105_11, hi105_11⟩ := gK HR0.out x3_1 p105 q105
   obtain rfl : ad104 = ad105 := (by injection e105)
   have HR105_2 := mk_ hi105_2
   have HC105_2 := mk_ hl105_2
   clear hi105_2 hl105_2
   have HR105_10 := mk_ hi105_10
   have HC105_10 := mk_ hl105_10
   clear hi105_10 hl105_10
   have HR105_11 := mk_ hi105_11
   have HC105_11 := mk_ hl105_11
   clear hi105_11 hl105_11
   replace p105 := eq_true p105
   replace q105 := eq_true q105
   have ea_ := Option.some.inj (hx104_2.symm.trans hx105_2)
   injection ea_ with ea_ en_ ec_
   subst ea_
   subst ec_
   clear en_
   have ea_ := Option.some.inj (hx104_10.symm.trans hx105_10)
   injection ea_ with ea_ en_ ec_
   subst ea_
   subst ec_
   clear en_
   have ea_ := Option.some.inj (hx104_11.symm.trans hx105_11)
   injection ea_ with ea_ en_ ec_
   subst ea_
   subst ec_
   clear en_
   have p106 : 0 ≤ (x3_1 : Int) := of_decide_eq_true z1_
   have q106 : x3_1 < (l0.length : Int) := of_decide_eq_true z1_
   obtain ⟨ad106, A106_2, c106_2, A106_10, c106_10, A106_11, c106_11, e106, hx106_0, hx106_1, hx106_2, hx106_3, hx106_4, hx106_5, hx106_6, hx106_7, hx106_8, hx106_9, hx106_10, hx106_11, hl106_2, hi106_2, hl106_10, hi106_10, hl106_11, hi106_11⟩ := gK HR0.out x3_1 p106 q106
   obtain rfl : ad104 = ad106 := (by injection e106)
   have HR106_2 := mk_ hi106_2
   have HC106_2 := mk_ hl106_2
   clear hi106_2 hl106_2
   have HR106_10 := mk_ hi106_10
   have HC106_10 := mk_ hl106_10
   clear hi106_10 hl106_10
   have HR106_11 := mk_ hi106_11
   have HC106_11 := mk_ hl106_11
   clear hi106_11 hl106_11
   replace p106 := eq_true p106
   replace q106 := eq_true q106
   have ea_ := Option.some.inj (hx104_2.symm.trans hx106_2)
   injection ea_ with ea_ en_ ec_
   subst ea_
   subst ec_
   clear en_
   have ea_ := Option.some.inj (hx104_10.symm.trans hx106_10)
   injection ea_ with ea_ en_ ec_
   subst ea_
   subst ec_
   clear en_
   have ea_ := Option.some.inj (hx104_11.symm.trans hx106_11)
   injection ea_ with ea_ en_ ec_
   subst ea_
   subst ec_
   clear en_
   go_wp2_with (first | (go_at_call 22; (with_reducible refine (eC.calls k1 _ _ ((dF l0 x3_1).f7) false _ ?side1 ?side2 A7.out).mono ?_); (case side1 => repeat (first | exact HR106_10.out | (with_reducible refine C_alloc ?_ _) | (with_reducible refine C_drewN ?_ _) | (with_reducible refine C_drew ?_))); (case side2 => exact HC106_10.out); rintro e w' ⟨rfl, ⟨nd, rfl⟩⟩; have p108 : 0 ≤ (x3_1 : Int) := of_decide_eq_true z1_; have q108 : x3_1 < (l0.length : Int) := of_decide_eq_true z1_; obtain ⟨ad108, A108_2, c108_2, A108_10, c108_10, A108_11, c108_11, e108, hx108_0, hx108_1, hx108_2, hx108_3, hx108_4, hx108_5, hx108_6, hx108_7, hx108_8, hx108_9, hx108_10, hx108_11, hl108_2, hi108_2, hl108_10, hi108_10, hl108_11, hi108_11⟩ := gK HR0.out x3_1 p108 q108; obtain rfl : ad104 = ad108 := (by injection e108); have HR108_2 := mk_ hi108_2; have HC108_2 := mk_ hl108_2; clear hi108_2 hl108_2; have HR108_10 := mk_ hi108_10; have HC108_10 := mk_ hl108_10; clear hi108_10 hl108_10; have HR108_11 := mk_ hi108_11; have HC108_11 := mk_ hl108_11; clear hi108_11 hl108_11; replace p108 := eq_true p108; replace q108 := eq_true q108; have ea_ := Option.some.inj (hx104_2.symm.trans hx108_2); injection ea_ with ea_ en_ ec_; subst ea_; subst ec_; clear en_; have ea_ := Option.some.inj (hx104_10.symm.trans hx108_10); injection ea_ with ea_ en_ ec_; subst ea_; subst ec_; clear en_; have ea_ := Option.some.inj (hx104_11.symm.trans hx108_11); injection ea_ with ea_ en_ ec_; subst ea_; subst ec_; clear en_))
   go_roundg k1
   case measure => have := HK1.out; omega
   case rel => exact ⟨(wrap64 (x3_1 + 1)), z4_, H', ⟨by have := HK1.out; omega⟩, by repeat (first | exact Drawn0.refl _ | apply Drawn0.step)⟩
def dK.f (l0 : List Int) : Option (List Int) := if ([] : List Int).length + l0.length < 17592186044416 then (some (([] : List Int) ++ l0)) else (none)
theorem dK.calls (A0 : Option Addr) (c0 : Nat) (l0 : List Int) (r : List Int) (w : World) (hr0 : Kd.C (Kd.int .i64) w A0 l0.length l0) (hc0 : l0.length ≤ c0) (h : dK.f l0 = some r) :
  Calls Tryz.prog 23 #[.slice A0 l0.length c0] w fun e w' => ∃ v0_ : Value, e = .returned (v0_) ∧ Kd.R (Kd.int .i64) 3 w' w.heap.size (fun _ => True) v0_ r ∧ Below w.heap.size w w' := by
 have HR0 := mk_ hr0
 have HC0 := mk_ hc0
 clear hr0 hc0
 have HB := mk_ (Below.refl w.heap.size w)
 have H : (if ([] : List Int).length + l0.length < 17592186044416 then (some (([] : List Int) ++ l0)) else (none)) = some r := h
 clear h
 by_cases c2 : ([] : List Int).length + l0.length < 17592186044416
 rotate_left
 ·
  rw [if_neg c2] at H
  exact absurd H z6_
 rw [if_pos c2] at H
 have LMc2 := mk_ c2
 clear c2
 obtain ⟨y109, hy109⟩ : ∃ y_ : List Int, y_ = (([] : List Int) ++ l0) := ⟨_, rfl⟩
 replace H : (some y109) = some r := by first | (rw [hy109]; with_reducible exact H) | (have H2_ := (Option.bind_some _ _).symm.trans H; rw [hy109]; with_reducible exact H2_) | (have H2_ := (Option.bind_some _ _).symm.trans H; with_reducible exact H2_) | with_reducible exact H | (rw [hy109]; exact H) | exact H
 have Ny109 := mk_ hy109
 clear hy109
 obtain rfl := Option.some.inj H
 go_enter Tryz.func23, Tryz.ntmps23
 go_wp2_with (first | ((with_reducible refine cK (b := .append) (xs := #[.tmp 4, .tmp 5]) rfl ?_); at_builtin; refine eF (Kd.int .i64) (w0 := w) w.heap.size rfl (.tmp 4) (.tmp 5) 25 3 (.int .i64 0) 8 rfl Tryz.underlying25 info3 rfl z5_ z3_ (.slice none 0 0) ([] : List Int) l0 _ _ _ (fun _ => True) (fun _ => False) rfl rfl ?aO ?aR (fun _ _ h => h) (fun _ h => h.elim) ?aF ?aB ?aS ?aL ?_; (case aR => repeat (first | exact HR0.out | (with_reducible refine C_alloc ?_ _) | (with_reducible refine C_drewN ?_ _) | (with_reducible refine C_drew ?_))); (case aB => exact (Short.hB HB)); (case aF => exact (fun _ _ => trivial)); (case aO => exact ((R_nil _ _ _ _ (fun _ => True)))); (case aS => exact (aA (Short.hB HB))); (case aL => have := LMc2.out; omega); intro v110 w3 ho hb hg hat; rw [← Ny109.out] at ho; have n0_ := mk_ (hb); have n1_ := mk_ (ho); clear HB; revert n0_ n1_; intro HB HO111; clear ho hb hg hat))
 go_ret
 exact ⟨_, by first | rfl | (simp [aZ, aY] <;> rfl) | (simp [*, aZ, aY] <;> rfl), by (with_reducible repeat (first | apply R_alloc | apply R_drewN | apply R_drew)); exact HO111.out, Short.hB HB⟩
def eH.f (l0 : List (S102)) : Option ((List (S102))) := if ([] : List (S102)).length + l0.length < 4398046511104 then (some (([] : List (S102)) ++ l0)) else (none)
theorem eH.calls (A0 : Option Addr) (c0 : Nat) (l0 : List (S102)) (r : List (S102)) (w : World) (hr0 : Kd.C k102 w A0 l0.length l0) (hc0 : l0.length ≤ c0) (h : eH.f l0 = some r) :
  Calls Tryz.prog 24 #[.slice A0 l0.length c0] w fun e w' => ∃ v0_ : Value, e = .returned (v0_) ∧ Kd.R k102 102 w' w.heap.size (fun _ => True) v0_ r ∧ Below w.heap.size w w' := by
 have HR0 := mk_ hr0
 have HC0 := mk_ hc0
 clear hr0 hc0
 have HB := mk_ (Below.refl w.heap.size w)
 have H : (if ([] : List (S102)).length + l0.length < 4398046511104 then (some (([] : List (S102)) ++ l0)) else (none)) = some r := h
 clear h
 by_cases c2 : ([] : List (S102)).length + l0.length < 4398046511104
 rotate_left
 ·
  rw [if_neg c2] at H
  exact absurd H z6_
 rw [if_pos c2] at H
 have LMc2 := mk_ c2
 clear c2
 obtain ⟨y112, hy112⟩ : ∃ y_ : List (S102), y_ = (([] : List (S102)) ++ l0) := ⟨_, rfl⟩
 replace H : (some y112) = some r := by first | (rw [hy112]; with_reducible exact H) | (have H2_ := (Option.bind_some _ _).symm.trans H; rw [hy112]; with_reducible exact H2_) | (have H2_ := (Option.bind_some _ _).symm.trans H; with_reducible exact H2_) | with_reducible exact H | (rw [hy112]; exact H) | exact H
 have Ny112 := mk_ hy112
 clear hy112
 obtain rfl := Option.some.inj H
 go_enter Tryz.func24, Tryz.ntmps24
 go_wp2_with (first | ((with_reducible refine cK (b := .append) (xs := #[.tmp 4, .tmp 5]) rfl ?_); at_builtin; refine eF k102 (w0 := w) w.heap.size rfl (.tmp 4) (.tmp 5) 28 102 (.agg #[(.int .i64 0), (.int .i64 0), (.string ⟨#[]⟩)]) 32 rfl Tryz.underlying28 info102 rfl z5_ z3_ (.slice none 0 0) ([] : List (S102)) l0 _ _ _ (fun _ => True) (fun _ => False) rfl rfl ?aO ?aR (fun _ _ h => h) (fun _ h => h.elim) ?aF ?aB ?aS ?aL ?_; (case aR => repeat (first | exact HR0.out | (with_reducible refine C_alloc ?_ _) | (with_reducible refine C_drewN ?_ _) | (with_reducible refine C_drew ?_))); (case aB => exact (Short.hB HB)); (case aF => exact (fun _ _ => trivial)); (case aO => exact ((R_nil _ _ _ _ (fun _ => True)))); (case aS => exact (aA (Short.hB HB))); (case aL => have := LMc2.out; omega); intro v113 w3 ho hb hg hat; rw [← Ny112.out] at ho; have n0_ := mk_ (hb); have n1_ := mk_ (ho); clear HB; revert n0_ n1_; intro HB HO114; clear ho hb hg hat))
 go_ret
 exact ⟨_, by first | rfl | (simp [aZ, aY] <;> rfl) | (simp [*, aZ, aY] <;> rfl), by (with_reducible repeat (first | apply R_alloc | apply R_drewN | apply R_drew)); exact HO114.out, Short.hB HB⟩
end Go.Proofs.YtjnjfogfpmeacaaGreat.PAll
end
section
namespace Go.Proofs.YtjnjfogfpmeacaaGreat.PAll
open Go.RowKit PrintWords PrintLast PrintMore ZipT PrintWords.Kd PrintMore.Kd
attribute [local go_sem] eP eN fD fA dS dT eO eK   -- for this text's walks alone
set_option linter.unusedVariables false
set_option linter.unusedSimpArgs false
def cQ.f (a0_0 : Int) (a0_1 : Int) (l0_2 : List Int) (a0_3 : Int) (a0_4 : Int) (a0_5 : Int) (a0_6 : Int) (a0_7 : Int) (a0_8 : ByteArray) (a0_9 : Int) (l0_10 : List (S102)) (l0_11 : List (S24)) : Option (Int × Int × List Int × Int × Int × Int × Int × Int × ByteArray × Int × (List (S102)) × (List (S24))) := (dK.f l0_2).bind fun t117 => ((eH.f l0_10).bind fun t120 => (if ([] : List (S24)).length + l0_11.length < 8796093022208 then (some (a0_0, a0_1, t117, a0_3, a0_4, a0_5, a0_6, a0_7, a0_8, a0_9, t120, (([] : List (S24)) ++ l0_11))) else (none)))
def cQ.T2 : Bool × List (List Nat × List Nat) := (true, [([], []), ([0], [0]), ([1], [1]), ([], []), ([3], [3]), ([4, 2], [4]), ([], []), ([], []), ([7], [7]), ([6, 8, 5], [6, 8]), ([0, 1, 2, 3, 4, 7, 8], []), ([10, 2, 9, 0, 1, 2, 3, 4, 7, 8], [2, 10]), ([0, 1, 2, 3, 4, 5, 7, 8, 10, 11], []), ([12, 5, 11, 0, 1, 2, 3, 4, 5, 7, 8, 10, 11], [5, 12]), ([0, 1, 2, 3, 4, 5, 6, 7, 8, 9, 10, 11, 12, 13], []), ([14, 9, 13, 0, 1, 2, 3, 4, 5, 6, 7, 8, 9, 10, 11, 12, 13], [9, 14])])
def cQ.B2 : List Nat := [0, 1, 3, 0, 8, 31, 0, 0, 128, 511, 415, 2047, 4095, 8191, 16383, 32767]
theorem cQ.tab2 : rtab .any (opsOf Tryz.f6 2) = cQ.T2 := by kernel_rfl
theorem cQ.bits2 : waitsOk cQ.T2.2 cQ.B2 = true := by kernel_rfl
theorem cQ.calls (a0_0 : Int) (a0_1 : Int) (A0_2 : Option Addr) (c0_2 : Nat) (l0_2 : List Int) (a0_3 : Int) (a0_4 : Int) (a0_5 : Int) (a0_6 : Int) (a0_7 : Int) (a0_8 : ByteArray) (a0_9 : Int) (A0_10 : Option Addr) (c0_10 : Nat) (l0_10 : List (S102)) (A0_11 : Option Addr) (c0_11 : Nat) (l0_11 : List (S24)) (r1 : Int) (r2 : Int) (r3 : List Int) (r4 : Int) (r5 : Int) (r6 : Int) (r7 : Int) (r8 : Int) (r9 : ByteArray) (r10 : Int) (r11 : List (S102)) (r12 : List (S24)) (w : World) (hr0_2 : Kd.C (Kd.int .i64) w A0_2 l0_2.length l0_2) (hc0_2 : l0_2.length ≤ c0_2) (hr0_10 : Kd.C k102 w A0_10 l0_10.length l0_10) (hc0_10 : l0_10.length ≤ c0_10) (hr0_11 : Kd.C k24 w A0_11 l0_11.length l0_11) (hc0_11 : l0_11.length ≤ c0_11) (h : cQ.f a0_0 a0_1 l0_2 a0_3 a0_4 a0_5 a0_6 a0_7 a0_8 a0_9 l0_10 l0_11 = some (r1, r2, r3, r4, r5, r6, r7, r8, r9, r10, r11, r12)) :
  Calls Tryz.prog 6 #[.agg #[.int .i64 a0_0, .int .i64 a0_1, .slice A0_2 l0_2.length c0_2, .int .i64 a0_3, .int .i64 a0_4, .int .i64 a0_5, .int .i64 a0_6, .int .i64 a0_7, .string a0_8, .int .i64 a0_9, .slice A0_10 l0_10.length c0_10, .slice A0_11 l0_11.length c0_11]] w fun e w' => ∃ v2_ v10_ v11_ : Value, e = .returned (.agg #[.int .i64 r1, .int .i64 r2, v2_, .int .i64 r4, .int .i64 r5, .int .i64 r6, .int .i64 r7, .int .i64 r8, .string r9, .int .i64 r10, v10_, v11_]) ∧ Kd.R (Kd.int .i64) 3 w' w.heap.size (fun _ => True) v2_ r3 ∧ Kd.R k102 102 w' w.heap.size (fun _ => True) v10_ r11 ∧ Kd.R k24 24 w' w.heap.size (fun _ => True) v11_ r12 ∧ Below w.heap.size w w' := by
 have hu31 := Tryz.underlying31
 have HR0_2 := mk_ hr0_2
 have HC0_2 := mk_ hc0_2
 clear hr0_2 hc0_2
 have HR0_10 := mk_ hr0_10
 have HC0_10 := mk_ hc0_10
 clear hr0_10 hc0_10
 have HR0_11 := mk_ hr0_11
 have HC0_11 := mk_ hc0_11
 clear hr0_11 hc0_11
 have HB := mk_ (Below.refl w.heap.size w)
 have H : ((dK.f l0_2).bind fun t117 => ((eH.f l0_10).bind fun t120 => (if ([] : List (S24)).length + l0_11.length < 8796093022208 then (some (a0_0, a0_1, t117, a0_3, a0_4, a0_5, a0_6, a0_7, a0_8, a0_9, t120, (([] : List (S24)) ++ l0_11))) else (none)))) = some (r1, r2, r3, r4, r5, r6, r7, r8, r9, r10, r11, r12) := h
 clear h
 obtain ⟨t117, A2, H⟩ := Option.bind_eq_some_iff.mp H
 replace A2 := mk_ A2
 obtain ⟨t120, A3, H⟩ := Option.bind_eq_some_iff.mp H
 replace A3 := mk_ A3
 by_cases c4 : ([] : List (S24)).length + l0_11.length < 8796093022208
 rotate_left
 ·
  rw [if_neg c4] at H
  exact absurd H z6_
 rw [if_pos c4] at H
 have LMc4 := mk_ c4
 clear c4
 obtain ⟨y123, hy123⟩ : ∃ y_ : List (S24), y_ = (([] : List (S24)) ++ l0_11) := ⟨_, rfl⟩
 replace H : (some (a0_0, a0_1, t117, a0_3, a0_4, a0_5, a0_6, a0_7, a0_8, a0_9, t120, y123)) = some (r1, r2, r3, r4, r5, r6, r7, r8, r9, r10, r11, r12) := by first | (rw [hy123]; with_reducible exact H) | (have H2_ := (Option.bind_some _ _).symm.trans H; rw [hy123]; with_reducible exact H2_) | (have H2_ := (Option.bind_some _ _).symm.trans H; with_reducible exact H2_) | with_reducible exact H | (rw [hy123]; exact H) | exact H
 have Ny123 := mk_ hy123
 clear hy123
 simp only [Option.some.injEq, Prod.mk.injEq] at H
 obtain ⟨rfl, rfl, rfl, rfl, rfl, rfl, rfl, rfl, rfl, rfl, rfl, rfl⟩ := H
 go_enter Tryz.func6, Tryz.ntmps6
 try go_wp2_with (first | ((with_reducible refine aQ (N := 1) rfl ?_); refine aN ?hg (N := 1) ?hd (cs := #[.int .i64 a0_0, .int .i64 a0_1, .slice A0_2 l0_2.length c0_2, .int .i64 a0_3, .int .i64 a0_4, .int .i64 a0_5, .int .i64 a0_6, .int .i64 a0_7, .string a0_8, .int .i64 a0_9, .slice A0_10 l0_10.length c0_10, .slice A0_11 l0_11.length c0_11]) (t := 31) ?hr ?_; (case hd => rfl); (case hg => rfl); (case hr => first | (go_simp; done) | (go_simp; rfl)); intro gb115 hg w5 hbox hb; have n0_ := mk_ (aC (Short.hB HB) hb); have n1_ := mk_ (hbox); have n2_ := mk_ ((by rw [hg]; exact (aA (Short.hB HB)) : w.heap.size ≤ gb115)); have n3_ := mk_ ((by rw [hg]; exact (aA (Short.hB HB)) : w.heap.size ≤ gb115)); clear HB; revert n0_ n1_ n2_ n3_; intro HB BK115 GW115 GE115; clear hb hbox hg) | ((with_reducible refine aQ (N := 2) rfl ?_); refine aN ?hg (N := 2) ?hd (cs := #[.int .i64 0, .int .i64 0, .slice none 0 0, .int .i64 0, .int .i64 0, .int .i64 0, .int .i64 0, .int .i64 0, .string (⟨#[]⟩ : ByteArray), .int .i64 0, .slice none 0 0, .slice none 0 0]) (t := 31) ?hr ?_; (case hd => rfl); (case hg => rfl); (case hr => first | (go_simp; done) | (go_simp; rfl)); intro gb116 hg w6 hbox hb; have n0_ := mk_ (bB_ BK115 hb); have n1_ := mk_ (aC (Short.hB HB) hb); have n2_ := mk_ (hbox); have n3_ := mk_ ((by rw [hg]; exact (aA (Short.hB HB)) : w.heap.size ≤ gb116)); have n4_ := mk_ ((by rw [hg]; exact (aA (Short.hB HB)) : w.heap.size ≤ gb116)); have n5_ := mk_ ((by rw [hg]; exact Nat.ne_of_lt (eA (Short.bK BK115)) : gb115 ≠ gb116)); have n6_ := mk_ ((by rw [hg]; exact Nat.ne_of_gt (eA (Short.bK BK115)) : gb116 ≠ gb115)); clear BK115 HB; revert n0_ n1_ n2_ n3_ n4_ n5_ n6_; intro BK115 HB BK116 GW116 GE116 NB115_116 NB116_115; clear hb hbox hg))
 have n0_ := mk_ (aI BK115.out)
 have n1_ := mk_ (aI BK116.out)
 have n2_ := mk_ (dE HB.out)
 clear BK115 BK116 HB
 revert n0_ n1_ n2_
 intro BK115 BK116 HB
 refine fM (n := 16) (S := fun w' => w'.cell? ⟨gb115, 0, none⟩ = some (.int .i64 a0_0) ∧ w'.cell? ⟨gb115, 1, none⟩ = some (.int .i64 a0_1) ∧ w'.cell? ⟨gb115, 2, none⟩ = some (.slice A0_2 l0_2.length c0_2) ∧ w'.cell? ⟨gb115, 3, none⟩ = some (.int .i64 a0_3) ∧ w'.cell? ⟨gb115, 4, none⟩ = some (.int .i64 a0_4) ∧ w'.cell? ⟨gb115, 5, none⟩ = some (.int .i64 a0_5) ∧ w'.cell? ⟨gb115, 6, none⟩ = some (.int .i64 a0_6) ∧ w'.cell? ⟨gb115, 7, none⟩ = some (.int .i64 a0_7) ∧ w'.cell? ⟨gb115, 8, none⟩ = some (.string a0_8) ∧ w'.cell? ⟨gb115, 9, none⟩ = some (.int .i64 a0_9) ∧ w'.cell? ⟨gb115, 10, none⟩ = some (.slice A0_10 l0_10.length c0_10) ∧ w'.cell? ⟨gb115, 11, none⟩ = some (.slice A0_11 l0_11.length c0_11)) (ds := [11, 13, 15]) (Steps.Bs 16 0) z2_ rfl rfl (k12e_ BK115) (fun hHeld => ?_); refine cZ cQ.tab2 cQ.bits2 (fun HT_ HW_ => ?_)
 generalize w6.drew = w7 at BK115 BK116 HB hHeld ⊢
 refine tI HT_ 0 4 16 1 ?_
 refine tI HT_ 3 7 16 9 ?_
 refine tI HT_ 6 10 16 73 ?_
 refine tI HT_ 7 11 16 201 ?_
 refine tT HT_ HW_ hHeld 1 5 16 203 ?_
 refine tT HT_ HW_ hHeld 4 8 16 219 ?_
 refine tT HT_ HW_ hHeld 8 12 16 475 ?_
 refine one_ (i := 2) (N := some 6) (Steps.Bs 16 479) rfl rfl (cB HT_.out z2_) z5_ (fun K hK => ?_)
 refine goes_ Tryz.func23 z2_ rfl #[.slice A0_2 l0_2.length c0_2] (by rfl) rfl rfl z0_ ?_
 with_reducible refine (dK.calls _ _ l0_2 t117 _ ?side1 ?side2 A2.out).mono ?_
 (case side1 => exact cX_ (aU HR0_2.out HB.out))
 (case side2 => exact HC0_2.out)
 rintro e w8 ⟨v118, rfl, ho0, hb⟩
 refine ⟨_, rfl, ?_⟩
 have n0_ := mk_ (bW ho0 (aA (Short.hB HB)))
 have n1_ := mk_ (bB_ BK115 hb)
 have n2_ := mk_ (bB_ BK116 hb)
 have n3_ := mk_ (aC (Short.hB HB) hb)
 clear BK115 BK116 HB
 revert n0_ n1_ n2_ n3_
 intro HO119 BK115 BK116 HB
 (try clear hb)
 (try clear hb2)
 (try clear hk)
 (try clear hi)
 (try clear ho0)
 refine hK.out _ _ (k12e_ BK115) (fun hHeld => ?_)
 clear hK K
 refine nrm 6 ?_
 refine tI HT_ 10 14 16 1503 ?_
 refine one_ (i := 5) (N := some 9) (Steps.Bs 16 1535) rfl rfl (cB HT_.out z2_) z5_ (fun K hK => ?_)
 refine goes_ Tryz.func24 z2_ rfl #[.slice A0_10 l0_10.length c0_10] (by rfl) rfl rfl z0_ ?_
 with_reducible refine (eH.calls _ _ l0_10 t120 _ ?side1 ?side2 A3.out).mono ?_
 (case side1 => exact cX_ (aU HR0_10.out HB.out))
 (case side2 => exact HC0_10.out)
 rintro e w9 ⟨v121, rfl, ho0, hb⟩
 refine ⟨_, rfl, ?_⟩
 have n0_ := mk_ (bX (ZKR HO119) hb)
 have n1_ := mk_ (bW ho0 (aA (Short.hB HB)))
 have n2_ := mk_ (bB_ BK115 hb)
 have n3_ := mk_ (bB_ BK116 hb)
 have n4_ := mk_ (aC (Short.hB HB) hb)
 clear HO119 BK115 BK116 HB
 revert n0_ n1_ n2_ n3_ n4_
 intro HO119 HO122 BK115 BK116 HB
 (try clear hb)
 (try clear hb2)
 (try clear hk)
 (try clear hi)
 (try clear ho0)
 refine hK.out _ _ (k12e_ BK115) (fun hHeld => ?_)
 clear hK K
 refine nrm 9 ?_
 refine one_ (i := 9) (N := some 13) (Steps.Bs 16 2047) rfl rfl (cB HT_.out z2_) z5_ (fun K hK => ?_)
 refine cY k24 (w0 := w) w.heap.size (by rfl) (.tmp 10) (.tmp 12) 29 24 (.agg #[(.int .i64 0), (.int .i64 0)]) 16 rfl Tryz.underlying29 info24 rfl z5_ z3_ (.slice none 0 0) ([] : List (S24)) l0_11 _ _ _ (fun _ => True) (fun _ => False) rfl rfl ?aO ?aR (fun _ _ h => h) (fun _ h => h.elim) ?aF ?aB ?aS ?aL ?_
 (case aR => exact cX_ (aU HR0_11.out HB.out))
 (case aB => exact (Short.hB HB))
 (case aF => exact (fun _ _ => trivial))
 (case aO => exact ((R_nil _ _ _ _ (fun _ => True))))
 (case aS => exact (aA (Short.hB HB)))
 (case aL => have := LMc4.out; omega)
 intro v124 w10 ho hb hg hat
 rw [← Ny123.out] at ho
 have n0_ := mk_ (dH (g := gb115) (o := .cells #[.int .i64 a0_0, .int .i64 a0_1, .slice A0_2 l0_2.length c0_2, .int .i64 a0_3, .int .i64 a0_4, .int .i64 a0_5, .int .i64 a0_6, .int .i64 a0_7, .string a0_8, .int .i64 a0_9, .slice A0_10 l0_10.length c0_10, .slice A0_11 l0_11.length c0_11] 31 (0, 0)) (Short.bK BK115) hg (by simp [Value.ownBlock]))
 have n1_ := mk_ (dH (g := gb116) (o := .cells #[.int .i64 0, .int .i64 0, .slice none 0 0, .int .i64 0, .int .i64 0, .int .i64 0, .int .i64 0, .int .i64 0, .string (⟨#[]⟩ : ByteArray), .int .i64 0, .slice none 0 0, .slice none 0 0] 31 (0, 0)) (Short.bK BK116) hg (by simp [Value.ownBlock]))
 have n2_ := mk_ (R_grown (ZKR HO119) hg (fun _ _ => by simp [Value.ownBlock]))
 have n3_ := mk_ (R_grown (ZKR HO122) hg (fun _ _ => by simp [Value.ownBlock]))
 have n4_ := mk_ (hb)
 have n5_ := mk_ (ho)
 clear BK115 BK116 HO119 HO122 HB
 revert n0_ n1_ n2_ n3_ n4_ n5_
 intro BK115 BK116 HO119 HO122 HB HO125
 clear ho hb hg hat
 obtain ⟨Ao11, co11, eo11⟩ := cU HO119.out
 (first | subst eo11 | (injection eo11 with f1_ f2_ f3_; have f4_ := f1_.symm; have f5_ := f3_.symm; clear f1_ f2_ f3_; subst f4_; subst f5_))
 obtain ⟨Ao13, co13, eo13⟩ := cU HO122.out
 (first | subst eo13 | (injection eo13 with f1_ f2_ f3_; have f4_ := f1_.symm; have f5_ := f3_.symm; clear f1_ f2_ f3_; subst f4_; subst f5_))
 obtain ⟨Ao15, co15, eo15⟩ := cU HO125.out
 (first | subst eo15 | (injection eo15 with f1_ f2_ f3_; have f4_ := f1_.symm; have f5_ := f3_.symm; clear f1_ f2_ f3_; subst f4_; subst f5_))
 refine hK.out _ _ (k12e_ BK115) (fun hHeld => ?_)
 clear hK K
 refine nrm 13 ?_
 refine last_ (i := 11) (N := none) (Steps.Bs 16 4095) rfl rfl (cB HT_.out z2_) z5_ (fun K hK => ?_)
 have hs12 : w10.cell? ⟨gb115, 2, none⟩ = some (.slice A0_2 l0_2.length c0_2) := kc_ BK115 2
 have hfs12 := aX BK115.out 2
 have hns12_1 := NB116_115.out
 have hms12_1 := NB115_116.out
 refine skip_ (w1 := ?_) (by rfl) rfl ?_ ?_
 rotate_left
 ·
  go_simp
  rfl
 refine hK.out _ _ ?_
 clear hK K
 refine tI HT_ 12 15 16 8191 ?_
 refine last_ (i := 13) (N := none) (Steps.Bs 16 16383) rfl rfl (cB HT_.out z2_) z5_ (fun K hK => ?_)
 have hs14 : w10.cell? ⟨gb115, 10, none⟩ = some (.slice A0_10 l0_10.length c0_10) := kc_ BK115 10
 have hfs14 := aX BK115.out 10
 have hns14_1 := NB116_115.out
 have hms14_1 := NB115_116.out
 refine skip_ (w1 := ?_) (by rfl) rfl ?_ ?_
 rotate_left
 ·
  go_simp
  rfl
 refine hK.out _ _ ?_
 clear hK K
 refine tI HT_ 14 16 16 32767 ?_
 refine last_ (i := 15) (N := none) (Steps.Bs 16 65535) rfl rfl (cB HT_.out z2_) z5_ (fun K hK => ?_)
 have hs16 : w10.cell? ⟨gb115, 11, none⟩ = some (.slice A0_11 l0_11.length c0_11) := kc_ BK115 11
 have hfs16 := aX BK115.out 11
 have hns16_1 := NB116_115.out
 have hms16_1 := NB115_116.out
 refine skip_ (w1 := ?_) (by rfl) rfl ?_ ?_
 rotate_left
 ·
  go_simp
  rfl
 refine hK.out _ _ ?_
 clear hK K
 refine done_ (cC HT_.out z2_) ?_
 have hnb17 := NB115_116.out
 have hnc17 := NB116_115.out
 have hcz_0 := aD BK115.out
 have hfz_0 := aX BK115.out
 have hcz_0 := aD BK116.out
 have hfz_0 := aX BK116.out
 try go_wp2
 refine bodyPost_ret (results_cell_row rfl _ _ gb116 31 #[.int .i64 a0_0, .int .i64 a0_1, .slice Ao11 t117.length co11, .int .i64 a0_3, .int .i64 a0_4, .int .i64 a0_5, .int .i64 a0_6, .int .i64 a0_7, .string a0_8, .int .i64 a0_9, .slice Ao13 t120.length co13, .slice Ao15 y123.length co15] (0, 0) _ rfl (by (with_reducible repeat (first | refine aH ?_ _ | refine aI ?_ | refine aG ?_ _)); refine bA (cs := #[.int .i64 a0_0, .int .i64 a0_1, .slice Ao11 t117.length co11, .int .i64 a0_3, .int .i64 a0_4, .int .i64 a0_5, .int .i64 a0_6, .int .i64 a0_7, .string a0_8, .int .i64 a0_9, .slice Ao13 t120.length co13, .slice none 0 0]) ?_ 11 _ rfl; (with_reducible repeat (first | refine aH ?_ _ | refine aI ?_ | refine aG ?_ _)); refine bA (cs := #[.int .i64 a0_0, .int .i64 a0_1, .slice Ao11 t117.length co11, .int .i64 a0_3, .int .i64 a0_4, .int .i64 a0_5, .int .i64 a0_6, .int .i64 a0_7, .string a0_8, .int .i64 a0_9, .slice none 0 0, .slice none 0 0]) ?_ 10 _ rfl; (with_reducible repeat (first | refine aH ?_ _ | refine aI ?_ | refine aG ?_ _)); refine bA (cs := #[.int .i64 a0_0, .int .i64 a0_1, .slice Ao11 t117.length co11, .int .i64 a0_3, .int .i64 a0_4, .int .i64 a0_5, .int .i64 a0_6, .int .i64 a0_7, .string a0_8, .int .i64 0, .slice none 0 0, .slice none 0 0]) ?_ 9 _ rfl; (with_reducible repeat (first | refine aH ?_ _ | refine aI ?_ | refine aG ?_ _)); refine bA (cs := #[.int .i64 a0_0, .int .i64 a0_1, .slice Ao11 t117.length co11, .int .i64 a0_3, .int .i64 a0_4, .int .i64 a0_5, .int .i64 a0_6, .int .i64 a0_7, .string (⟨#[]⟩ : ByteArray), .int .i64 0, .slice none 0 0, .slice none 0 0]) ?_ 8 _ rfl; (with_reducible repeat (first | refine aH ?_ _ | refine aI ?_ | refine aG ?_ _)); refine bA (cs := #[.int .i64 a0_0, .int .i64 a0_1, .slice Ao11 t117.length co11, .int .i64 a0_3, .int .i64 a0_4, .int .i64 a0_5, .int .i64 a0_6, .int .i64 0, .string (⟨#[]⟩ : ByteArray), .int .i64 0, .slice none 0 0, .slice none 0 0]) ?_ 7 _ rfl; (with_reducible repeat (first | refine aH ?_ _ | refine aI ?_ | refine aG ?_ _)); refine bA (cs := #[.int .i64 a0_0, .int .i64 a0_1, .slice Ao11 t117.length co11, .int .i64 a0_3, .int .i64 a0_4, .int .i64 a0_5, .int .i64 0, .int .i64 0, .string (⟨#[]⟩ : ByteArray), .int .i64 0, .slice none 0 0, .slice none 0 0]) ?_ 6 _ rfl; (with_reducible repeat (first | refine aH ?_ _ | refine aI ?_ | refine aG ?_ _)); refine bA (cs := #[.int .i64 a0_0, .int .i64 a0_1, .slice Ao11 t117.length co11, .int .i64 a0_3, .int .i64 a0_4, .int .i64 0, .int .i64 0, .int .i64 0, .string (⟨#[]⟩ : ByteArray), .int .i64 0, .slice none 0 0, .slice none 0 0]) ?_ 5 _ rfl; (with_reducible repeat (first | refine aH ?_ _ | refine aI ?_ | refine aG ?_ _)); refine bA (cs := #[.int .i64 a0_0, .int .i64 a0_1, .slice Ao11 t117.length co11, .int .i64 a0_3, .int .i64 0, .int .i64 0, .int .i64 0, .int .i64 0, .string (⟨#[]⟩ : ByteArray), .int .i64 0, .slice none 0 0, .slice none 0 0]) ?_ 4 _ rfl; (with_reducible repeat (first | refine aH ?_ _ | refine aI ?_ | refine aG ?_ _)); refine bA (cs := #[.int .i64 a0_0, .int .i64 a0_1, .slice Ao11 t117.length co11, .int .i64 0, .int .i64 0, .int .i64 0, .int .i64 0, .int .i64 0, .string (⟨#[]⟩ : ByteArray), .int .i64 0, .slice none 0 0, .slice none 0 0]) ?_ 3 _ rfl; (with_reducible repeat (first | refine aH ?_ _ | refine aI ?_ | refine aG ?_ _)); refine bA (cs := #[.int .i64 a0_0, .int .i64 a0_1, .slice none 0 0, .int .i64 0, .int .i64 0, .int .i64 0, .int .i64 0, .int .i64 0, .string (⟨#[]⟩ : ByteArray), .int .i64 0, .slice none 0 0, .slice none 0 0]) ?_ 2 _ rfl; (with_reducible repeat (first | refine aH ?_ _ | refine aI ?_ | refine aG ?_ _)); refine bA (cs := #[.int .i64 a0_0, .int .i64 0, .slice none 0 0, .int .i64 0, .int .i64 0, .int .i64 0, .int .i64 0, .int .i64 0, .string (⟨#[]⟩ : ByteArray), .int .i64 0, .slice none 0 0, .slice none 0 0]) ?_ 1 _ rfl; (with_reducible repeat (first | refine aH ?_ _ | refine aI ?_ | refine aG ?_ _)); refine bA (cs := #[.int .i64 0, .int .i64 0, .slice none 0 0, .int .i64 0, .int .i64 0, .int .i64 0, .int .i64 0, .int .i64 0, .string (⟨#[]⟩ : ByteArray), .int .i64 0, .slice none 0 0, .slice none 0 0]) ?_ 0 _ rfl; (with_reducible repeat (first | refine aH ?_ _ | refine aI ?_ | refine aG ?_ _)); refine dA ?_ NB116_115.out _; (with_reducible repeat (first | refine aH ?_ _ | refine aI ?_ | refine aG ?_ _)); refine dA ?_ NB116_115.out _; (with_reducible repeat (first | refine aH ?_ _ | refine aI ?_ | refine aG ?_ _)); refine dA ?_ NB116_115.out _; (with_reducible repeat (first | refine aH ?_ _ | refine aI ?_ | refine aG ?_ _)); exact BK116.out) Tryz.underlying31 rfl z2_) rfl ?_
 exact ⟨_, _, _, by first | rfl | (simp [aZ, aY] <;> rfl) | (simp [*, aZ, aY] <;> rfl), by (with_reducible repeat (first | apply R_alloc | apply R_drewN | apply R_drew)); exact R_mono (R_far (p := ⟨gb116, 11, none⟩) (R_far (p := ⟨gb116, 10, none⟩) (R_far (p := ⟨gb116, 9, none⟩) (R_far (p := ⟨gb116, 8, none⟩) (R_far (p := ⟨gb116, 7, none⟩) (R_far (p := ⟨gb116, 6, none⟩) (R_far (p := ⟨gb116, 5, none⟩) (R_far (p := ⟨gb116, 4, none⟩) (R_far (p := ⟨gb116, 3, none⟩) (R_far (p := ⟨gb116, 2, none⟩) (R_far (p := ⟨gb116, 1, none⟩) (R_far (p := ⟨gb116, 0, none⟩) (R_far (p := ⟨gb115, 11, none⟩) (R_far (p := ⟨gb115, 10, none⟩) (R_far (p := ⟨gb115, 2, none⟩) (eS (eS HO119.out BK115.out z5_) BK116.out z5_) (fun _ hk => hk.1.2) (.slice Ao11 t117.length co11)) (fun _ hk => hk.1.2) (.slice Ao13 t120.length co13)) (fun _ hk => hk.1.2) (.slice Ao15 y123.length co15)) (fun _ hk => hk.2) (.int .i64 a0_0)) (fun _ hk => hk.2) (.int .i64 a0_1)) (fun _ hk => hk.2) (.slice Ao11 t117.length co11)) (fun _ hk => hk.2) (.int .i64 a0_3)) (fun _ hk => hk.2) (.int .i64 a0_4)) (fun _ hk => hk.2) (.int .i64 a0_5)) (fun _ hk => hk.2) (.int .i64 a0_6)) (fun _ hk => hk.2) (.int .i64 a0_7)) (fun _ hk => hk.2) (.string a0_8)) (fun _ hk => hk.2) (.int .i64 a0_9)) (fun _ hk => hk.2) (.slice Ao13 t120.length co13)) (fun _ hk => hk.2) (.slice Ao15 y123.length co15)) (fun _ hk => trivial), by (with_reducible repeat (first | apply R_alloc | apply R_drewN | apply R_drew)); exact R_mono (R_far (p := ⟨gb116, 11, none⟩) (R_far (p := ⟨gb116, 10, none⟩) (R_far (p := ⟨gb116, 9, none⟩) (R_far (p := ⟨gb116, 8, none⟩) (R_far (p := ⟨gb116, 7, none⟩) (R_far (p := ⟨gb116, 6, none⟩) (R_far (p := ⟨gb116, 5, none⟩) (R_far (p := ⟨gb116, 4, none⟩) (R_far (p := ⟨gb116, 3, none⟩) (R_far (p := ⟨gb116, 2, none⟩) (R_far (p := ⟨gb116, 1, none⟩) (R_far (p := ⟨gb116, 0, none⟩) (R_far (p := ⟨gb115, 11, none⟩) (R_far (p := ⟨gb115, 10, none⟩) (R_far (p := ⟨gb115, 2, none⟩) (eS (eS HO122.out BK115.out z5_) BK116.out z5_) (fun _ hk => hk.1.2) (.slice Ao11 t117.length co11)) (fun _ hk => hk.1.2) (.slice Ao13 t120.length co13)) (fun _ hk => hk.1.2) (.slice Ao15 y123.length co15)) (fun _ hk => hk.2) (.int .i64 a0_0)) (fun _ hk => hk.2) (.int .i64 a0_1)) (fun _ hk => hk.2) (.slice Ao11 t117.length co11)) (fun _ hk => hk.2) (.int .i64 a0_3)) (fun _ hk => hk.2) (.int .i64 a0_4)) (fun _ hk => hk.2) (.int .i64 a0_5)) (fun _ hk => hk.2) (.int .i64 a0_6)) (fun _ hk => hk.2) (.int .i64 a0_7)) (fun _ hk => hk.2) (.string a0_8)) (fun _ hk => hk.2) (.int .i64 a0_9)) (fun _ hk => hk.2) (.slice Ao13 t120.length co13)) (fun _ hk => hk.2) (.slice Ao15 y123.length co15)) (fun _ hk => trivial), by (with_reducible repeat (first | apply R_alloc | apply R_drewN | apply R_drew)); exact R_mono (R_far (p := ⟨gb116, 11, none⟩) (R_far (p := ⟨gb116, 10, none⟩) (R_far (p := ⟨gb116, 9, none⟩) (R_far (p := ⟨gb116, 8, none⟩) (R_far (p := ⟨gb116, 7, none⟩) (R_far (p := ⟨gb116, 6, none⟩) (R_far (p := ⟨gb116, 5, none⟩) (R_far (p := ⟨gb116, 4, none⟩) (R_far (p := ⟨gb116, 3, none⟩) (R_far (p := ⟨gb116, 2, none⟩) (R_far (p := ⟨gb116, 1, none⟩) (R_far (p := ⟨gb116, 0, none⟩) (R_far (p := ⟨gb115, 11, none⟩) (R_far (p := ⟨gb115, 10, none⟩) (R_far (p := ⟨gb115, 2, none⟩) (eS (eS HO125.out BK115.out z5_) BK116.out z5_) (fun _ hk => hk.1.2) (.slice Ao11 t117.length co11)) (fun _ hk => hk.1.2) (.slice Ao13 t120.length co13)) (fun _ hk => hk.1.2) (.slice Ao15 y123.length co15)) (fun _ hk => hk.2) (.int .i64 a0_0)) (fun _ hk => hk.2) (.int .i64 a0_1)) (fun _ hk => hk.2) (.slice Ao11 t117.length co11)) (fun _ hk => hk.2) (.int .i64 a0_3)) (fun _ hk => hk.2) (.int .i64 a0_4)) (fun _ hk => hk.2) (.int .i64 a0_5)) (fun _ hk => hk.2) (.int .i64 a0_6)) (fun _ hk => hk.2) (.int .i64 a0_7)) (fun _ hk => hk.2) (.string a0_8)) (fun _ hk => hk.2) (.int .i64 a0_9)) (fun _ hk => hk.2) (.slice Ao13 t120.length co13)) (fun _ hk => hk.2) (.slice Ao15 y123.length co15)) (fun _ hk => trivial), Short.hB HB⟩
def bY.l0 : Nat → List (S53) → List (S53) → Int → Option ((List (S53)))
 | 0, _, _, _ => none
 | k + 1, x0, x3, x4 => if x4 < (x0.length : Int) then (if 0 ≤ x4 then ((dK.f ((cP x0 x4).f0)).bind fun t127 => (if x3.length < 5864062014805 then (bY.l0 k x0 (x3 ++ [(⟨t127⟩ : S53)]) (wrap64 (x4 + 1))) else (none))) else (none)) else (some x3)
def bY.f (k : Nat) (l0 : List (S53)) : Option ((List (S53))) := bY.l0 k l0 ([] : List (S53)) 0
theorem bY.calls (k : Nat) (A0 : Option Addr) (c0 : Nat) (l0 : List (S53)) (r : List (S53)) (w : World) (hr0 : Kd.C k53 w A0 l0.length l0) (hc0 : l0.length ≤ c0) (h : bY.f k l0 = some r) :
  Calls Tryz.prog 7 #[.slice A0 l0.length c0] w fun e w' => ∃ v0_ : Value, e = .returned (v0_) ∧ Kd.S k53 53 w' w.heap.size (fun _ => True) v0_ r ∧ Below w.heap.size w w' := by
 have hu53 := Tryz.underlying53
 have HR0 := mk_ hr0
 have HC0 := mk_ hc0
 clear hr0 hc0
 have HB := mk_ (Below.refl w.heap.size w)
 have H : (bY.l0 k l0 ([] : List (S53)) 0) = some r := h
 clear h
 have H' := mk_ H
 clear H
 go_enter Tryz.func7, Tryz.ntmps7
 go_wp2
 go_loopg [3, 4] k (fun kq v3 v4 w' => ∃ (x3_1 : List (S53)) (x4_1 : Int), v4 = .int .i64 x4_1 ∧ Aside0 (bY.l0 kq l0 x3_1 x4_1 = some r) ∧ Aside0 (kq ≤ k) ∧ Aside0 (Kd.S k53 53 w' w.heap.size (fun _ => True) v3 x3_1) ∧ Aside0 (Below w.heap.size w w'))
 case atStart => exact ⟨(([] : List (S53))), (0), z4_, H', ⟨Nat.le_refl _⟩, ⟨by first | exact S_nil _ _ _ _ _ | exact N_nil _ _ _ _ _ | exact V_nil _ _ _ _ _ | exact Q_nil _ _ _ _ _ | exact R_nil _ _ _ _ _⟩, ⟨Short.hB HB⟩⟩
 case round =>
  clear H'
  obtain ⟨x3_1, x4_1, rfl, HA, HK1, HO_3, HB⟩ := hrel
  cases gk with
  | zero => exact absurd HA.out (by simp [bY.l0])
  | succ k1 =>
   have H := HA.out
   clear HA
   simp only [bY.l0] at H
   by_cases c2 : x4_1 < (l0.length : Int)
   rotate_left
   ·
    rw [if_neg c2] at H
    have c2b0 : decide (x4_1 < (l0.length : Int)) = false := decide_eq_false c2
    clear c2
    obtain rfl := Option.some.inj H
    go_wp2
    go_ret
    exact ⟨_, by first | rfl | (simp [aZ, aY] <;> rfl) | (simp [*, aZ, aY] <;> rfl), by (with_reducible repeat (first | apply gV | apply gW | apply iF)); exact HO_3.out, Short.hB HB⟩
   rw [if_pos c2] at H
   have c2b0 : decide (x4_1 < (l0.length : Int)) = true := decide_eq_true c2
   clear c2
   by_cases c3 : 0 ≤ x4_1
   rotate_left
   ·
    rw [if_neg c3] at H
    exact absurd H z6_
   rw [if_pos c3] at H
   have c3b0 : decide (0 ≤ x4_1) = true := decide_eq_true c3
   clear c3
   obtain ⟨t127, A4, H⟩ := Option.bind_eq_some_iff.mp H
   replace A4 := mk_ A4
   by_cases c5 : x3_1.length < 5864062014805
   rotate_left
   ·
    rw [if_neg c5] at H
    exact absurd H z6_
   rw [if_pos c5] at H
   have LMc5 := mk_ c5
   clear c5
   obtain ⟨y130, hy130⟩ : ∃ y_ : List (S53), y_ = (x3_1 ++ [(⟨t127⟩ : S53)]) := ⟨_, rfl⟩
   replace H : (bY.l0 k1 l0 y130 (wrap64 (x4_1 + 1))) = some r := by first | (rw [hy130]; with_reducible exact H) | (have H2_ := (Option.bind_some _ _).symm.trans H; rw [hy130]; with_reducible exact H2_) | (have H2_ := (Option.bind_some _ _).symm.trans H; with_reducible exact H2_) | with_reducible exact H | (rw [hy130]; exact H) | exact H
   have Ny130 := mk_ hy130
   clear hy130
   have H' := mk_ H
   clear H
   have p126 : 0 ≤ (x4_1 : Int) := of_decide_eq_true z1_
   have q126 : x4_1 < (l0.length : Int) := of_decide_eq_true z1_
   obtain ⟨ad126, A126_0, c126_0, e126, hx126_0, hl126_0, hi126_0⟩ := fQ HR0.out x4_1 p126 q126
   cases e126
   replace hx126_0 := up_ HB hx126_0
   have HR126_0 := mk_ hi126_0
   have HC126_0 := mk_ hl126_0
   clear hi126_0 hl126_0
   replace p126 := eq_true p126
   replace q126 := eq_true q126
   go_wp2_with (first | ((with_reducible refine aE (f := 23) rfl ?_); refine Short.gL (some 17) Tryz.func23 #[.slice A126_0 ((cP l0 x4_1).f0).length c126_0] (h := ?_); (with_reducible refine (dK.calls _ _ ((cP l0 x4_1).f0) t127 _ ?side1 ?side2 A4.out).mono ?_); (case side1 => exact cX_ (aU HR126_0.out HB.out)); (case side2 => exact HC126_0.out); rintro e w6 ⟨v128, rfl, ho0, hb⟩; refine ⟨_, rfl, ?_⟩; have n0_ := mk_ (S_elder' (by (with_reducible repeat (first | apply gV | apply gW | apply iF)); exact HO_3.out) (R_base ho0) hb); have n1_ := mk_ (bW ho0 (aA (Short.hB HB))); have n2_ := mk_ (aC (Short.hB HB) hb); clear HO_3 HB; revert n0_ n1_ n2_; intro HO_3 HO129 HB; (try clear hb ho0); obtain ⟨Ao7, co7, eo7⟩ := cU HO129.out; subst eo7) | ((with_reducible refine cK (b := .append) (xs := #[.tmp 11, .tmp 19]) rfl ?_); at_builtin; refine S_append k53 (w0 := w) w.heap.size rfl (.tmp 11) (.tmp 19) 22 53 (.agg #[(.slice none 0 0)]) 24 rfl Tryz.underlying22 info53 rfl z5_ z3_ u3 x3_1 (⟨t127⟩ : S53) [.slice Ao7 t127.length co7] (fun _ => True) (fun k_ => some k_ = (.slice Ao7 t127.length co7 : Value).ownBlock) rfl rfl ?aP (fun k_ hk_ => ((R_mono (ok' := fun k_ => ((fun _ => True)) k_ ∧ nb_ k_ (u3)) (R_apart' (HO129.out) (S_typed HO_3.out) z5_) (fun k_ hk => ⟨trivial, hk.2⟩))).1 k_ hk_.symm) ?aF ?aO ?aB ?aS ?aL ?_; (case aP => exact k53_mkM _ _ _ (⟨t127⟩ : S53) (R_mono (R_tight rfl (R_mono (ok' := fun k_ => ((fun _ => True)) k_ ∧ nb_ k_ (u3)) (R_apart' (HO129.out) (S_typed HO_3.out) z5_) (fun k_ hk => ⟨trivial, hk.2⟩))) (fun _ h_ => h_))); (case aB => exact (Short.hB HB)); (case aF => exact (fun _ _ => trivial)); (case aO => exact (by (with_reducible repeat (first | apply gV | apply gW | apply iF)); exact S_mono HO_3.out (fun k_ hk => ⟨trivial, fun e_ => hk.2 e_⟩))); (case aS => exact (aA (Short.hB HB))); (case aL => have := LMc5.out; omega); intro v131 w8 ho hb hg hat; rw [← Ny130.out] at ho; have n0_ := mk_ (hb); have n1_ := mk_ (ho); clear HB HO_3 HO129; revert n0_ n1_; intro HB HO132; clear ho hb hg hat))
   go_roundg k1
   case measure => have := HK1.out; omega
   case rel => exact ⟨(y130), (wrap64 (x4_1 + 1)), z4_, H', ⟨by have := HK1.out; omega⟩, ⟨by (with_reducible repeat (first | apply gV | apply gW | apply iF)); exact HO132.out⟩, ⟨Short.hB HB⟩⟩
def cA.f (l0 : List Int) : Option (List Int) := (some (([] : List Int) : List Int)).bind fun y133 => (if y133.length + l0.length < 140737488355328 then (some (y133 ++ l0)) else (none))
theorem cA.calls (A0 : Option Addr) (c0 : Nat) (l0 : List Int) (r : List Int) (w : World) (hr0 : Kd.C (Kd.int .u8) w A0 l0.length l0) (hc0 : l0.length ≤ c0) (h : cA.f l0 = some r) :
  Calls Tryz.prog 96 #[.slice A0 l0.length c0] w fun e w' => ∃ v0_ : Value, e = .returned (v0_) ∧ Kd.R (Kd.int .u8) 5 w' w.heap.size (fun _ => True) v0_ r ∧ Below w.heap.size w w' := by
 have HR0 := mk_ hr0
 have HC0 := mk_ hc0
 clear hr0 hc0
 cases A0 with
 | none =>
  have hl_ : l0 = [] := by
   rcases l0 with _ | ⟨x_, xs_⟩
   ·
    rfl
   ·
    obtain ⟨ad_, e_, _⟩ := HR0.out.2.2 z6_
    exact absurd e_ z6_
  subst hl_
  have hr_ : r = [] := by simpa [cA.f] using h.symm
  subst hr_
  have hnil_ := fun W : World => Lib.run_eql_slice_nil (P := Tryz.prog) W 36 5 none 0 c0 0 0 Tryz.underlying36
  go_enter Tryz.func96, Tryz.ntmps96
  go_wp2
  go_ret
  exact ⟨_, rfl, R_nil _ _ _ _ _, Below.refl _ _⟩
 | some a0_ =>
 have hnil_ := fun W : World => Lib.run_eql_slice_nil (P := Tryz.prog) W 36 5 (some a0_) l0.length c0 0 0 Tryz.underlying36
 have HB := mk_ (Below.refl w.heap.size w)
 have H : ((some (([] : List Int) : List Int)).bind fun y133 => (if y133.length + l0.length < 140737488355328 then (some (y133 ++ l0)) else (none))) = some r := h
 clear h
 obtain ⟨y133, hy133⟩ : ∃ y_ : List Int, y_ = (([] : List Int)) := ⟨_, rfl⟩
 replace H : (if y133.length + l0.length < 140737488355328 then (some (y133 ++ l0)) else (none)) = some r := by first | (rw [hy133]; with_reducible exact H) | (have H2_ := (Option.bind_some _ _).symm.trans H; rw [hy133]; with_reducible exact H2_) | (have H2_ := (Option.bind_some _ _).symm.trans H; with_reducible exact H2_) | with_reducible exact H | (rw [hy133]; exact H) | exact H
 have Ny133 := mk_ hy133
 clear hy133
 by_cases c2 : y133.length + l0.length < 140737488355328
 rotate_left
 ·
  rw [if_neg c2] at H
  exact absurd H z6_
 rw [if_pos c2] at H
 have LMc2 := mk_ c2
 clear c2
 obtain ⟨y136, hy136⟩ : ∃ y_ : List Int, y_ = (y133 ++ l0) := ⟨_, rfl⟩
 replace H : (some y136) = some r := by first | (rw [hy136]; with_reducible exact H) | (have H2_ := (Option.bind_some _ _).symm.trans H; rw [hy136]; with_reducible exact H2_) | (have H2_ := (Option.bind_some _ _).symm.trans H; with_reducible exact H2_) | with_reducible exact H | (rw [hy136]; exact H) | exact H
 have Ny136 := mk_ hy136
 clear hy136
 obtain rfl := Option.some.inj H
 go_enter Tryz.func96, Tryz.ntmps96
 go_wp2_with (first | ((with_reducible refine aQ (N := 5) rfl ?_); refine R_lit (Kd.int .u8) _ 5 ?hg (N := 5) ?hd (xs := ([] : List Int)) (inner := []) (ok := fun _ => True) (okp := fun _ => True) ?hr ?hp (fun _ hk => hk) trivial (Below.refl _ _) (Nat.le_refl _) z6_ ?_; (case hd => rfl); (case hg => rfl); (case hr => first | (go_simp; done) | (go_simp; rfl)); (case hp => exact (Reps.none _ _)); intro v134 w3 ho4 hb hg_ hnew_; clear hg_ hnew_; (first | rw [← Ny133.out] at ho4 | (simp only [Int.reduceToNat] at ho4; rw [← Ny133.out] at ho4)); have n0_ := mk_ (bW ho4 (aA (Short.hB HB))); have n1_ := mk_ (aC (Short.hB HB) hb); clear HB; revert n0_ n1_; intro HO135 HB; clear hb ho4) | ((with_reducible refine cK (b := .append) (xs := #[.tmp 5, .tmp 6]) rfl ?_); at_builtin; refine eF (Kd.int .u8) (w0 := w) w.heap.size rfl (.tmp 5) (.tmp 6) 36 5 (.int .u8 0) 1 rfl Tryz.underlying36 info5 rfl z5_ z3_ v134 y133 l0 _ _ _ (fun _ => True) (fun _ => False) rfl rfl ?aO ?aR (fun _ _ h => h) (fun _ h => h.elim) ?aF ?aB ?aS ?aL ?_; (case aR => exact cX_ (aU HR0.out HB.out)); (case aB => exact (Short.hB HB)); (case aF => exact (fun _ _ => trivial)); (case aO => exact (ZKR HO135)); (case aS => exact (aA (Short.hB HB))); (case aL => have := LMc2.out; omega); intro v137 w5 ho hb hg hat; rw [← Ny136.out] at ho; have n0_ := mk_ (hb); have n1_ := mk_ (ho); clear HB HO135; revert n0_ n1_; intro HB HO138; clear ho hb hg hat))
 go_ret
 exact ⟨_, by first | rfl | (simp [aZ, aY] <;> rfl) | (simp [*, aZ, aY] <;> rfl), by (with_reducible repeat (first | apply R_alloc | apply R_drewN | apply R_drew)); exact HO138.out, Short.hB HB⟩
def dJ.l0 : Nat → Int → List Int → Int → Option (List Int)
 | 0, _, _, _ => none
 | k + 1, x1, x7, x8 => if x8 ≥ 0 then (if 0 ≤ (wrap64 (8 * x8)) then (if x7.length < 140737488355328 then (dJ.l0 k x1 (x7 ++ [(shr .i64 x1 (wrap64 (8 * x8))) % 256]) (wrap64 (x8 - 1))) else (none)) else (none)) else (some x7)
def dJ.f (k : Nat) (l0 : List Int) (a1 : Int) (a2 : Int) : Option (List Int) := (cA.f l0).bind fun t139 => (dJ.l0 k a1 t139 (wrap64 (a2 - 1)))
theorem dJ.calls (k : Nat) (A0 : Option Addr) (c0 : Nat) (l0 : List Int) (a1 : Int) (a2 : Int) (r : List Int) (w : World) (hr0 : Kd.C (Kd.int .u8) w A0 l0.length l0) (hc0 : l0.length ≤ c0) (h : dJ.f k l0 a1 a2 = some r) :
  Calls Tryz.prog 95 #[.slice A0 l0.length c0, .int .i64 a1, .int .i64 a2] w fun e w' => ∃ v0_ : Value, e = .returned (v0_) ∧ Kd.R (Kd.int .u8) 5 w' w.heap.size (fun _ => True) v0_ r ∧ Below w.heap.size w w' := by
 have HR0 := mk_ hr0
 have HC0 := mk_ hc0
 clear hr0 hc0
 have HB := mk_ (Below.refl w.heap.size w)
 have H : ((cA.f l0).bind fun t139 => (dJ.l0 k a1 t139 (wrap64 (a2 - 1)))) = some r := h
 clear h
 obtain ⟨t139, A4, H⟩ := Option.bind_eq_some_iff.mp H
 replace A4 := mk_ A4
 have H' := mk_ H
 clear H
 go_enter Tryz.func95, Tryz.ntmps95
 go_wp2_with (first | ((with_reducible refine aE (f := 96) rfl ?_); refine Short.gL (some 10) Tryz.func96 #[.slice A0 l0.length c0] (h := ?_); (with_reducible refine (cA.calls _ _ l0 t139 _ ?side1 ?side2 A4.out).mono ?_); (case side1 => repeat (first | exact HR0.out | (with_reducible refine C_alloc ?_ _) | (with_reducible refine C_drewN ?_ _) | (with_reducible refine C_drew ?_))); (case side2 => exact HC0.out); rintro e w5 ⟨v140, rfl, ho0, hb⟩; refine ⟨_, rfl, ?_⟩; have n0_ := mk_ (bW ho0 (aA (Short.hB HB))); have n1_ := mk_ (aC (Short.hB HB) hb); clear HB; revert n0_ n1_; intro HO141 HB; (try clear hb ho0)))
 go_loopg [7, 8] k (fun kq v7 v8 w' => ∃ (x7_1 : List Int) (x8_1 : Int), v8 = .int .i64 x8_1 ∧ Aside0 (dJ.l0 kq a1 x7_1 x8_1 = some r) ∧ Aside0 (kq ≤ k) ∧ Aside0 (Kd.R (Kd.int .u8) 5 w' w.heap.size (fun _ => True) v7 x7_1) ∧ Aside0 (Below w.heap.size w w'))
 case atStart => exact ⟨(t139), (wrap64 (a2 - 1)), z4_, H', ⟨Nat.le_refl _⟩, ⟨by (with_reducible repeat (first | apply R_alloc | apply R_drewN | apply R_drew)); exact HO141.out⟩, ⟨Short.hB HB⟩⟩
 case round =>
  clear H'
  try clear p2
  obtain ⟨x7_1, x8_1, rfl, HA, HK1, HO_7, HB⟩ := hrel
  cases gk with
  | zero => exact absurd HA.out (by simp [dJ.l0])
  | succ k1 =>
   have H := HA.out
   clear HA
   simp only [dJ.l0] at H
   by_cases c6 : x8_1 ≥ 0
   rotate_left
   ·
    rw [if_neg c6] at H
    have c6b0 : decide (0 ≤ x8_1) = false := decide_eq_false c6
    clear c6
    obtain rfl := Option.some.inj H
    go_wp2
    go_ret
    exact ⟨_, by first | rfl | (simp [aZ, aY] <;> rfl) | (simp [*, aZ, aY] <;> rfl), by (with_reducible repeat (first | apply R_alloc | apply R_drewN | apply R_drew)); exact HO_7.out, Short.hB HB⟩
   rw [if_pos c6] at H
   have c6b0 : decide (0 ≤ x8_1) = true := decide_eq_true c6
   clear c6
   obtain ⟨ji7, hji7⟩ : ∃ j_ : Int, (wrap64 (8 * x8_1)) = j_ := ⟨_, rfl⟩
   replace H : (if 0 ≤ (ji7) then (if x7_1.length < 140737488355328 then (dJ.l0 k1 a1 (x7_1 ++ [(shr .i64 a1 (ji7)) % 256]) (wrap64 (x8_1 - 1))) else (none)) else (none)) = some r := by first | (rw [hji7] at H; exact H) | (simp only [hji7] at H ⊢; exact H)
   have hji7w : (IntKind.i64.wrap (8 * x8_1)) = ji7 := (i64_w _).trans hji7
   by_cases c8 : 0 ≤ (ji7)
   rotate_left
   ·
    rw [if_neg c8] at H
    exact absurd H z6_
   rw [if_pos c8] at H
   have c8b0 := eq_true c8
   have c8b1 : decide (0 ≤ (ji7)) = true := decide_eq_true c8
   clear c8
   obtain ⟨ji9, hji9⟩ : ∃ j_ : Int, (shr .i64 a1 (ji7)) = j_ := ⟨_, rfl⟩
   replace H : (if x7_1.length < 140737488355328 then (dJ.l0 k1 a1 (x7_1 ++ [(ji9) % 256]) (wrap64 (x8_1 - 1))) else (none)) = some r := by first | (rw [hji9] at H; exact H) | (simp only [hji9] at H ⊢; exact H)
   have hji9_ : (a1 / 2 ^ min (ji7).toNat 64) = ji9 := hji9
   have hji9z : (ji7) ≤ 64 → (a1 / 2 ^ (ji7).toNat) = ji9 := shr_small hji9
   by_cases c10 : x7_1.length < 140737488355328
   rotate_left
   ·
    rw [if_neg c10] at H
    exact absurd H z6_
   rw [if_pos c10] at H
   have LMc10 := mk_ c10
   clear c10
   obtain ⟨y142, hy142⟩ : ∃ y_ : List Int, y_ = (x7_1 ++ [(ji9) % 256]) := ⟨_, rfl⟩
   replace H : (dJ.l0 k1 a1 y142 (wrap64 (x8_1 - 1))) = some r := by first | (rw [hy142]; with_reducible exact H) | (have H2_ := (Option.bind_some _ _).symm.trans H; rw [hy142]; with_reducible exact H2_) | (have H2_ := (Option.bind_some _ _).symm.trans H; with_reducible exact H2_) | with_reducible exact H | (rw [hy142]; exact H) | exact H
   have Ny142 := mk_ hy142
   clear hy142
   have H' := mk_ H
   clear H
   go_wp2_with (first | ((with_reducible refine cK (b := .append) (xs := #[.tmp 17, .tmp 23]) rfl ?_); at_builtin; refine fU (Kd.int .u8) (w0 := w) w.heap.size rfl (.tmp 17) (.tmp 23) 36 5 (.int .u8 0) 1 rfl Tryz.underlying36 info5 rfl z5_ z3_ u7 x7_1 ((ji9) % 256) [.int .u8 ((ji9) % 256)] (fun _ => True) (fun _ => False) rfl rfl ?aP (fun _ hk => hk.elim) ?aF ?aO ?aB ?aS ?aL ?_; (case aP => exact rfl); (case aB => exact (Short.hB HB)); (case aF => exact (fun _ _ => trivial)); (case aO => exact (ZKR HO_7)); (case aS => exact (aA (Short.hB HB))); (case aL => have := LMc10.out; omega); intro v143 w11 ho hb hg hat; rw [← Ny142.out] at ho; have n0_ := mk_ (hb); have n1_ := mk_ (ho); clear HB HO_7; revert n0_ n1_; intro HB HO144; clear ho hb hg hat))
   go_roundg k1
   case measure => have := HK1.out; omega
   case rel => exact ⟨(y142), (wrap64 (x8_1 - 1)), z4_, H', ⟨by have := HK1.out; omega⟩, ⟨by (with_reducible repeat (first | apply R_alloc | apply R_drewN | apply R_drew)); exact HO144.out⟩, ⟨Short.hB HB⟩⟩
def wire_Put.f (k : Nat) (l0 : List Int) (a1 : Int) (a2 : Int) : Option (List Int × Int) := if a2 < 1 then (some (([] : List Int), 1)) else (if a2 > 7 then (some (([] : List Int), 1)) else (if a1 < 0 then (some (([] : List Int), 1)) else (if 0 ≤ (wrap64 (8 * a2)) then (if a1 ≥ (shl .i64 1 (wrap64 (8 * a2))) then (some (([] : List Int), 1)) else ((dJ.f k l0 a1 a2).bind fun t145 => (some (t145, 0)))) else (none))))
theorem wire_Put.calls (k : Nat) (A0 : Option Addr) (c0 : Nat) (l0 : List Int) (a1 : Int) (a2 : Int) (r1 : List Int) (r2 : Int) (w : World) (hr0 : Kd.C (Kd.int .u8) w A0 l0.length l0) (hc0 : l0.length ≤ c0) (h : wire_Put.f k l0 a1 a2 = some (r1, r2)) :
  Calls Tryz.prog 79 #[.slice A0 l0.length c0, .int .i64 a1, .int .i64 a2] w fun e w' => ∃ v0_ : Value, e = .returned (.tuple #[v0_, .int .i64 r2]) ∧ Kd.R (Kd.int .u8) 5 w' w.heap.size (fun _ => True) v0_ r1 ∧ Below w.heap.size w w' := by
 have HR0 := mk_ hr0
 have HC0 := mk_ hc0
 clear hr0 hc0
 have HB := mk_ (Below.refl w.heap.size w)
 have H : (if a2 < 1 then (some (([] : List Int), 1)) else (if a2 > 7 then (some (([] : List Int), 1)) else (if a1 < 0 then (some (([] : List Int), 1)) else (if 0 ≤ (wrap64 (8 * a2)) then (if a1 ≥ (shl .i64 1 (wrap64 (8 * a2))) then (some (([] : List Int), 1)) else ((dJ.f k l0 a1 a2).bind fun t145 => (some (t145, 0)))) else (none))))) = some (r1, r2) := h
 clear h
 by_cases c4 : a2 < 1
 rotate_left
 rw [if_neg c4] at H
 have c4b0 : decide (a2 < 1) = false := decide_eq_false c4
 clear c4
 by_cases c5 : a2 > 7
 rotate_left
 rw [if_neg c5] at H
 have c5b0 : decide (7 < a2) = false := decide_eq_false c5
 clear c5
 by_cases c6 : a1 < 0
 rotate_left
 rw [if_neg c6] at H
 have c6b0 : decide (a1 < 0) = false := decide_eq_false c6
 clear c6
 obtain ⟨ji7, hji7⟩ : ∃ j_ : Int, (wrap64 (8 * a2)) = j_ := ⟨_, rfl⟩
 replace H : (if 0 ≤ (ji7) then (if a1 ≥ (shl .i64 1 (ji7)) then (some (([] : List Int), 1)) else ((dJ.f k l0 a1 a2).bind fun t145 => (some (t145, 0)))) else (none)) = some (r1, r2) := by first | (rw [hji7] at H; exact H) | (simp only [hji7] at H ⊢; exact H)
 have hji7w : (IntKind.i64.wrap (8 * a2)) = ji7 := (i64_w _).trans hji7
 by_cases c8 : 0 ≤ (ji7)
 rotate_left
 rw [if_neg c8] at H
 exact absurd H z6_
 rotate_right
 rw [if_pos c8] at H
 have c8b0 := eq_true c8
 have c8b1 : decide (0 ≤ (ji7)) = true := decide_eq_true c8
 clear c8
 obtain ⟨ji9, hji9⟩ : ∃ j_ : Int, (shl .i64 1 (ji7)) = j_ := ⟨_, rfl⟩
 replace H : (if a1 ≥ (ji9) then (some (([] : List Int), 1)) else ((dJ.f k l0 a1 a2).bind fun t145 => (some (t145, 0)))) = some (r1, r2) := by first | (rw [hji9] at H; exact H) | (simp only [hji9] at H ⊢; exact H)
 have hji9_ : (IntKind.i64.wrap (1 * 2 ^ min (ji7).toNat 64)) = ji9 := hji9
 have hji9z : (ji7) ≤ 64 → (IntKind.i64.wrap (1 * 2 ^ (ji7).toNat)) = ji9 := shl_small hji9
 have hji9u : (IntKind.i64.wrap (2 ^ min (ji7).toNat 64)) = ji9 := by have h_ := hji9_; rw [Int.one_mul] at h_; exact h_
 have hji9v : (ji7) ≤ 64 → (IntKind.i64.wrap (2 ^ (ji7).toNat)) = ji9 := fun hle_ => by have h_ := hji9z hle_; rw [Int.one_mul] at h_; exact h_
 have hji9y : (wrap64 (1 * 2 ^ min (ji7).toNat 64)) = ji9 := (i64_w _).symm.trans hji9_
 have hji9x : (ji7) ≤ 64 → (wrap64 (1 * 2 ^ (ji7).toNat)) = ji9 := fun h_ => (i64_w _).symm.trans (hji9z h_)
 by_cases c10 : a1 ≥ (ji9)
 rotate_left
 rw [if_neg c10] at H
 have c10b0 : decide ((ji9) ≤ a1) = false := decide_eq_false c10
 clear c10
 obtain ⟨t145, A11, H⟩ := Option.bind_eq_some_iff.mp H
 replace A11 := mk_ A11
 simp only [Option.some.injEq, Prod.mk.injEq] at H
 obtain ⟨rfl, rfl⟩ := H
 rotate_right
 rw [if_pos c10] at H
 have c10b0 : decide ((ji9) ≤ a1) = true := decide_eq_true c10
 clear c10
 simp only [Option.some.injEq, Prod.mk.injEq] at H
 obtain ⟨rfl, rfl⟩ := H
 rotate_right
 rw [if_pos c6] at H
 have c6b0 : decide (a1 < 0) = true := decide_eq_true c6
 clear c6
 simp only [Option.some.injEq, Prod.mk.injEq] at H
 obtain ⟨rfl, rfl⟩ := H
 rotate_right
 rw [if_pos c5] at H
 have c5b0 : decide (7 < a2) = true := decide_eq_true c5
 clear c5
 simp only [Option.some.injEq, Prod.mk.injEq] at H
 obtain ⟨rfl, rfl⟩ := H
 rotate_right
 rw [if_pos c4] at H
 have c4b0 : decide (a2 < 1) = true := decide_eq_true c4
 clear c4
 simp only [Option.some.injEq, Prod.mk.injEq] at H
 obtain ⟨rfl, rfl⟩ := H
 all_goals
  go_enter Tryz.func79, Tryz.ntmps79
  go_wp2_with (((with_reducible refine aE (f := 95) rfl ?_); refine Short.gL (some 28) Tryz.func95 #[.slice A0 l0.length c0, .int .i64 a1, .int .i64 a2] (h := ?_); (with_reducible refine (dJ.calls k _ _ l0 a1 a2 t145 _ ?side1 ?side2 A11.out).mono ?_); (case side1 => repeat (first | exact HR0.out | (with_reducible refine C_alloc ?_ _) | (with_reducible refine C_drewN ?_ _) | (with_reducible refine C_drew ?_))); (case side2 => exact HC0.out); rintro e w_28 ⟨v146, rfl, ho0, hb⟩; refine ⟨_, rfl, ?_⟩; have n0_ := mk_ (bW ho0 (aA (Short.hB HB))); have n1_ := mk_ (aC (Short.hB HB) hb); clear HB; revert n0_ n1_; intro HO147 HB; (try clear hb ho0)))
  go_ret2
  first | exact ⟨_, by first | rfl | (simp [aZ, aY] <;> rfl) | (simp only [← hji7, ← hji9]; first | rfl | (simp [aZ, aY] <;> rfl)) | (simp [*, aZ, aY] <;> rfl), by (with_reducible repeat (first | apply R_alloc | apply R_drewN | apply R_drew)); exact HO147.out, Short.hB HB⟩ | exact ⟨_, by first | rfl | (simp [aZ, aY] <;> rfl) | (simp only [← hji7, ← hji9]; first | rfl | (simp [aZ, aY] <;> rfl)) | (simp [*, aZ, aY] <;> rfl), by first | exact R_nil _ _ _ _ _ | exact N_nil _ _ _ _ _ | exact V_nil _ _ _ _ _ | exact Q_nil _ _ _ _ _ | exact S_nil _ _ _ _ _, Short.hB HB⟩ | exact ⟨_, by first | rfl | (simp [aZ, aY] <;> rfl) | (simp [*, aZ, aY] <;> rfl), by first | exact R_nil _ _ _ _ _ | exact N_nil _ _ _ _ _ | exact V_nil _ _ _ _ _ | exact Q_nil _ _ _ _ _ | exact S_nil _ _ _ _ _, Short.hB HB⟩
def wire_PutText.f (l0 : List Int) (a1 : ByteArray) : Option (List Int × Int) := if (a1.size : Int) > 24 then (some (([] : List Int), 2)) else ((cA.f l0).bind fun t154 => (if t154.length < 140737488355328 then ((some (t154 ++ [((a1.size : Int)) % 256] : List Int)).bind fun y157 => (if y157.length + a1.size < 140737488355328 then (some ((y157 ++ bytesOf a1), 0)) else (none))) else (none)))
theorem wire_PutText.calls (A0 : Option Addr) (c0 : Nat) (l0 : List Int) (a1 : ByteArray) (r1 : List Int) (r2 : Int) (w : World) (hr0 : Kd.C (Kd.int .u8) w A0 l0.length l0) (hc0 : l0.length ≤ c0) (h : wire_PutText.f l0 a1 = some (r1, r2)) :
  Calls Tryz.prog 80 #[.slice A0 l0.length c0, .string a1] w fun e w' => ∃ v0_ : Value, e = .returned (.tuple #[v0_, .int .i64 r2]) ∧ Kd.R (Kd.int .u8) 5 w' w.heap.size (fun _ => True) v0_ r1 ∧ Below w.heap.size w w' := by
 have HR0 := mk_ hr0
 have HC0 := mk_ hc0
 clear hr0 hc0
 have HB := mk_ (Below.refl w.heap.size w)
 have H : (if (a1.size : Int) > 24 then (some (([] : List Int), 2)) else ((cA.f l0).bind fun t154 => (if t154.length < 140737488355328 then ((some (t154 ++ [((a1.size : Int)) % 256] : List Int)).bind fun y157 => (if y157.length + a1.size < 140737488355328 then (some ((y157 ++ bytesOf a1), 0)) else (none))) else (none)))) = some (r1, r2) := h
 clear h
 by_cases c3 : (a1.size : Int) > 24
 ·
  rw [if_pos c3] at H
  have c3b0 : decide (24 < (a1.size : Int)) = true := decide_eq_true c3
  have c3b1 : decide (24 < a1.size) = true := decide_eq_true z3_
  clear c3
  simp only [Option.some.injEq, Prod.mk.injEq] at H
  obtain ⟨rfl, rfl⟩ := H
  go_enter Tryz.func80, Tryz.ntmps80
  go_wp2
  go_ret2
  exact ⟨_, by first | rfl | (simp [aZ, aY] <;> rfl) | (simp [*, aZ, aY] <;> rfl), by first | exact R_nil _ _ _ _ _ | exact N_nil _ _ _ _ _ | exact V_nil _ _ _ _ _ | exact Q_nil _ _ _ _ _ | exact S_nil _ _ _ _ _, Short.hB HB⟩
 rw [if_neg c3] at H
 have c3b0 : decide (24 < (a1.size : Int)) = false := decide_eq_false c3
 have c3b1 : decide (24 < a1.size) = false := decide_eq_false z3_
 clear c3
 obtain ⟨t154, A4, H⟩ := Option.bind_eq_some_iff.mp H
 replace A4 := mk_ A4
 by_cases c5 : t154.length < 140737488355328
 rotate_left
 ·
  rw [if_neg c5] at H
  exact absurd H z6_
 rw [if_pos c5] at H
 have LMc5 := mk_ c5
 clear c5
 obtain ⟨y157, hy157⟩ : ∃ y_ : List Int, y_ = (t154 ++ [((a1.size : Int)) % 256]) := ⟨_, rfl⟩
 replace H : (if y157.length + a1.size < 140737488355328 then (some ((y157 ++ bytesOf a1), 0)) else (none)) = some (r1, r2) := by first | (rw [hy157]; with_reducible exact H) | (have H2_ := (Option.bind_some _ _).symm.trans H; rw [hy157]; with_reducible exact H2_) | (have H2_ := (Option.bind_some _ _).symm.trans H; with_reducible exact H2_) | with_reducible exact H | (rw [hy157]; exact H) | exact H
 have Ny157 := mk_ hy157
 clear hy157
 by_cases c6 : y157.length + a1.size < 140737488355328
 rotate_left
 ·
  rw [if_neg c6] at H
  exact absurd H z6_
 rw [if_pos c6] at H
 have LMc6 := mk_ c6
 clear c6
 obtain ⟨y160, hy160⟩ : ∃ y_ : List Int, y_ = (y157 ++ bytesOf a1) := ⟨_, rfl⟩
 replace H : (some (y160, 0)) = some (r1, r2) := by first | (rw [hy160]; with_reducible exact H) | (have H2_ := (Option.bind_some _ _).symm.trans H; rw [hy160]; with_reducible exact H2_) | (have H2_ := (Option.bind_some _ _).symm.trans H; with_reducible exact H2_) | with_reducible exact H | (rw [hy160]; exact H) | exact H
 have Ny160 := mk_ hy160
 clear hy160
 simp only [Option.some.injEq, Prod.mk.injEq] at H
 obtain ⟨rfl, rfl⟩ := H
 go_enter Tryz.func80, Tryz.ntmps80
 go_wp2_with (first | ((with_reducible refine aE (f := 96) rfl ?_); refine Short.gL (some 10) Tryz.func96 #[.slice A0 l0.length c0] (h := ?_); (with_reducible refine (cA.calls _ _ l0 t154 _ ?side1 ?side2 A4.out).mono ?_); (case side1 => repeat (first | exact HR0.out | (with_reducible refine C_alloc ?_ _) | (with_reducible refine C_drewN ?_ _) | (with_reducible refine C_drew ?_))); (case side2 => exact HC0.out); rintro e w7 ⟨v155, rfl, ho0, hb⟩; refine ⟨_, rfl, ?_⟩; have n0_ := mk_ (bW ho0 (aA (Short.hB HB))); have n1_ := mk_ (aC (Short.hB HB) hb); clear HB; revert n0_ n1_; intro HO156 HB; (try clear hb ho0)) | ((with_reducible refine cK (b := .append) (xs := #[.tmp 10, .tmp 14]) rfl ?_); at_builtin; refine fU (Kd.int .u8) (w0 := w) w.heap.size rfl (.tmp 10) (.tmp 14) 36 5 (.int .u8 0) 1 rfl Tryz.underlying36 info5 rfl z5_ z3_ v155 t154 (((a1.size : Int)) % 256) [.int .u8 (((a1.size : Int)) % 256)] (fun _ => True) (fun _ => False) rfl rfl ?aP (fun _ hk => hk.elim) ?aF ?aO ?aB ?aS ?aL ?_; (case aP => exact rfl); (case aB => exact (Short.hB HB)); (case aF => exact (fun _ _ => trivial)); (case aO => exact (ZKR HO156)); (case aS => exact (aA (Short.hB HB))); (case aL => have := LMc5.out; omega); intro v158 w8 ho hb hg hat; rw [← Ny157.out] at ho; have n0_ := mk_ (hb); have n1_ := mk_ (ho); clear HB HO156; revert n0_ n1_; intro HB HO159; clear ho hb hg hat) | (at_builtin; refine jT (w0 := w) w.heap.size rfl (.tmp 15) _ 36 9 5 rfl Tryz.underlying36 Tryz.underlying9 info5 v158 y157 a1 rfl rfl ?aO ?aB ?aS ?aL ?_; (case aB => exact (Short.hB HB)); (case aO => exact (Kd.own_of_R (ZKR HO159))); (case aS => exact (aA (Short.hB HB))); (case aL => have := LMc6.out; omega); intro v161 w9 ho0 hb hg; have ho := R_of_own (h1 := fun _ => rfl) (ok := fun _ => True) ho0 (fun _ _ => trivial); clear ho0; have hat := True.intro; rw [← Ny160.out] at ho; change Kd.R (Kd.int .u8) 5 w9 w.heap.size (fun _ => True) v161 y160 at ho; have n0_ := mk_ (hb); have n1_ := mk_ (ho); clear HB HO159; revert n0_ n1_; intro HB HO162; clear ho hb hg hat))
 go_ret2
 exact ⟨_, by first | rfl | (simp [aZ, aY] <;> rfl) | (simp [*, aZ, aY] <;> rfl), by (with_reducible repeat (first | apply R_alloc | apply R_drewN | apply R_drew)); exact HO162.out, Short.hB HB⟩
def eG.f (a0 : Int) (a1 : Int) : Option (Bool) := if a0 ≥ (wrap64 (-a1)) then (some (decide (a0 ≤ a1))) else (some false)
theorem eG.calls (a0 : Int) (a1 : Int) (r : Bool) (w : World) (h : eG.f a0 a1 = some r) :
  Calls Tryz.prog 105 #[.int .i64 a0, .int .i64 a1] w fun e w' => e = .returned (.bool r) ∧ Drawn0 w w' := by
 have H : (if a0 ≥ (wrap64 (-a1)) then (some (decide (a0 ≤ a1))) else (some false)) = some r := h
 clear h
 by_cases c3 : a0 ≥ (wrap64 (-a1))
 rotate_left
 rw [if_neg c3] at H
 have c3b0 : decide ((wrap64 (-a1)) ≤ a0) = false := decide_eq_false c3
 clear c3
 obtain rfl := Option.some.inj H
 rotate_right
 rw [if_pos c3] at H
 have c3b0 : decide ((wrap64 (-a1)) ≤ a0) = true := decide_eq_true c3
 clear c3
 obtain rfl := Option.some.inj H
 all_goals
  go_enter Tryz.func105, Tryz.ntmps105
  go_wp2
  go_ret
  exact ⟨z4_, by repeat (first | exact Drawn0.refl _ | apply Drawn0.step)⟩
end Go.Proofs.YtjnjfogfpmeacaaGreat.PAll
end
section
namespace Go.Proofs.YtjnjfogfpmeacaaGreat.PAll
open Go.RowKit PrintWords PrintLast PrintMore ZipT PrintWords.Kd PrintMore.Kd
attribute [local go_sem] eP eN fD fA dS dT eO eK   -- for this text's walks alone
set_option linter.unusedVariables false
set_option linter.unusedSimpArgs false
def gE.f (l0_0 : List Int) : Option (Bool) := if (l0_0.length : Int) < 1 then (some true) else (some (decide ((l0_0.length : Int) > 4)))
theorem gE.calls (A0_0 : Option Addr) (c0_0 : Nat) (l0_0 : List Int) (r : Bool) (w : World) (hr0_0 : Kd.C (Kd.int .i64) w A0_0 l0_0.length l0_0) (hc0_0 : l0_0.length ≤ c0_0) (h : gE.f l0_0 = some r) :
  Calls Tryz.prog 27 #[.agg #[.slice A0_0 l0_0.length c0_0]] w fun e w' => e = .returned (.bool r) ∧ Below w.heap.size w w' := by
 have hu53 := Tryz.underlying53
 have HR0_0 := mk_ hr0_0
 have HC0_0 := mk_ hc0_0
 clear hr0_0 hc0_0
 have HB := mk_ (Below.refl w.heap.size w)
 have H : (if (l0_0.length : Int) < 1 then (some true) else (some (decide ((l0_0.length : Int) > 4)))) = some r := h
 clear h
 by_cases c2 : (l0_0.length : Int) < 1
 rotate_left
 rw [if_neg c2] at H
 have c2b0 : decide ((l0_0.length : Int) < 1) = false := decide_eq_false c2
 have c2b1 : decide (l0_0.length < 1) = false := decide_eq_false z3_
 clear c2
 obtain rfl := Option.some.inj H
 rotate_right
 rw [if_pos c2] at H
 have c2b0 : decide ((l0_0.length : Int) < 1) = true := decide_eq_true c2
 have c2b1 : decide (l0_0.length < 1) = true := decide_eq_true z3_
 clear c2
 obtain rfl := Option.some.inj H
 all_goals
  go_enter Tryz.func27, Tryz.ntmps27
  go_wp2_with (first | ((with_reducible refine aQ (N := 1) rfl ?_); (try (refine dC (by rfl) ?_; dsimp only)); refine aN ?hg (N := 1) ?hd (cs := #[.slice A0_0 l0_0.length c0_0]) (t := 53) ?hr ?_; (case hd => rfl); (case hg => rfl); (case hr => first | (go_simp; done) | (go_simp; rfl)); intro gb223 hg w_1 hbox hb; have n0_ := mk_ (aC (Short.hB HB) hb); have n1_ := mk_ (hbox); have n2_ := mk_ ((by rw [hg]; exact (aA (Short.hB HB)) : w.heap.size ≤ gb223)); have n3_ := mk_ ((by rw [hg]; exact (aA (Short.hB HB)) : w.heap.size ≤ gb223)); clear HB; revert n0_ n1_ n2_ n3_; intro HB BK223 GW223 GE223; clear hb hbox hg; obtain ⟨hcz_0, hfz_0⟩ := Short.c1 BK223.out))
  go_ret
  exact ⟨q0, Short.hB HB⟩
def gG.f (a0 : Int) : Option (Bool) := if a0 < 2 then (some true) else (some (decide (a0 > 4)))
theorem gG.calls (a0 : Int) (r : Bool) (w : World) (h : gG.f a0 = some r) :
  Calls Tryz.prog 29 #[.int .i64 a0] w fun e w' => e = .returned (.bool r) ∧ Drawn0 w w' := by
 have H : (if a0 < 2 then (some true) else (some (decide (a0 > 4)))) = some r := h
 clear h
 by_cases c2 : a0 < 2
 rotate_left
 rw [if_neg c2] at H
 have c2b0 : decide (a0 < 2) = false := decide_eq_false c2
 clear c2
 obtain rfl := Option.some.inj H
 rotate_right
 rw [if_pos c2] at H
 have c2b0 : decide (a0 < 2) = true := decide_eq_true c2
 clear c2
 obtain rfl := Option.some.inj H
 all_goals
  go_enter Tryz.func29, Tryz.ntmps29
  go_wp2
  go_ret
  exact ⟨z4_, by repeat (first | exact Drawn0.refl _ | apply Drawn0.step)⟩
def bH.l0 : Nat → List (S53) → Int → Int → Option (Int)
 | 0, _, _, _ => none
 | k + 1, x0, x7, x8 => if x8 < x7 then (if 0 ≤ x8 then (if x8 < (x0.length : Int) then ((gE.f ((cP x0 x8).f0)).bind fun t225 => (if t225 = true then (some x8) else (bH.l0 k x0 x7 (wrap64 (x8 + 1))))) else (none)) else (none)) else (some (-1))
def bH.f (k : Nat) (l0 : List (S53)) (a1 : Unit) : Option (Int) := bH.l0 k l0 (l0.length : Int) 0
theorem bH.calls (k : Nat) (A0 : Option Addr) (c0 : Nat) (l0 : List (S53)) (a1 : Unit) (r : Int) (w : World) (hr0 : Kd.C k53 w A0 l0.length l0) (hc0 : l0.length ≤ c0) (h : bH.f k l0 a1 = some r) :
  Calls Tryz.prog 57 #[.slice A0 l0.length c0, .func (.func 27) #[] #[]] w fun e w' => e = .returned (.int .i64 r) ∧ Below w.heap.size w w' := by
 have hu53 := Tryz.underlying53
 have HR0 := mk_ hr0
 have HC0 := mk_ hc0
 clear hr0 hc0
 have HB := mk_ (Below.refl w.heap.size w)
 have H : (bH.l0 k l0 (l0.length : Int) 0) = some r := h
 clear h
 have H' := mk_ H
 clear H
 go_enter Tryz.func57, Tryz.ntmps57
 go_wp2
 go_loopg [8] k (fun kq v8 w' => ∃ (x8_1 : Int), v8 = .int .i64 x8_1 ∧ Aside0 (bH.l0 kq l0 (l0.length : Int) x8_1 = some r) ∧ Aside0 (kq ≤ k) ∧ Aside0 (Below w.heap.size w w'))
 case atStart => exact ⟨(0), z4_, H', ⟨Nat.le_refl _⟩, ⟨Short.hB HB⟩⟩
 case round =>
  clear H'
  try clear p2
  obtain ⟨x8_1, rfl, HA, HK1, HB⟩ := hrel
  cases gk with
  | zero => exact absurd HA.out (by simp [bH.l0])
  | succ k1 =>
   have H := HA.out
   clear HA
   simp only [bH.l0] at H
   by_cases c3 : x8_1 < (l0.length : Int)
   rotate_left
   ·
    rw [if_neg c3] at H
    have c3b0 : decide (x8_1 < (l0.length : Int)) = false := decide_eq_false c3
    clear c3
    obtain rfl := Option.some.inj H
    go_wp2
    go_ret
    exact ⟨q0, Short.hB HB⟩
   rw [if_pos c3] at H
   have c3b0 : decide (x8_1 < (l0.length : Int)) = true := decide_eq_true c3
   clear c3
   by_cases c4 : 0 ≤ x8_1
   rotate_left
   ·
    rw [if_neg c4] at H
    exact absurd H z6_
   rw [if_pos c4] at H
   have c4b0 : decide (0 ≤ x8_1) = true := decide_eq_true c4
   clear c4
   by_cases c5 : x8_1 < (l0.length : Int)
   rotate_left
   ·
    rw [if_neg c5] at H
    exact absurd H z6_
   rw [if_pos c5] at H
   have c5b0 : decide (x8_1 < (l0.length : Int)) = true := decide_eq_true c5
   clear c5
   obtain ⟨t225, A6, H⟩ := Option.bind_eq_some_iff.mp H
   replace A6 := mk_ A6
   by_cases c7 : t225 = true
   ·
    subst c7
    rw [if_pos rfl] at H
    obtain rfl := Option.some.inj H
    have p224 : 0 ≤ (x8_1 : Int) := of_decide_eq_true z1_
    have q224 : x8_1 < (l0.length : Int) := of_decide_eq_true z1_
    obtain ⟨ad224, A224_0, c224_0, e224, hx224_0, hl224_0, hi224_0⟩ := fQ HR0.out x8_1 p224 q224
    cases e224
    replace hx224_0 := up_ HB hx224_0
    have HR224_0 := mk_ hi224_0
    have HC224_0 := mk_ hl224_0
    clear hi224_0 hl224_0
    replace p224 := eq_true p224
    replace q224 := eq_true q224
    go_wp2_with (first | ((first | ((with_reducible refine aE (f := 27) rfl ?_); refine Short.gL (some 16) Tryz.func27 #[.agg #[.slice A224_0 ((cP l0 x8_1).f0).length c224_0]] (h := ?_)) | ((with_reducible refine Go.Proofs.YtjnjfogfpmeacaaGreat.Steps.gate_any rfl ?_); refine Go.Proofs.YtjnjfogfpmeacaaGreat.Steps.goesV_ (some 16) rfl rfl Tryz.func27 z2_ rfl #[.agg #[.slice A224_0 ((cP l0 x8_1).f0).length c224_0]] rfl (by first | rfl | go_simp) z0_ ?_)); (with_reducible refine (gE.calls _ _ ((cP l0 x8_1).f0) true _ ?side1 ?side2 A6.out).mono ?_); (case side1 => exact cX_ (aU HR224_0.out HB.out)); (case side2 => exact HC224_0.out); rintro e w8 ⟨rfl, hb⟩; refine ⟨_, rfl, ?_⟩; have n0_ := mk_ (aC (Short.hB HB) hb); clear HB; revert n0_; intro HB; (try clear hb)))
    go_ret
    exact ⟨q0, Short.hB HB⟩
   replace c7 := Bool.eq_false_iff.mpr c7
   subst c7
   rw [if_neg (show ¬ (false = true) by decide)] at H
   have H' := mk_ H
   clear H
   have p224 : 0 ≤ (x8_1 : Int) := of_decide_eq_true z1_
   have q224 : x8_1 < (l0.length : Int) := of_decide_eq_true z1_
   obtain ⟨ad224, A224_0, c224_0, e224, hx224_0, hl224_0, hi224_0⟩ := fQ HR0.out x8_1 p224 q224
   cases e224
   replace hx224_0 := up_ HB hx224_0
   have HR224_0 := mk_ hi224_0
   have HC224_0 := mk_ hl224_0
   clear hi224_0 hl224_0
   replace p224 := eq_true p224
   replace q224 := eq_true q224
   go_wp2_with (first | ((first | ((with_reducible refine aE (f := 27) rfl ?_); refine Short.gL (some 16) Tryz.func27 #[.agg #[.slice A224_0 ((cP l0 x8_1).f0).length c224_0]] (h := ?_)) | ((with_reducible refine Go.Proofs.YtjnjfogfpmeacaaGreat.Steps.gate_any rfl ?_); refine Go.Proofs.YtjnjfogfpmeacaaGreat.Steps.goesV_ (some 16) rfl rfl Tryz.func27 z2_ rfl #[.agg #[.slice A224_0 ((cP l0 x8_1).f0).length c224_0]] rfl (by first | rfl | go_simp) z0_ ?_)); (with_reducible refine (gE.calls _ _ ((cP l0 x8_1).f0) false _ ?side1 ?side2 A6.out).mono ?_); (case side1 => exact cX_ (aU HR224_0.out HB.out)); (case side2 => exact HC224_0.out); rintro e w9 ⟨rfl, hb⟩; refine ⟨_, rfl, ?_⟩; have n0_ := mk_ (aC (Short.hB HB) hb); clear HB; revert n0_; intro HB; (try clear hb)))
   go_roundg k1
   case measure => have := HK1.out; omega
   case rel => exact ⟨(wrap64 (x8_1 + 1)), z4_, H', ⟨by have := HK1.out; omega⟩, ⟨Short.hB HB⟩⟩
def cN.f (k : Nat) (l0 : List (S53)) (a1 : Unit) : Option (Bool) := (bH.f k l0 a1).bind fun t226 => (some (decide (t226 ≥ 0)))
theorem cN.calls (k : Nat) (A0 : Option Addr) (c0 : Nat) (l0 : List (S53)) (a1 : Unit) (r : Bool) (w : World) (hr0 : Kd.C k53 w A0 l0.length l0) (hc0 : l0.length ≤ c0) (h : cN.f k l0 a1 = some r) :
  Calls Tryz.prog 26 #[.slice A0 l0.length c0, .func (.func 27) #[] #[]] w fun e w' => e = .returned (.bool r) ∧ Below w.heap.size w w' := by
 have HR0 := mk_ hr0
 have HC0 := mk_ hc0
 clear hr0 hc0
 have HB := mk_ (Below.refl w.heap.size w)
 have H : ((bH.f k l0 a1).bind fun t226 => (some (decide (t226 ≥ 0)))) = some r := h
 clear h
 obtain ⟨t226, A3, H⟩ := Option.bind_eq_some_iff.mp H
 replace A3 := mk_ A3
 obtain rfl := Option.some.inj H
 go_enter Tryz.func26, Tryz.ntmps26
 go_wp2_with (first | ((first | ((with_reducible refine aE (f := 57) rfl ?_); refine Short.gL (some 7) Tryz.func57 #[.slice A0 l0.length c0, .func (.func 27) #[] #[]] (h := ?_)) | ((with_reducible refine Go.Proofs.YtjnjfogfpmeacaaGreat.Steps.gate_any rfl ?_); refine Go.Proofs.YtjnjfogfpmeacaaGreat.Steps.goesV_ (some 7) rfl rfl Tryz.func57 z2_ rfl #[.slice A0 l0.length c0, .func (.func 27) #[] #[]] rfl (by first | rfl | go_simp) z0_ ?_)); (with_reducible refine (bH.calls k _ _ l0 a1 t226 _ ?side1 ?side2 A3.out).mono ?_); (case side1 => repeat (first | exact HR0.out | (with_reducible refine C_alloc ?_ _) | (with_reducible refine C_drewN ?_ _) | (with_reducible refine C_drew ?_))); (case side2 => exact HC0.out); rintro e w4 ⟨rfl, hb⟩; refine ⟨_, rfl, ?_⟩; have n0_ := mk_ (aC (Short.hB HB) hb); clear HB; revert n0_; intro HB; (try clear hb)))
 go_ret
 exact ⟨q0, Short.hB HB⟩
def bG.l0 : Nat → List Int → Int → Int → Option (Int)
 | 0, _, _, _ => none
 | k + 1, x0, x7, x8 => if x8 < x7 then (if 0 ≤ x8 then (if x8 < (x0.length : Int) then ((gG.f (rd x0 x8)).bind fun t228 => (if t228 = true then (some x8) else (bG.l0 k x0 x7 (wrap64 (x8 + 1))))) else (none)) else (none)) else (some (-1))
def bG.f (k : Nat) (l0 : List Int) (a1 : Unit) : Option (Int) := bG.l0 k l0 (l0.length : Int) 0
theorem bG.calls (k : Nat) (A0 : Option Addr) (c0 : Nat) (l0 : List Int) (a1 : Unit) (r : Int) (w : World) (hr0 : Kd.C (Kd.int .i64) w A0 l0.length l0) (hc0 : l0.length ≤ c0) (h : bG.f k l0 a1 = some r) :
  Calls Tryz.prog 58 #[.slice A0 l0.length c0, .func (.func 29) #[] #[]] w fun e w' => e = .returned (.int .i64 r) ∧ Drawn0 w w' := by
 have HR0 := mk_ hr0
 have HC0 := mk_ hc0
 clear hr0 hc0
 have H : (bG.l0 k l0 (l0.length : Int) 0) = some r := h
 clear h
 have H' := mk_ H
 clear H
 go_enter Tryz.func58, Tryz.ntmps58
 go_wp2
 go_loopg [8] k (fun kq v8 w' => ∃ (x8_1 : Int), v8 = .int .i64 x8_1 ∧ Aside0 (bG.l0 kq l0 (l0.length : Int) x8_1 = some r) ∧ Aside0 (kq ≤ k) ∧ Drawn0 w w')
 case atStart => exact ⟨(0), z4_, H', ⟨Nat.le_refl _⟩, by repeat (first | exact Drawn0.refl _ | apply Drawn0.step)⟩
 case round =>
  clear H'
  try clear p2
  obtain ⟨x8_1, rfl, HA, HK1, ⟨m1, rfl⟩⟩ := hrel
  cases gk with
  | zero => exact absurd HA.out (by simp [bG.l0])
  | succ k1 =>
   have H := HA.out
   clear HA
   simp only [bG.l0] at H
   by_cases c3 : x8_1 < (l0.length : Int)
   rotate_left
   ·
    rw [if_neg c3] at H
    have c3b0 : decide (x8_1 < (l0.length : Int)) = false := decide_eq_false c3
    clear c3
    obtain rfl := Option.some.inj H
    go_wp2
    go_ret
    exact ⟨z4_, by repeat (first | exact Drawn0.refl _ | apply Drawn0.step)⟩
   rw [if_pos c3] at H
   have c3b0 : decide (x8_1 < (l0.length : Int)) = true := decide_eq_true c3
   clear c3
   by_cases c4 : 0 ≤ x8_1
   rotate_left
   ·
    rw [if_neg c4] at H
    exact absurd H z6_
   rw [if_pos c4] at H
   have c4b0 : decide (0 ≤ x8_1) = true := decide_eq_true c4
   clear c4
   by_cases c5 : x8_1 < (l0.length : Int)
   rotate_left
   ·
    rw [if_neg c5] at H
    exact absurd H z6_
   rw [if_pos c5] at H
   have c5b0 : decide (x8_1 < (l0.length : Int)) = true := decide_eq_true c5
   clear c5
   obtain ⟨t228, A6, H⟩ := Option.bind_eq_some_iff.mp H
   replace A6 := mk_ A6
   by_cases c7 : t228 = true
   ·
    subst c7
    rw [if_pos rfl] at H
    obtain rfl := Option.some.inj H
    have p227 : 0 ≤ (x8_1 : Int) := of_decide_eq_true z1_
    have q227 : x8_1 < (l0.length : Int) := of_decide_eq_true z1_
    obtain ⟨ad227, e227, hx227_0⟩ := Kd.at_int HR0.out x8_1 p227 q227
    cases e227
    replace p227 := eq_true p227
    replace q227 := eq_true q227
    go_wp2_with (first | ((first | ((with_reducible refine aE (f := 29) rfl ?_); refine Short.gL (some 16) Tryz.func29 #[.int .i64 (rd l0 x8_1)] (h := ?_)) | ((with_reducible refine Go.Proofs.YtjnjfogfpmeacaaGreat.Steps.gate_any rfl ?_); refine Go.Proofs.YtjnjfogfpmeacaaGreat.Steps.goesV_ (some 16) rfl rfl Tryz.func29 z2_ rfl #[.int .i64 (rd l0 x8_1)] rfl (by first | rfl | go_simp) z0_ ?_)); (with_reducible refine (gG.calls (rd l0 x8_1) true _ A6.out).mono ?_); rintro e w' ⟨rfl, ⟨nd, rfl⟩⟩; refine ⟨_, rfl, ?_⟩))
    go_ret
    exact ⟨z4_, by repeat (first | exact Drawn0.refl _ | apply Drawn0.step)⟩
   replace c7 := Bool.eq_false_iff.mpr c7
   subst c7
   rw [if_neg (show ¬ (false = true) by decide)] at H
   have H' := mk_ H
   clear H
   have p227 : 0 ≤ (x8_1 : Int) := of_decide_eq_true z1_
   have q227 : x8_1 < (l0.length : Int) := of_decide_eq_true z1_
   obtain ⟨ad227, e227, hx227_0⟩ := Kd.at_int HR0.out x8_1 p227 q227
   cases e227
   replace p227 := eq_true p227
   replace q227 := eq_true q227
   go_wp2_with (first | ((first | ((with_reducible refine aE (f := 29) rfl ?_); refine Short.gL (some 16) Tryz.func29 #[.int .i64 (rd l0 x8_1)] (h := ?_)) | ((with_reducible refine Go.Proofs.YtjnjfogfpmeacaaGreat.Steps.gate_any rfl ?_); refine Go.Proofs.YtjnjfogfpmeacaaGreat.Steps.goesV_ (some 16) rfl rfl Tryz.func29 z2_ rfl #[.int .i64 (rd l0 x8_1)] rfl (by first | rfl | go_simp) z0_ ?_)); (with_reducible refine (gG.calls (rd l0 x8_1) false _ A6.out).mono ?_); rintro e w' ⟨rfl, ⟨nd, rfl⟩⟩; refine ⟨_, rfl, ?_⟩))
   go_roundg k1
   case measure => have := HK1.out; omega
   case rel => exact ⟨(wrap64 (x8_1 + 1)), z4_, H', ⟨by have := HK1.out; omega⟩, by repeat (first | exact Drawn0.refl _ | apply Drawn0.step)⟩
def cL.f (k : Nat) (l0 : List Int) (a1 : Unit) : Option (Bool) := (bG.f k l0 a1).bind fun t229 => (some (decide (t229 ≥ 0)))
theorem cL.calls (k : Nat) (A0 : Option Addr) (c0 : Nat) (l0 : List Int) (a1 : Unit) (r : Bool) (w : World) (hr0 : Kd.C (Kd.int .i64) w A0 l0.length l0) (hc0 : l0.length ≤ c0) (h : cL.f k l0 a1 = some r) :
  Calls Tryz.prog 28 #[.slice A0 l0.length c0, .func (.func 29) #[] #[]] w fun e w' => e = .returned (.bool r) ∧ Drawn0 w w' := by
 have HR0 := mk_ hr0
 have HC0 := mk_ hc0
 clear hr0 hc0
 have H : ((bG.f k l0 a1).bind fun t229 => (some (decide (t229 ≥ 0)))) = some r := h
 clear h
 obtain ⟨t229, A3, H⟩ := Option.bind_eq_some_iff.mp H
 replace A3 := mk_ A3
 obtain rfl := Option.some.inj H
 go_enter Tryz.func28, Tryz.ntmps28
 go_wp2_with (first | ((first | ((with_reducible refine aE (f := 58) rfl ?_); refine Short.gL (some 7) Tryz.func58 #[.slice A0 l0.length c0, .func (.func 29) #[] #[]] (h := ?_)) | ((with_reducible refine Go.Proofs.YtjnjfogfpmeacaaGreat.Steps.gate_any rfl ?_); refine Go.Proofs.YtjnjfogfpmeacaaGreat.Steps.goesV_ (some 7) rfl rfl Tryz.func58 z2_ rfl #[.slice A0 l0.length c0, .func (.func 29) #[] #[]] rfl (by first | rfl | go_simp) z0_ ?_)); (with_reducible refine (bG.calls k _ _ l0 a1 t229 _ ?side1 ?side2 A3.out).mono ?_); (case side1 => repeat (first | exact HR0.out | (with_reducible refine C_alloc ?_ _) | (with_reducible refine C_drewN ?_ _) | (with_reducible refine C_drew ?_))); (case side2 => exact HC0.out); rintro e w' ⟨rfl, ⟨nd, rfl⟩⟩; refine ⟨_, rfl, ?_⟩))
 go_ret
 exact ⟨z4_, by repeat (first | exact Drawn0.refl _ | apply Drawn0.step)⟩
mutual
def dB.j0 : Nat → List (S53) → Bool → Option (Int)
 | 0, _, _ => none
 | k + 1, x0, x12 => if x12 = true then (some 2) else ((cN.f k x0 ()).bind fun t230 => (if t230 = true then (some 2) else (dB.l0 k x0 (x0.length : Int) 0)))
def dB.l0 : Nat → List (S53) → Int → Int → Option (Int)
 | 0, _, _, _ => none
 | k + 1, x15, x16, x17 => if x17 < x16 then (if 0 ≤ x17 then (if x17 < (x15.length : Int) then ((cL.f k ((cP x15 x17).f0) ()).bind fun t233 => (if t233 = true then (some 10) else (dB.l0 k x15 x16 (wrap64 (x17 + 1))))) else (none)) else (none)) else (some 0)
end
def dB.f (k : Nat) (l0 : List (S53)) : Option (Int) := if (l0.length : Int) < 1 then (dB.j0 k l0 true) else (dB.j0 k l0 (decide ((l0.length : Int) > 3)))
theorem dB.calls (k : Nat) (A0 : Option Addr) (c0 : Nat) (l0 : List (S53)) (r : Int) (w : World) (hr0 : Kd.C k53 w A0 l0.length l0) (hc0 : l0.length ≤ c0) (h : dB.f k l0 = some r) :
  Calls Tryz.prog 9 #[.slice A0 l0.length c0] w fun e w' => e = .returned (.int .i64 r) ∧ Below w.heap.size w w' := by
 have hu53 := Tryz.underlying53
 have HR0 := mk_ hr0
 have HC0 := mk_ hc0
 clear hr0 hc0
 have HB := mk_ (Below.refl w.heap.size w)
 have H : (if (l0.length : Int) < 1 then (dB.j0 k l0 true) else (dB.j0 k l0 (decide ((l0.length : Int) > 3)))) = some r := h
 clear h
 have HC2 := mk_ H
 clear H
 go_enter Tryz.func9, Tryz.ntmps9
 go_upto_region 1 with (fail)
 go_cut [12] (fun v12 wc => ∃ (kq : Nat) (x12_1 : Bool), v12 = .bool x12_1 ∧ Aside0 (dB.j0 kq l0 x12_1 = some r) ∧ Aside0 (kq ≤ k) ∧ Aside0 (Below w.heap.size w wc))
 case first =>
  have H := HC2.out
  clear HC2
  by_cases c3 : (l0.length : Int) < 1
  ·
   rw [if_pos c3] at H
   have c3b0 : decide ((l0.length : Int) < 1) = true := decide_eq_true c3
   have c3b1 : decide (l0.length < 1) = true := decide_eq_true z3_
   clear c3
   (first | rw [c3b0] | (simp only [i64_w, i32_w]; rw [c3b0]) | skip)
   have H' := mk_ H
   clear H
   go_wp2
   go_meet
   case rel => exact ⟨_, (true), z4_, H', ⟨by first | omega | exact Nat.le_refl _⟩, ⟨Short.hB HB⟩⟩
  rw [if_neg c3] at H
  have c3b0 : decide ((l0.length : Int) < 1) = false := decide_eq_false c3
  have c3b1 : decide (l0.length < 1) = false := decide_eq_false z3_
  clear c3
  (first | rw [c3b0] | (simp only [i64_w, i32_w]; rw [c3b0]) | skip)
  have H' := mk_ H
  clear H
  go_wp2
  go_meet
  case rel => exact ⟨_, (decide ((l0.length : Int) > 3)), z4_, H', ⟨by first | omega | exact Nat.le_refl _⟩, ⟨Short.hB HB⟩⟩
 case rest => as_aux_lemma =>
  clear HC2
  try clear p2
  try clear c3
  try clear c3b0
  try clear c3b1
  obtain ⟨kq, x12_1, rfl, HA, HJ1, HB⟩ := hcut
  cases kq with
  | zero => exact absurd HA.out (by simp [dB.j0])
  | succ kj1 =>
   have H := HA.out
   clear HA
   simp only [dB.j0] at H
   by_cases c4 : x12_1 = true
   ·
    subst c4
    rw [if_pos rfl] at H
    obtain rfl := Option.some.inj H
    go_wp2
    go_ret
    exact ⟨q0, Short.hB HB⟩
   ·
    replace c4 := Bool.eq_false_iff.mpr c4
    subst c4
    rw [if_neg (show ¬ (false = true) by decide)] at H
    obtain ⟨t230, A5, H⟩ := Option.bind_eq_some_iff.mp H
    replace A5 := mk_ A5
    by_cases c6 : t230 = true
    ·
     subst c6
     rw [if_pos rfl] at H
     obtain rfl := Option.some.inj H
     go_wp2_with (first | ((with_reducible refine aE (f := 26) rfl ?_); refine Short.gL (some 14) Tryz.func26 #[.slice A0 l0.length c0, .func (.func 27) #[] #[]] (h := ?_); (with_reducible refine (cN.calls kj1 _ _ l0 () true _ ?side1 ?side2 A5.out).mono ?_); (case side1 => exact cX_ (aU HR0.out HB.out)); (case side2 => exact HC0.out); rintro e w7 ⟨rfl, hb⟩; refine ⟨_, rfl, ?_⟩; have n0_ := mk_ (aC (Short.hB HB) hb); clear HB; revert n0_; intro HB; (try clear hb)))
     go_ret
     exact ⟨q0, Short.hB HB⟩
    ·
     replace c6 := Bool.eq_false_iff.mpr c6
     subst c6
     rw [if_neg (show ¬ (false = true) by decide)] at H
     have H' := mk_ H
     clear H
     go_wp2_with (first | ((with_reducible refine aE (f := 26) rfl ?_); refine Short.gL (some 14) Tryz.func26 #[.slice A0 l0.length c0, .func (.func 27) #[] #[]] (h := ?_); (with_reducible refine (cN.calls kj1 _ _ l0 () false _ ?side1 ?side2 A5.out).mono ?_); (case side1 => exact cX_ (aU HR0.out HB.out)); (case side2 => exact HC0.out); rintro e w8 ⟨rfl, hb⟩; refine ⟨_, rfl, ?_⟩; have n0_ := mk_ (aC (Short.hB HB) hb); clear HB; revert n0_; intro HB; (try clear hb)))
     go_loopg [17] kj1 (fun kq v17 w' => ∃ (x17_2 : Int), v17 = .int .i64 x17_2 ∧ Aside0 (dB.l0 kq l0 (l0.length : Int) x17_2 = some r) ∧ Aside0 (kq ≤ kj1) ∧ Aside0 (Below w.heap.size w w'))
     case atStart => exact ⟨(0), z4_, H', ⟨Nat.le_refl _⟩, ⟨Short.hB HB⟩⟩
     case round =>
      clear H'
      try clear p2
      try clear c3
      try clear c3b0
      try clear c3b1
      try clear c4
      try clear c6
      try clear p2
      obtain ⟨x17_2, rfl, HA, HK2, HB⟩ := hrel
      cases gk with
      | zero => exact absurd HA.out (by simp [dB.l0])
      | succ k2 =>
       have H := HA.out
       clear HA
       simp only [dB.l0] at H
       by_cases c9 : x17_2 < (l0.length : Int)
       ·
        rw [if_pos c9] at H
        have c9b0 : decide (x17_2 < (l0.length : Int)) = true := decide_eq_true c9
        clear c9
        by_cases c10 : 0 ≤ x17_2
        ·
         rw [if_pos c10] at H
         have c10b0 : decide (0 ≤ x17_2) = true := decide_eq_true c10
         clear c10
         by_cases c11 : x17_2 < (l0.length : Int)
         ·
          rw [if_pos c11] at H
          have c11b0 : decide (x17_2 < (l0.length : Int)) = true := decide_eq_true c11
          clear c11
          obtain ⟨t233, A12, H⟩ := Option.bind_eq_some_iff.mp H
          replace A12 := mk_ A12
          by_cases c13 : t233 = true
          ·
           subst c13
           rw [if_pos rfl] at H
           obtain rfl := Option.some.inj H
           have p231 : 0 ≤ (x17_2 : Int) := of_decide_eq_true z1_
           have q231 : x17_2 < (l0.length : Int) := of_decide_eq_true z1_
           obtain ⟨ad231, A231_0, c231_0, e231, hx231_0, hl231_0, hi231_0⟩ := fQ HR0.out x17_2 p231 q231
           cases e231
           replace hx231_0 := up_ HB hx231_0
           have HR231_0 := mk_ hi231_0
           have HC231_0 := mk_ hl231_0
           clear hi231_0 hl231_0
           replace p231 := eq_true p231
           replace q231 := eq_true q231
           go_wp2_with (first | ((with_reducible refine aQ (N := 4) rfl ?_); (try (refine dC (by rfl) ?_; dsimp only)); refine aN ?hg (N := 4) ?hd (cs := #[.slice none 0 0]) (t := 53) ?hr ?_; (case hd => rfl); (case hg => rfl); (case hr => first | (go_simp; done) | (go_simp; rfl)); intro gb232 hg w14 hbox hb; have n0_ := mk_ (aC (Short.hB HB) hb); have n1_ := mk_ (hbox); have n2_ := mk_ ((by rw [hg]; exact (aA (Short.hB HB)) : w.heap.size ≤ gb232)); have n3_ := mk_ ((by rw [hg]; exact (aA (Short.hB HB)) : w.heap.size ≤ gb232)); clear HB; revert n0_ n1_ n2_ n3_; intro HB BK232 GW232 GE232; clear hb hbox hg; obtain ⟨hcz_0, hfz_0⟩ := Short.c1 BK232.out) | ((with_reducible refine aE (f := 28) rfl ?_); refine Short.gL (some 23) Tryz.func28 #[.slice A231_0 ((cP l0 x17_2).f0).length c231_0, .func (.func 29) #[] #[]] (h := ?_); (with_reducible refine (cL.calls k2 _ _ ((cP l0 x17_2).f0) () true _ ?side1 ?side2 A12.out).mono ?_); (case side1 => exact aU HR231_0.out (Short.hB HB)); (case side2 => exact HC231_0.out); rintro e w' ⟨rfl, ⟨nd, rfl⟩⟩; refine ⟨_, rfl, ?_⟩))
           go_ret
           exact ⟨q0, Short.hB HB⟩
          ·
           replace c13 := Bool.eq_false_iff.mpr c13
           subst c13
           rw [if_neg (show ¬ (false = true) by decide)] at H
           have H' := mk_ H
           clear H
           have p231 : 0 ≤ (x17_2 : Int) := of_decide_eq_true z1_
           have q231 : x17_2 < (l0.length : Int) := of_decide_eq_true z1_
           obtain ⟨ad231, A231_0, c231_0, e231, hx231_0, hl231_0, hi231_0⟩ := fQ HR0.out x17_2 p231 q231
           cases e231
           replace hx231_0 := up_ HB hx231_0
           have HR231_0 := mk_ hi231_0
           have HC231_0 := mk_ hl231_0
           clear hi231_0 hl231_0
           replace p231 := eq_true p231
           replace q231 := eq_true q231
           go_wp2_with (first | ((with_reducible refine aQ (N := 4) rfl ?_); (try (refine dC (by rfl) ?_; dsimp only)); refine aN ?hg (N := 4) ?hd (cs := #[.slice none 0 0]) (t := 53) ?hr ?_; (case hd => rfl); (case hg => rfl); (case hr => first | (go_simp; done) | (go_simp; rfl)); intro gb232 hg w16 hbox hb; have n0_ := mk_ (aC (Short.hB HB) hb); have n1_ := mk_ (hbox); have n2_ := mk_ ((by rw [hg]; exact (aA (Short.hB HB)) : w.heap.size ≤ gb232)); have n3_ := mk_ ((by rw [hg]; exact (aA (Short.hB HB)) : w.heap.size ≤ gb232)); clear HB; revert n0_ n1_ n2_ n3_; intro HB BK232 GW232 GE232; clear hb hbox hg; obtain ⟨hcz_0, hfz_0⟩ := Short.c1 BK232.out) | ((with_reducible refine aE (f := 28) rfl ?_); refine Short.gL (some 23) Tryz.func28 #[.slice A231_0 ((cP l0 x17_2).f0).length c231_0, .func (.func 29) #[] #[]] (h := ?_); (with_reducible refine (cL.calls k2 _ _ ((cP l0 x17_2).f0) () false _ ?side1 ?side2 A12.out).mono ?_); (case side1 => exact aU HR231_0.out (Short.hB HB)); (case side2 => exact HC231_0.out); rintro e w' ⟨rfl, ⟨nd, rfl⟩⟩; refine ⟨_, rfl, ?_⟩))
           go_roundg k2
           case measure => have := HJ1.out; have := HK2.out; omega
           case rel => exact ⟨(wrap64 (x17_2 + 1)), z4_, H', ⟨by have := HJ1.out; have := HK2.out; omega⟩, ⟨Short.hB HB⟩⟩
         ·
          rw [if_neg c11] at H
          exact absurd H z6_
        ·
         rw [if_neg c10] at H
         exact absurd H z6_
       ·
        rw [if_neg c9] at H
        have c9b0 : decide (x17_2 < (l0.length : Int)) = false := decide_eq_false c9
        clear c9
        obtain rfl := Option.some.inj H
        go_wp2
        go_ret
        exact ⟨q0, Short.hB HB⟩
def aT.f (a0 : Int) (a1 : Int) (a2 : Int) : Option (Bool) := if a0 ≥ a1 then (some (decide (a0 ≤ a2))) else (some false)
theorem aT.calls (a0 : Int) (a1 : Int) (a2 : Int) (r : Bool) (w : World) (h : aT.f a0 a1 a2 = some r) :
  Calls Tryz.prog 30 #[.int .i64 a0, .int .i64 a1, .int .i64 a2] w fun e w' => e = .returned (.bool r) ∧ Drawn0 w w' := by
 have H : (if a0 ≥ a1 then (some (decide (a0 ≤ a2))) else (some false)) = some r := h
 clear h
 by_cases c4 : a0 ≥ a1
 rotate_left
 rw [if_neg c4] at H
 have c4b0 : decide (a1 ≤ a0) = false := decide_eq_false c4
 clear c4
 obtain rfl := Option.some.inj H
 rotate_right
 rw [if_pos c4] at H
 have c4b0 : decide (a1 ≤ a0) = true := decide_eq_true c4
 clear c4
 obtain rfl := Option.some.inj H
 all_goals
  go_enter Tryz.func30, Tryz.ntmps30
  go_wp2
  go_ret
  exact ⟨z4_, by repeat (first | exact Drawn0.refl _ | apply Drawn0.step)⟩
def cW.f (a0 : Int) : Option (Bool) := (aT.f a0 2 4).bind fun t234 => (some t234)
theorem cW.calls (a0 : Int) (r : Bool) (w : World) (h : cW.f a0 = some r) :
  Calls Tryz.prog 31 #[.int .i64 a0] w fun e w' => e = .returned (.bool r) ∧ Drawn0 w w' := by
 have H : ((aT.f a0 2 4).bind fun t234 => (some t234)) = some r := h
 clear h
 obtain ⟨t234, A2, H⟩ := Option.bind_eq_some_iff.mp H
 replace A2 := mk_ A2
 obtain rfl := Option.some.inj H
 go_enter Tryz.func31, Tryz.ntmps31
 go_wp2_with (first | ((with_reducible refine aE (f := 30) rfl ?_); refine Short.gL (some 4) Tryz.func30 #[.int .i64 a0, .int .i64 2, .int .i64 4] (h := ?_); (with_reducible refine (aT.calls a0 2 4 t234 _ A2.out).mono ?_); rintro e w' ⟨rfl, ⟨nd, rfl⟩⟩; refine ⟨_, rfl, ?_⟩))
 go_ret
 exact ⟨z4_, by repeat (first | exact Drawn0.refl _ | apply Drawn0.step)⟩
end Go.Proofs.YtjnjfogfpmeacaaGreat.PAll
end
section
namespace Go.Proofs.YtjnjfogfpmeacaaGreat.PAll
open Go.RowKit PrintWords PrintLast PrintMore ZipT PrintWords.Kd PrintMore.Kd
attribute [local go_sem] eP eN fD fA dS dT eO eK   -- for this text's walks alone
set_option linter.unusedVariables false
set_option linter.unusedSimpArgs false
mutual
def aV.l0 : Nat → List (S53) → Int → Option (Int)
 | 0, _, _ => none
 | k + 1, x0, x3 => if x3 < (x0.length : Int) then (if 0 ≤ x3 then ((aT.f (((cP x0 x3).f0).length : Int) 1 4).bind fun t237 => (if t237 = true then (aV.l0 k x0 (wrap64 (x3 + 1))) else (some 2))) else (none)) else (aV.l1 k x0 0)
def aV.l1 : Nat → List (S53) → Int → Option (Int)
 | 0, _, _ => none
 | k + 1, x0, x4 => if x4 < (x0.length : Int) then (aV.l2 k x0 x4 0) else (some 0)
def aV.l2 : Nat → List (S53) → Int → Int → Option (Int)
 | 0, _, _, _ => none
 | k + 1, x0, x4, x5 => if 0 ≤ x4 then (if x4 < (x0.length : Int) then (if x5 < (((cP x0 x4).f0).length : Int) then (if 0 ≤ x5 then ((cW.f (rd ((cP x0 x4).f0) x5)).bind fun t241 => (if t241 = true then (aV.l2 k x0 x4 (wrap64 (x5 + 1))) else (some 10))) else (none)) else (aV.l1 k x0 (wrap64 (x4 + 1)))) else (none)) else (none)
end
def aV.f (k : Nat) (l0 : List (S53)) : Option (Int) := (aT.f (l0.length : Int) 1 3).bind fun t235 => (if t235 = true then (aV.l0 k l0 0) else (some 2))
theorem aV.calls (k : Nat) (A0 : Option Addr) (c0 : Nat) (l0 : List (S53)) (r : Int) (w : World) (hr0 : Kd.C k53 w A0 l0.length l0) (hc0 : l0.length ≤ c0) (h : aV.f k l0 = some r) :
  Calls Tryz.prog 10 #[.slice A0 l0.length c0] w fun e w' => e = .returned (.int .i64 r) ∧ Drawn0 w w' := by
 have HR0 := mk_ hr0
 have HC0 := mk_ hc0
 clear hr0 hc0
 have H : ((aT.f (l0.length : Int) 1 3).bind fun t235 => (if t235 = true then (aV.l0 k l0 0) else (some 2))) = some r := h
 clear h
 obtain ⟨t235, A2, H⟩ := Option.bind_eq_some_iff.mp H
 replace A2 := mk_ A2
 by_cases c3 : t235 = true
 rotate_left
 ·
  replace c3 := Bool.eq_false_iff.mpr c3
  subst c3
  rw [if_neg (show ¬ (false = true) by decide)] at H
  obtain rfl := Option.some.inj H
  go_enter Tryz.func10, Tryz.ntmps10
  go_wp2_with (first | ((with_reducible refine aE (f := 30) rfl ?_); refine Short.gL (some 8) Tryz.func30 #[.int .i64 (l0.length : Int), .int .i64 1, .int .i64 3] (h := ?_); (with_reducible refine (aT.calls (l0.length : Int) 1 3 false _ A2.out).mono ?_); rintro e w' ⟨rfl, ⟨nd, rfl⟩⟩; refine ⟨_, rfl, ?_⟩))
  go_ret
  exact ⟨z4_, by repeat (first | exact Drawn0.refl _ | apply Drawn0.step)⟩
 subst c3
 rw [if_pos rfl] at H
 have H' := mk_ H
 clear H
 go_enter Tryz.func10, Tryz.ntmps10
 go_wp2_with (first | ((with_reducible refine aE (f := 30) rfl ?_); refine Short.gL (some 8) Tryz.func30 #[.int .i64 (l0.length : Int), .int .i64 1, .int .i64 3] (h := ?_); (with_reducible refine (aT.calls (l0.length : Int) 1 3 true _ A2.out).mono ?_); rintro e w' ⟨rfl, ⟨nd, rfl⟩⟩; refine ⟨_, rfl, ?_⟩))
 go_loopg [3] k (fun kq v3 w' => ∃ (x3_1 : Int), v3 = .int .i64 x3_1 ∧ Aside0 (aV.l0 kq l0 x3_1 = some r) ∧ Aside0 (kq ≤ k) ∧ Drawn0 w w')
 case atStart => exact ⟨(0), z4_, H', ⟨Nat.le_refl _⟩, by repeat (first | exact Drawn0.refl _ | apply Drawn0.step)⟩
 case round =>
  clear H'
  try clear c1
  try clear p2
  try clear c3
  obtain ⟨x3_1, rfl, HA, HK1, ⟨m1, rfl⟩⟩ := hrel
  cases gk with
  | zero => exact absurd HA.out (by simp [aV.l0])
  | succ k1 =>
   have H := HA.out
   clear HA
   simp only [aV.l0] at H
   by_cases c4 : x3_1 < (l0.length : Int)
   ·
    rw [if_pos c4] at H
    have c4b0 : decide (x3_1 < (l0.length : Int)) = true := decide_eq_true c4
    clear c4
    by_cases c5 : 0 ≤ x3_1
    rotate_left
    ·
     rw [if_neg c5] at H
     exact absurd H z6_
    rw [if_pos c5] at H
    have c5b0 : decide (0 ≤ x3_1) = true := decide_eq_true c5
    clear c5
    obtain ⟨t237, A6, H⟩ := Option.bind_eq_some_iff.mp H
    replace A6 := mk_ A6
    by_cases c7 : t237 = true
    rotate_left
    ·
     replace c7 := Bool.eq_false_iff.mpr c7
     subst c7
     rw [if_neg (show ¬ (false = true) by decide)] at H
     obtain rfl := Option.some.inj H
     have p236 : 0 ≤ (x3_1 : Int) := of_decide_eq_true z1_
     have q236 : x3_1 < (l0.length : Int) := of_decide_eq_true z1_
     obtain ⟨ad236, A236_0, c236_0, e236, hx236_0, hl236_0, hi236_0⟩ := fQ HR0.out x3_1 p236 q236
     cases e236
     have HR236_0 := mk_ hi236_0
     have HC236_0 := mk_ hl236_0
     clear hi236_0 hl236_0
     replace p236 := eq_true p236
     replace q236 := eq_true q236
     go_wp2_with (first | ((with_reducible refine aE (f := 30) rfl ?_); refine Short.gL (some 22) Tryz.func30 #[.int .i64 (((cP l0 x3_1).f0).length : Int), .int .i64 1, .int .i64 4] (h := ?_); (with_reducible refine (aT.calls (((cP l0 x3_1).f0).length : Int) 1 4 false _ A6.out).mono ?_); rintro e w' ⟨rfl, ⟨nd, rfl⟩⟩; refine ⟨_, rfl, ?_⟩))
     go_ret
     exact ⟨z4_, by repeat (first | exact Drawn0.refl _ | apply Drawn0.step)⟩
    subst c7
    rw [if_pos rfl] at H
    have H' := mk_ H
    clear H
    have p236 : 0 ≤ (x3_1 : Int) := of_decide_eq_true z1_
    have q236 : x3_1 < (l0.length : Int) := of_decide_eq_true z1_
    obtain ⟨ad236, A236_0, c236_0, e236, hx236_0, hl236_0, hi236_0⟩ := fQ HR0.out x3_1 p236 q236
    cases e236
    have HR236_0 := mk_ hi236_0
    have HC236_0 := mk_ hl236_0
    clear hi236_0 hl236_0
    replace p236 := eq_true p236
    replace q236 := eq_true q236
    go_wp2_with (first | ((with_reducible refine aE (f := 30) rfl ?_); refine Short.gL (some 22) Tryz.func30 #[.int .i64 (((cP l0 x3_1).f0).length : Int), .int .i64 1, .int .i64 4] (h := ?_); (with_reducible refine (aT.calls (((cP l0 x3_1).f0).length : Int) 1 4 true _ A6.out).mono ?_); rintro e w' ⟨rfl, ⟨nd, rfl⟩⟩; refine ⟨_, rfl, ?_⟩))
    go_roundg k1
    case measure => have := HK1.out; omega
    case rel => exact ⟨(wrap64 (x3_1 + 1)), z4_, H', ⟨by have := HK1.out; omega⟩, by repeat (first | exact Drawn0.refl _ | apply Drawn0.step)⟩
   rw [if_neg c4] at H
   have c4b0 : decide (x3_1 < (l0.length : Int)) = false := decide_eq_false c4
   clear c4
   have H' := mk_ H
   clear H
   go_wp2
   go_loopg [4] k1 (fun kq v4 w' => ∃ (x4_2 : Int), v4 = .int .i64 x4_2 ∧ Aside0 (aV.l1 kq l0 x4_2 = some r) ∧ Aside0 (kq ≤ k1) ∧ Drawn0 w w')
   case atStart => exact ⟨(0), z4_, H', ⟨Nat.le_refl _⟩, by repeat (first | exact Drawn0.refl _ | apply Drawn0.step)⟩
   case round =>
    clear H'
    try clear c1
    try clear c2
    try clear p2
    try clear q2
    try clear hx2
    try clear c3
    try clear c4
    try clear c4b0
    try clear c5
    try clear c5b0
    try clear p6
    try clear c7
    try clear hx236_0
    try clear p2
    try clear p236
    try clear q236
    obtain ⟨x4_2, rfl, HA, HK2, ⟨m2, rfl⟩⟩ := hrel
    cases gk with
    | zero => exact absurd HA.out (by simp [aV.l1])
    | succ k2 =>
     have H := HA.out
     clear HA
     simp only [aV.l1] at H
     by_cases c8 : x4_2 < (l0.length : Int)
     rotate_left
     ·
      rw [if_neg c8] at H
      have c8b0 : decide (x4_2 < (l0.length : Int)) = false := decide_eq_false c8
      clear c8
      obtain rfl := Option.some.inj H
      go_wp2
      go_ret
      exact ⟨z4_, by repeat (first | exact Drawn0.refl _ | apply Drawn0.step)⟩
     rw [if_pos c8] at H
     have c8b0 : decide (x4_2 < (l0.length : Int)) = true := decide_eq_true c8
     clear c8
     have H' := mk_ H
     clear H
     go_wp2
     go_loopg [5] k2 (fun kq v5 w' => ∃ (x5_3 : Int), v5 = .int .i64 x5_3 ∧ Aside0 (aV.l2 kq l0 x4_2 x5_3 = some r) ∧ Aside0 (kq ≤ k2) ∧ Drawn0 w w')
     case atStart => exact ⟨(0), z4_, H', ⟨Nat.le_refl _⟩, by repeat (first | exact Drawn0.refl _ | apply Drawn0.step)⟩
     case round =>
      clear H'
      try clear c1
      try clear c2
      try clear p2
      try clear q2
      try clear hx2
      try clear c3
      try clear c4
      try clear c4b0
      try clear c5
      try clear c5b0
      try clear p6
      try clear c7
      try clear c8
      try clear c8b0
      try clear hx236_0
      try clear p2
      try clear p236
      try clear p6
      try clear q2
      try clear q236
      obtain ⟨x5_3, rfl, HA, HK3, ⟨m3, rfl⟩⟩ := hrel
      cases gk with
      | zero => exact absurd HA.out (by simp [aV.l2])
      | succ k3 =>
       have H := HA.out
       clear HA
       simp only [aV.l2] at H
       by_cases c9 : 0 ≤ x4_2
       rotate_left
       ·
        rw [if_neg c9] at H
        exact absurd H z6_
       rw [if_pos c9] at H
       have c9b0 : decide (0 ≤ x4_2) = true := decide_eq_true c9
       clear c9
       by_cases c10 : x4_2 < (l0.length : Int)
       rotate_left
       ·
        rw [if_neg c10] at H
        exact absurd H z6_
       rw [if_pos c10] at H
       have c10b0 : decide (x4_2 < (l0.length : Int)) = true := decide_eq_true c10
       clear c10
       by_cases c11 : x5_3 < (((cP l0 x4_2).f0).length : Int)
       rotate_left
       ·
        rw [if_neg c11] at H
        have c11b0 : decide (x5_3 < (((cP l0 x4_2).f0).length : Int)) = false := decide_eq_false c11
        clear c11
        have H' := mk_ H
        clear H
        have p238 : 0 ≤ (x4_2 : Int) := of_decide_eq_true z1_
        have q238 : x4_2 < (l0.length : Int) := of_decide_eq_true z1_
        obtain ⟨ad238, A238_0, c238_0, e238, hx238_0, hl238_0, hi238_0⟩ := fQ HR0.out x4_2 p238 q238
        cases e238
        have HR238_0 := mk_ hi238_0
        have HC238_0 := mk_ hl238_0
        clear hi238_0 hl238_0
        replace p238 := eq_true p238
        replace q238 := eq_true q238
        go_wp2
        go_roundg k3
        case measure => have := HK1.out; have := HK2.out; have := HK3.out; omega
        case rel => exact ⟨(wrap64 (x4_2 + 1)), z4_, H', ⟨by have := HK1.out; have := HK2.out; have := HK3.out; omega⟩, by repeat (first | exact Drawn0.refl _ | apply Drawn0.step)⟩
       rw [if_pos c11] at H
       have c11b0 : decide (x5_3 < (((cP l0 x4_2).f0).length : Int)) = true := decide_eq_true c11
       clear c11
       by_cases c12 : 0 ≤ x5_3
       rotate_left
       ·
        rw [if_neg c12] at H
        exact absurd H z6_
       rw [if_pos c12] at H
       have c12b0 : decide (0 ≤ x5_3) = true := decide_eq_true c12
       clear c12
       obtain ⟨t241, A13, H⟩ := Option.bind_eq_some_iff.mp H
       replace A13 := mk_ A13
       by_cases c14 : t241 = true
       rotate_left
       ·
        replace c14 := Bool.eq_false_iff.mpr c14
        subst c14
        rw [if_neg (show ¬ (false = true) by decide)] at H
        obtain rfl := Option.some.inj H
        have p238 : 0 ≤ (x4_2 : Int) := of_decide_eq_true z1_
        have q238 : x4_2 < (l0.length : Int) := of_decide_eq_true z1_
        obtain ⟨ad238, A238_0, c238_0, e238, hx238_0, hl238_0, hi238_0⟩ := fQ HR0.out x4_2 p238 q238
        cases e238
        have HR238_0 := mk_ hi238_0
        have HC238_0 := mk_ hl238_0
        clear hi238_0 hl238_0
        replace p238 := eq_true p238
        replace q238 := eq_true q238
        have p239 : 0 ≤ (x4_2 : Int) := of_decide_eq_true z1_
        have q239 : x4_2 < (l0.length : Int) := of_decide_eq_true z1_
        obtain ⟨ad239, A239_0, c239_0, e239, hx239_0, hl239_0, hi239_0⟩ := fQ HR0.out x4_2 p239 q239
        obtain rfl : ad238 = ad239 := (by injection e239)
        have HR239_0 := mk_ hi239_0
        have HC239_0 := mk_ hl239_0
        clear hi239_0 hl239_0
        replace p239 := eq_true p239
        replace q239 := eq_true q239
        have ea_ := Option.some.inj (hx238_0.symm.trans hx239_0)
        injection ea_ with ea_ en_ ec_
        subst ea_
        subst ec_
        clear en_
        have p240 : 0 ≤ (x5_3 : Int) := of_decide_eq_true z1_
        have q240 : x5_3 < (((cP l0 x4_2).f0).length : Int) := of_decide_eq_true z1_
        obtain ⟨ad240, e240, hx240_0⟩ := Kd.at_int HR239_0.out x5_3 p240 q240
        cases e240
        replace p240 := eq_true p240
        replace q240 := eq_true q240
        go_wp2_with (first | ((with_reducible refine aE (f := 31) rfl ?_); refine Short.gL (some 48) Tryz.func31 #[.int .i64 (rd ((cP l0 x4_2).f0) x5_3)] (h := ?_); (with_reducible refine (cW.calls (rd ((cP l0 x4_2).f0) x5_3) false _ A13.out).mono ?_); rintro e w' ⟨rfl, ⟨nd, rfl⟩⟩; refine ⟨_, rfl, ?_⟩))
        go_ret
        exact ⟨z4_, by repeat (first | exact Drawn0.refl _ | apply Drawn0.step)⟩
       subst c14
       rw [if_pos rfl] at H
       have H' := mk_ H
       clear H
       have p238 : 0 ≤ (x4_2 : Int) := of_decide_eq_true z1_
       have q238 : x4_2 < (l0.length : Int) := of_decide_eq_true z1_
       obtain ⟨ad238, A238_0, c238_0, e238, hx238_0, hl238_0, hi238_0⟩ := fQ HR0.out x4_2 p238 q238
       cases e238
       have HR238_0 := mk_ hi238_0
       have HC238_0 := mk_ hl238_0
       clear hi238_0 hl238_0
       replace p238 := eq_true p238
       replace q238 := eq_true q238
       have p239 : 0 ≤ (x4_2 : Int) := of_decide_eq_true z1_
       have q239 : x4_2 < (l0.length : Int) := of_decide_eq_true z1_
       obtain ⟨ad239, A239_0, c239_0, e239, hx239_0, hl239_0, hi239_0⟩ := fQ HR0.out x4_2 p239 q239
       obtain rfl : ad238 = ad239 := (by injection e239)
       have HR239_0 := mk_ hi239_0
       have HC239_0 := mk_ hl239_0
       clear hi239_0 hl239_0
       replace p239 := eq_true p239
       replace q239 := eq_true q239
       have ea_ := Option.some.inj (hx238_0.symm.trans hx239_0)
       injection ea_ with ea_ en_ ec_
       subst ea_
       subst ec_
       clear en_
       have p240 : 0 ≤ (x5_3 : Int) := of_decide_eq_true z1_
       have q240 : x5_3 < (((cP l0 x4_2).f0).length : Int) := of_decide_eq_true z1_
       obtain ⟨ad240, e240, hx240_0⟩ := Kd.at_int HR239_0.out x5_3 p240 q240
       cases e240
       replace p240 := eq_true p240
       replace q240 := eq_true q240
       go_wp2_with (first | ((with_reducible refine aE (f := 31) rfl ?_); refine Short.gL (some 48) Tryz.func31 #[.int .i64 (rd ((cP l0 x4_2).f0) x5_3)] (h := ?_); (with_reducible refine (cW.calls (rd ((cP l0 x4_2).f0) x5_3) true _ A13.out).mono ?_); rintro e w' ⟨rfl, ⟨nd, rfl⟩⟩; refine ⟨_, rfl, ?_⟩))
       go_roundg k3
       case measure => have := HK1.out; have := HK2.out; have := HK3.out; omega
       case rel => exact ⟨(wrap64 (x5_3 + 1)), z4_, H', ⟨by have := HK1.out; have := HK2.out; have := HK3.out; omega⟩, by repeat (first | exact Drawn0.refl _ | apply Drawn0.step)⟩
def gP.f (a0 : ByteArray) : Option (Bool) := if (a0.size : Int) ≥ 1 then (some (decide ((a0.size : Int) ≤ 12))) else (some false)
theorem gP.calls (a0 : ByteArray) (r : Bool) (w : World) (h : gP.f a0 = some r) :
  Calls Tryz.prog 11 #[.string a0] w fun e w' => e = .returned (.bool r) ∧ Drawn0 w w' := by
 have H : (if (a0.size : Int) ≥ 1 then (some (decide ((a0.size : Int) ≤ 12))) else (some false)) = some r := h
 clear h
 by_cases c2 : (a0.size : Int) ≥ 1
 rotate_left
 rw [if_neg c2] at H
 have c2b0 : decide (1 ≤ (a0.size : Int)) = false := decide_eq_false c2
 have c2b1 : decide (1 ≤ a0.size) = false := decide_eq_false z3_
 clear c2
 obtain rfl := Option.some.inj H
 rotate_right
 rw [if_pos c2] at H
 have c2b0 : decide (1 ≤ (a0.size : Int)) = true := decide_eq_true c2
 have c2b1 : decide (1 ≤ a0.size) = true := decide_eq_true z3_
 clear c2
 obtain rfl := Option.some.inj H
 all_goals
  go_enter Tryz.func11, Tryz.ntmps11
  go_wp2
  go_ret
  exact ⟨z4_, by repeat (first | exact Drawn0.refl _ | apply Drawn0.step)⟩
def eW.f (a0 : ByteArray) : Option (Bool) := (aT.f (a0.size : Int) 1 12).bind fun t242 => (some t242)
theorem eW.calls (a0 : ByteArray) (r : Bool) (w : World) (h : eW.f a0 = some r) :
  Calls Tryz.prog 12 #[.string a0] w fun e w' => e = .returned (.bool r) ∧ Drawn0 w w' := by
 have H : ((aT.f (a0.size : Int) 1 12).bind fun t242 => (some t242)) = some r := h
 clear h
 obtain ⟨t242, A2, H⟩ := Option.bind_eq_some_iff.mp H
 replace A2 := mk_ A2
 obtain rfl := Option.some.inj H
 go_enter Tryz.func12, Tryz.ntmps12
 go_wp2_with (first | ((with_reducible refine aE (f := 30) rfl ?_); refine Short.gL (some 5) Tryz.func30 #[.int .i64 (a0.size : Int), .int .i64 1, .int .i64 12] (h := ?_); (with_reducible refine (aT.calls (a0.size : Int) 1 12 t242 _ A2.out).mono ?_); rintro e w' ⟨rfl, ⟨nd, rfl⟩⟩; refine ⟨_, rfl, ?_⟩))
 go_ret
 exact ⟨z4_, by repeat (first | exact Drawn0.refl _ | apply Drawn0.step)⟩
def fT.f (a0 : Int) : Option (Bool) := if a0 < 0 then (some true) else (some (decide (a0 > 1073741824)))
theorem fT.calls (a0 : Int) (r : Bool) (w : World) (h : fT.f a0 = some r) :
  Calls Tryz.prog 100 #[.int .i64 a0] w fun e w' => e = .returned (.bool r) ∧ Drawn0 w w' := by
 have H : (if a0 < 0 then (some true) else (some (decide (a0 > 1073741824)))) = some r := h
 clear h
 by_cases c2 : a0 < 0
 rotate_left
 rw [if_neg c2] at H
 have c2b0 : decide (a0 < 0) = false := decide_eq_false c2
 clear c2
 obtain rfl := Option.some.inj H
 rotate_right
 rw [if_pos c2] at H
 have c2b0 : decide (a0 < 0) = true := decide_eq_true c2
 clear c2
 obtain rfl := Option.some.inj H
 all_goals
  go_enter Tryz.func100, Tryz.ntmps100
  go_wp2
  go_ret
  exact ⟨z4_, by repeat (first | exact Drawn0.refl _ | apply Drawn0.step)⟩
def bD.l0 : Nat → List Int → Int → Int → Option (Int)
 | 0, _, _, _ => none
 | k + 1, x0, x7, x8 => if x8 < x7 then (if 0 ≤ x8 then (if x8 < (x0.length : Int) then ((fT.f (rd x0 x8)).bind fun t244 => (if t244 = true then (some x8) else (bD.l0 k x0 x7 (wrap64 (x8 + 1))))) else (none)) else (none)) else (some (-1))
def bD.f (k : Nat) (l0 : List Int) (a1 : Unit) : Option (Int) := bD.l0 k l0 (l0.length : Int) 0
theorem bD.calls (k : Nat) (A0 : Option Addr) (c0 : Nat) (l0 : List Int) (a1 : Unit) (r : Int) (w : World) (hr0 : Kd.C (Kd.int .i64) w A0 l0.length l0) (hc0 : l0.length ≤ c0) (h : bD.f k l0 a1 = some r) :
  Calls Tryz.prog 58 #[.slice A0 l0.length c0, .func (.func 100) #[] #[]] w fun e w' => e = .returned (.int .i64 r) ∧ Drawn0 w w' := by
 have HR0 := mk_ hr0
 have HC0 := mk_ hc0
 clear hr0 hc0
 have H : (bD.l0 k l0 (l0.length : Int) 0) = some r := h
 clear h
 have H' := mk_ H
 clear H
 go_enter Tryz.func58, Tryz.ntmps58
 go_wp2
 go_loopg [8] k (fun kq v8 w' => ∃ (x8_1 : Int), v8 = .int .i64 x8_1 ∧ Aside0 (bD.l0 kq l0 (l0.length : Int) x8_1 = some r) ∧ Aside0 (kq ≤ k) ∧ Drawn0 w w')
 case atStart => exact ⟨(0), z4_, H', ⟨Nat.le_refl _⟩, by repeat (first | exact Drawn0.refl _ | apply Drawn0.step)⟩
 case round =>
  clear H'
  try clear p2
  obtain ⟨x8_1, rfl, HA, HK1, ⟨m1, rfl⟩⟩ := hrel
  cases gk with
  | zero => exact absurd HA.out (by simp [bD.l0])
  | succ k1 =>
   have H := HA.out
   clear HA
   simp only [bD.l0] at H
   by_cases c3 : x8_1 < (l0.length : Int)
   rotate_left
   ·
    rw [if_neg c3] at H
    have c3b0 : decide (x8_1 < (l0.length : Int)) = false := decide_eq_false c3
    clear c3
    obtain rfl := Option.some.inj H
    go_wp2
    go_ret
    exact ⟨z4_, by repeat (first | exact Drawn0.refl _ | apply Drawn0.step)⟩
   rw [if_pos c3] at H
   have c3b0 : decide (x8_1 < (l0.length : Int)) = true := decide_eq_true c3
   clear c3
   by_cases c4 : 0 ≤ x8_1
   rotate_left
   ·
    rw [if_neg c4] at H
    exact absurd H z6_
   rw [if_pos c4] at H
   have c4b0 : decide (0 ≤ x8_1) = true := decide_eq_true c4
   clear c4
   by_cases c5 : x8_1 < (l0.length : Int)
   rotate_left
   ·
    rw [if_neg c5] at H
    exact absurd H z6_
   rw [if_pos c5] at H
   have c5b0 : decide (x8_1 < (l0.length : Int)) = true := decide_eq_true c5
   clear c5
   obtain ⟨t244, A6, H⟩ := Option.bind_eq_some_iff.mp H
   replace A6 := mk_ A6
   by_cases c7 : t244 = true
   ·
    subst c7
    rw [if_pos rfl] at H
    obtain rfl := Option.some.inj H
    have p243 : 0 ≤ (x8_1 : Int) := of_decide_eq_true z1_
    have q243 : x8_1 < (l0.length : Int) := of_decide_eq_true z1_
    obtain ⟨ad243, e243, hx243_0⟩ := Kd.at_int HR0.out x8_1 p243 q243
    cases e243
    replace p243 := eq_true p243
    replace q243 := eq_true q243
    go_wp2_with (first | ((first | ((with_reducible refine aE (f := 100) rfl ?_); refine Short.gL (some 16) Tryz.func100 #[.int .i64 (rd l0 x8_1)] (h := ?_)) | ((with_reducible refine Go.Proofs.YtjnjfogfpmeacaaGreat.Steps.gate_any rfl ?_); refine Go.Proofs.YtjnjfogfpmeacaaGreat.Steps.goesV_ (some 16) rfl rfl Tryz.func100 z2_ rfl #[.int .i64 (rd l0 x8_1)] rfl (by first | rfl | go_simp) z0_ ?_)); (with_reducible refine (fT.calls (rd l0 x8_1) true _ A6.out).mono ?_); rintro e w' ⟨rfl, ⟨nd, rfl⟩⟩; refine ⟨_, rfl, ?_⟩))
    go_ret
    exact ⟨z4_, by repeat (first | exact Drawn0.refl _ | apply Drawn0.step)⟩
   replace c7 := Bool.eq_false_iff.mpr c7
   subst c7
   rw [if_neg (show ¬ (false = true) by decide)] at H
   have H' := mk_ H
   clear H
   have p243 : 0 ≤ (x8_1 : Int) := of_decide_eq_true z1_
   have q243 : x8_1 < (l0.length : Int) := of_decide_eq_true z1_
   obtain ⟨ad243, e243, hx243_0⟩ := Kd.at_int HR0.out x8_1 p243 q243
   cases e243
   replace p243 := eq_true p243
   replace q243 := eq_true q243
   go_wp2_with (first | ((first | ((with_reducible refine aE (f := 100) rfl ?_); refine Short.gL (some 16) Tryz.func100 #[.int .i64 (rd l0 x8_1)] (h := ?_)) | ((with_reducible refine Go.Proofs.YtjnjfogfpmeacaaGreat.Steps.gate_any rfl ?_); refine Go.Proofs.YtjnjfogfpmeacaaGreat.Steps.goesV_ (some 16) rfl rfl Tryz.func100 z2_ rfl #[.int .i64 (rd l0 x8_1)] rfl (by first | rfl | go_simp) z0_ ?_)); (with_reducible refine (fT.calls (rd l0 x8_1) false _ A6.out).mono ?_); rintro e w' ⟨rfl, ⟨nd, rfl⟩⟩; refine ⟨_, rfl, ?_⟩))
   go_roundg k1
   case measure => have := HK1.out; omega
   case rel => exact ⟨(wrap64 (x8_1 + 1)), z4_, H', ⟨by have := HK1.out; omega⟩, by repeat (first | exact Drawn0.refl _ | apply Drawn0.step)⟩
def cH.f (k : Nat) (l0 : List Int) (a1 : Unit) : Option (Bool) := (bD.f k l0 a1).bind fun t245 => (some (decide (t245 ≥ 0)))
theorem cH.calls (k : Nat) (A0 : Option Addr) (c0 : Nat) (l0 : List Int) (a1 : Unit) (r : Bool) (w : World) (hr0 : Kd.C (Kd.int .i64) w A0 l0.length l0) (hc0 : l0.length ≤ c0) (h : cH.f k l0 a1 = some r) :
  Calls Tryz.prog 28 #[.slice A0 l0.length c0, .func (.func 100) #[] #[]] w fun e w' => e = .returned (.bool r) ∧ Drawn0 w w' := by
 have HR0 := mk_ hr0
 have HC0 := mk_ hc0
 clear hr0 hc0
 have H : ((bD.f k l0 a1).bind fun t245 => (some (decide (t245 ≥ 0)))) = some r := h
 clear h
 obtain ⟨t245, A3, H⟩ := Option.bind_eq_some_iff.mp H
 replace A3 := mk_ A3
 obtain rfl := Option.some.inj H
 go_enter Tryz.func28, Tryz.ntmps28
 go_wp2_with (first | ((first | ((with_reducible refine aE (f := 58) rfl ?_); refine Short.gL (some 7) Tryz.func58 #[.slice A0 l0.length c0, .func (.func 100) #[] #[]] (h := ?_)) | ((with_reducible refine Go.Proofs.YtjnjfogfpmeacaaGreat.Steps.gate_any rfl ?_); refine Go.Proofs.YtjnjfogfpmeacaaGreat.Steps.goesV_ (some 7) rfl rfl Tryz.func58 z2_ rfl #[.slice A0 l0.length c0, .func (.func 100) #[] #[]] rfl (by first | rfl | go_simp) z0_ ?_)); (with_reducible refine (bD.calls k _ _ l0 a1 t245 _ ?side1 ?side2 A3.out).mono ?_); (case side1 => repeat (first | exact HR0.out | (with_reducible refine C_alloc ?_ _) | (with_reducible refine C_drewN ?_ _) | (with_reducible refine C_drew ?_))); (case side2 => exact HC0.out); rintro e w' ⟨rfl, ⟨nd, rfl⟩⟩; refine ⟨_, rfl, ?_⟩))
 go_ret
 exact ⟨z4_, by repeat (first | exact Drawn0.refl _ | apply Drawn0.step)⟩
def eZ.j0 : Nat → List Int → Bool → Option (Int)
 | 0, _, _ => none
 | k + 1, x0, x3 => if x3 = true then (some 2) else ((cH.f k x0 ()).bind fun t246 => (if t246 = true then (some 1) else (some 0)))
def eZ.f (k : Nat) (l0 : List Int) : Option (Int) := if (l0.length : Int) < 1 then (eZ.j0 k l0 true) else (eZ.j0 k l0 (decide ((l0.length : Int) > 5)))
theorem eZ.calls (k : Nat) (A0 : Option Addr) (c0 : Nat) (l0 : List Int) (r : Int) (w : World) (hr0 : Kd.C (Kd.int .i64) w A0 l0.length l0) (hc0 : l0.length ≤ c0) (h : eZ.f k l0 = some r) :
  Calls Tryz.prog 83 #[.slice A0 l0.length c0] w fun e w' => e = .returned (.int .i64 r) ∧ Drawn0 w w' := by
 have HR0 := mk_ hr0
 have HC0 := mk_ hc0
 clear hr0 hc0
 have H : (if (l0.length : Int) < 1 then (eZ.j0 k l0 true) else (eZ.j0 k l0 (decide ((l0.length : Int) > 5)))) = some r := h
 clear h
 have HC2 := mk_ H
 clear H
 go_enter Tryz.func83, Tryz.ntmps83
 go_upto_region 1 with (fail)
 go_cut [3] (fun v3 wc => ∃ (kq : Nat) (x3_1 : Bool), v3 = .bool x3_1 ∧ Aside0 (eZ.j0 kq l0 x3_1 = some r) ∧ Aside0 (kq ≤ k) ∧ Drawn0 w wc)
 case first =>
  have H := HC2.out
  clear HC2
  by_cases c3 : (l0.length : Int) < 1
  ·
   rw [if_pos c3] at H
   have c3b0 : decide ((l0.length : Int) < 1) = true := decide_eq_true c3
   have c3b1 : decide (l0.length < 1) = true := decide_eq_true z3_
   clear c3
   (first | rw [c3b0] | (simp only [i64_w, i32_w]; rw [c3b0]) | skip)
   have H' := mk_ H
   clear H
   go_wp2
   go_meet
   case rel => exact ⟨_, (true), z4_, H', ⟨by first | omega | exact Nat.le_refl _⟩, by repeat (first | exact Drawn0.refl _ | apply Drawn0.step)⟩
  rw [if_neg c3] at H
  have c3b0 : decide ((l0.length : Int) < 1) = false := decide_eq_false c3
  have c3b1 : decide (l0.length < 1) = false := decide_eq_false z3_
  clear c3
  (first | rw [c3b0] | (simp only [i64_w, i32_w]; rw [c3b0]) | skip)
  have H' := mk_ H
  clear H
  go_wp2
  go_meet
  case rel => exact ⟨_, (decide ((l0.length : Int) > 5)), z4_, H', ⟨by first | omega | exact Nat.le_refl _⟩, by repeat (first | exact Drawn0.refl _ | apply Drawn0.step)⟩
 case rest => as_aux_lemma =>
  clear HC2
  try clear p2
  try clear c3
  try clear c3b0
  try clear c3b1
  obtain ⟨kq, x3_1, rfl, HA, HJ1, ⟨mc1, rfl⟩⟩ := hcut
  cases kq with
  | zero => exact absurd HA.out (by simp [eZ.j0])
  | succ kj1 =>
   have H := HA.out
   clear HA
   simp only [eZ.j0] at H
   by_cases c4 : x3_1 = true
   ·
    subst c4
    rw [if_pos rfl] at H
    obtain rfl := Option.some.inj H
    go_wp2
    go_ret
    exact ⟨z4_, by repeat (first | exact Drawn0.refl _ | apply Drawn0.step)⟩
   ·
    replace c4 := Bool.eq_false_iff.mpr c4
    subst c4
    rw [if_neg (show ¬ (false = true) by decide)] at H
    obtain ⟨t246, A5, H⟩ := Option.bind_eq_some_iff.mp H
    replace A5 := mk_ A5
    by_cases c6 : t246 = true
    ·
     subst c6
     rw [if_pos rfl] at H
     obtain rfl := Option.some.inj H
     go_wp2_with (first | ((with_reducible refine aE (f := 28) rfl ?_); refine Short.gL (some 14) Tryz.func28 #[.slice A0 l0.length c0, .func (.func 100) #[] #[]] (h := ?_); (with_reducible refine (cH.calls kj1 _ _ l0 () true _ ?side1 ?side2 A5.out).mono ?_); (case side1 => repeat (first | exact HR0.out | (with_reducible refine C_alloc ?_ _) | (with_reducible refine C_drewN ?_ _) | (with_reducible refine C_drew ?_))); (case side2 => exact HC0.out); rintro e w' ⟨rfl, ⟨nd, rfl⟩⟩; refine ⟨_, rfl, ?_⟩))
     go_ret
     exact ⟨z4_, by repeat (first | exact Drawn0.refl _ | apply Drawn0.step)⟩
    ·
     replace c6 := Bool.eq_false_iff.mpr c6
     subst c6
     rw [if_neg (show ¬ (false = true) by decide)] at H
     obtain rfl := Option.some.inj H
     go_wp2_with (first | ((with_reducible refine aE (f := 28) rfl ?_); refine Short.gL (some 14) Tryz.func28 #[.slice A0 l0.length c0, .func (.func 100) #[] #[]] (h := ?_); (with_reducible refine (cH.calls kj1 _ _ l0 () false _ ?side1 ?side2 A5.out).mono ?_); (case side1 => repeat (first | exact HR0.out | (with_reducible refine C_alloc ?_ _) | (with_reducible refine C_drewN ?_ _) | (with_reducible refine C_drew ?_))); (case side2 => exact HC0.out); rintro e w' ⟨rfl, ⟨nd, rfl⟩⟩; refine ⟨_, rfl, ?_⟩))
     go_ret
     exact ⟨z4_, by repeat (first | exact Drawn0.refl _ | apply Drawn0.step)⟩
def fR.f (a0 : Int) (a1 : Int) : Option (Bool) := if a0 ≥ 0 then (some (decide (a0 ≤ a1))) else (some false)
theorem fR.calls (a0 : Int) (a1 : Int) (r : Bool) (w : World) (h : fR.f a0 a1 = some r) :
  Calls Tryz.prog 101 #[.int .i64 a0, .int .i64 a1] w fun e w' => e = .returned (.bool r) ∧ Drawn0 w w' := by
 have H : (if a0 ≥ 0 then (some (decide (a0 ≤ a1))) else (some false)) = some r := h
 clear h
 by_cases c3 : a0 ≥ 0
 rotate_left
 rw [if_neg c3] at H
 have c3b0 : decide (0 ≤ a0) = false := decide_eq_false c3
 clear c3
 obtain rfl := Option.some.inj H
 rotate_right
 rw [if_pos c3] at H
 have c3b0 : decide (0 ≤ a0) = true := decide_eq_true c3
 clear c3
 obtain rfl := Option.some.inj H
 all_goals
  go_enter Tryz.func101, Tryz.ntmps101
  go_wp2
  go_ret
  exact ⟨z4_, by repeat (first | exact Drawn0.refl _ | apply Drawn0.step)⟩
def hZ.f (a0_0 : Int) (a0_1 : Int) (a0_2 : Int) : Option (Int) := (fR.f a0_0 1099511627776).bind fun t248 => (if t248 = true then ((fR.f a0_1 65536).bind fun t249 => (if t249 = true then ((fR.f a0_2 4).bind fun t250 => (if t250 = true then (some 0) else (some 1))) else (some 1))) else (some 1))
theorem hZ.calls (a0_0 : Int) (a0_1 : Int) (a0_2 : Int) (r : Int) (w : World) (h : hZ.f a0_0 a0_1 a0_2 = some r) :
  Calls Tryz.prog 84 #[.agg #[.int .i64 a0_0, .int .i64 a0_1, .int .i64 a0_2]] w fun e w' => e = .returned (.int .i64 r) ∧ Below w.heap.size w w' := by
 have hu27 := Tryz.underlying27
 have HB := mk_ (Below.refl w.heap.size w)
 have H : ((fR.f a0_0 1099511627776).bind fun t248 => (if t248 = true then ((fR.f a0_1 65536).bind fun t249 => (if t249 = true then ((fR.f a0_2 4).bind fun t250 => (if t250 = true then (some 0) else (some 1))) else (some 1))) else (some 1))) = some r := h
 clear h
 obtain ⟨t248, A2, H⟩ := Option.bind_eq_some_iff.mp H
 replace A2 := mk_ A2
 by_cases c3 : t248 = true
 rotate_left
 replace c3 := Bool.eq_false_iff.mpr c3
 subst c3
 rw [if_neg (show ¬ (false = true) by decide)] at H
 obtain rfl := Option.some.inj H
 rotate_right
 subst c3
 rw [if_pos rfl] at H
 obtain ⟨t249, A4, H⟩ := Option.bind_eq_some_iff.mp H
 replace A4 := mk_ A4
 by_cases c5 : t249 = true
 rotate_left
 replace c5 := Bool.eq_false_iff.mpr c5
 subst c5
 rw [if_neg (show ¬ (false = true) by decide)] at H
 obtain rfl := Option.some.inj H
 rotate_right
 subst c5
 rw [if_pos rfl] at H
 obtain ⟨t250, A6, H⟩ := Option.bind_eq_some_iff.mp H
 replace A6 := mk_ A6
 by_cases c7 : t250 = true
 rotate_left
 replace c7 := Bool.eq_false_iff.mpr c7
 subst c7
 rw [if_neg (show ¬ (false = true) by decide)] at H
 obtain rfl := Option.some.inj H
 rotate_right
 subst c7
 rw [if_pos rfl] at H
 obtain rfl := Option.some.inj H
 all_goals
  go_enter Tryz.func84, Tryz.ntmps84
  go_wp2_with (first | ((with_reducible refine aQ (N := 1) rfl ?_); refine aN ?hg (N := 1) ?hd (cs := #[.int .i64 a0_0, .int .i64 a0_1, .int .i64 a0_2]) (t := 27) ?hr ?_; (case hd => rfl); (case hg => rfl); (case hr => first | (go_simp; done) | (go_simp; rfl)); intro gb247 hg w_1 hbox hb; have n0_ := mk_ (aC (Short.hB HB) hb); have n1_ := mk_ (hbox); have n2_ := mk_ ((by rw [hg]; exact (aA (Short.hB HB)) : w.heap.size ≤ gb247)); have n3_ := mk_ ((by rw [hg]; exact (aA (Short.hB HB)) : w.heap.size ≤ gb247)); clear HB; revert n0_ n1_ n2_ n3_; intro HB BK247 GW247 GE247; clear hb hbox hg; obtain ⟨hcz_0, hcz_1, hcz_2, hfz_0, hfz_1, hfz_2⟩ := Short.c3 BK247.out) | ((with_reducible refine aE (f := 101) rfl ?_); refine Short.gL (some 5) Tryz.func101 #[.int .i64 a0_0, .int .i64 1099511627776] (h := ?_); (with_reducible refine (fR.calls a0_0 1099511627776 _ _ A2.out).mono ?_); rintro e w' ⟨rfl, ⟨nd, rfl⟩⟩; refine ⟨_, rfl, ?_⟩) | (go_at_call 101; (with_reducible refine (fR.calls a0_1 65536 _ _ A4.out).mono ?_); rintro e w' ⟨rfl, ⟨nd, rfl⟩⟩) | (go_at_call 101; (with_reducible refine (fR.calls a0_2 4 _ _ A6.out).mono ?_); rintro e w' ⟨rfl, ⟨nd, rfl⟩⟩))
  go_ret
  exact ⟨q0, Short.hB HB⟩
end Go.Proofs.YtjnjfogfpmeacaaGreat.PAll
end
section
namespace Go.Proofs.YtjnjfogfpmeacaaGreat.PAll
open Go.RowKit PrintWords PrintLast PrintMore ZipT PrintWords.Kd PrintMore.Kd
attribute [local go_sem] eP eN fD fA dS dT eO eK   -- for this text's walks alone
set_option linter.unusedVariables false
set_option linter.unusedSimpArgs false
def cI.l0 : Nat → List Int → Int → Option (Int)
 | 0, _, _ => none
 | k + 1, x0, x3 => if x3 < (x0.length : Int) then (if 0 ≤ x3 then ((aT.f (rd x0 x3) 0 1073741824).bind fun t302 => (if t302 = true then (cI.l0 k x0 (wrap64 (x3 + 1))) else (some 1))) else (none)) else (some 0)
def cI.f (k : Nat) (l0 : List Int) : Option (Int) := (aT.f (l0.length : Int) 1 5).bind fun t300 => (if t300 = true then (cI.l0 k l0 0) else (some 2))
theorem cI.calls (k : Nat) (A0 : Option Addr) (c0 : Nat) (l0 : List Int) (r : Int) (w : World) (hr0 : Kd.C (Kd.int .i64) w A0 l0.length l0) (hc0 : l0.length ≤ c0) (h : cI.f k l0 = some r) :
  Calls Tryz.prog 62 #[.slice A0 l0.length c0] w fun e w' => e = .returned (.int .i64 r) ∧ Drawn0 w w' := by
 have HR0 := mk_ hr0
 have HC0 := mk_ hc0
 clear hr0 hc0
 have H : ((aT.f (l0.length : Int) 1 5).bind fun t300 => (if t300 = true then (cI.l0 k l0 0) else (some 2))) = some r := h
 clear h
 obtain ⟨t300, A2, H⟩ := Option.bind_eq_some_iff.mp H
 replace A2 := mk_ A2
 by_cases c3 : t300 = true
 rotate_left
 ·
  replace c3 := Bool.eq_false_iff.mpr c3
  subst c3
  rw [if_neg (show ¬ (false = true) by decide)] at H
  obtain rfl := Option.some.inj H
  go_enter Tryz.func62, Tryz.ntmps62
  go_wp2_with (first | ((with_reducible refine aE (f := 30) rfl ?_); refine Short.gL (some 6) Tryz.func30 #[.int .i64 (l0.length : Int), .int .i64 1, .int .i64 5] (h := ?_); (with_reducible refine (aT.calls (l0.length : Int) 1 5 false _ A2.out).mono ?_); rintro e w' ⟨rfl, ⟨nd, rfl⟩⟩; refine ⟨_, rfl, ?_⟩))
  go_ret
  exact ⟨z4_, by repeat (first | exact Drawn0.refl _ | apply Drawn0.step)⟩
 subst c3
 rw [if_pos rfl] at H
 have H' := mk_ H
 clear H
 go_enter Tryz.func62, Tryz.ntmps62
 go_wp2_with (first | ((with_reducible refine aE (f := 30) rfl ?_); refine Short.gL (some 6) Tryz.func30 #[.int .i64 (l0.length : Int), .int .i64 1, .int .i64 5] (h := ?_); (with_reducible refine (aT.calls (l0.length : Int) 1 5 true _ A2.out).mono ?_); rintro e w' ⟨rfl, ⟨nd, rfl⟩⟩; refine ⟨_, rfl, ?_⟩))
 go_loopg [3] k (fun kq v3 w' => ∃ (x3_1 : Int), v3 = .int .i64 x3_1 ∧ Aside0 (cI.l0 kq l0 x3_1 = some r) ∧ Aside0 (kq ≤ k) ∧ Drawn0 w w')
 case atStart => exact ⟨(0), z4_, H', ⟨Nat.le_refl _⟩, by repeat (first | exact Drawn0.refl _ | apply Drawn0.step)⟩
 case round =>
  clear H'
  try clear p2
  try clear c3
  obtain ⟨x3_1, rfl, HA, HK1, ⟨m1, rfl⟩⟩ := hrel
  cases gk with
  | zero => exact absurd HA.out (by simp [cI.l0])
  | succ k1 =>
   have H := HA.out
   clear HA
   simp only [cI.l0] at H
   by_cases c4 : x3_1 < (l0.length : Int)
   rotate_left
   ·
    rw [if_neg c4] at H
    have c4b0 : decide (x3_1 < (l0.length : Int)) = false := decide_eq_false c4
    clear c4
    obtain rfl := Option.some.inj H
    go_wp2
    go_ret
    exact ⟨z4_, by repeat (first | exact Drawn0.refl _ | apply Drawn0.step)⟩
   rw [if_pos c4] at H
   have c4b0 : decide (x3_1 < (l0.length : Int)) = true := decide_eq_true c4
   clear c4
   by_cases c5 : 0 ≤ x3_1
   rotate_left
   ·
    rw [if_neg c5] at H
    exact absurd H z6_
   rw [if_pos c5] at H
   have c5b0 : decide (0 ≤ x3_1) = true := decide_eq_true c5
   clear c5
   obtain ⟨t302, A6, H⟩ := Option.bind_eq_some_iff.mp H
   replace A6 := mk_ A6
   by_cases c7 : t302 = true
   rotate_left
   ·
    replace c7 := Bool.eq_false_iff.mpr c7
    subst c7
    rw [if_neg (show ¬ (false = true) by decide)] at H
    obtain rfl := Option.some.inj H
    have p301 : 0 ≤ (x3_1 : Int) := of_decide_eq_true z1_
    have q301 : x3_1 < (l0.length : Int) := of_decide_eq_true z1_
    obtain ⟨ad301, e301, hx301_0⟩ := Kd.at_int HR0.out x3_1 p301 q301
    cases e301
    replace p301 := eq_true p301
    replace q301 := eq_true q301
    go_wp2_with (first | ((with_reducible refine aE (f := 30) rfl ?_); refine Short.gL (some 18) Tryz.func30 #[.int .i64 (rd l0 x3_1), .int .i64 0, .int .i64 1073741824] (h := ?_); (with_reducible refine (aT.calls (rd l0 x3_1) 0 1073741824 false _ A6.out).mono ?_); rintro e w' ⟨rfl, ⟨nd, rfl⟩⟩; refine ⟨_, rfl, ?_⟩))
    go_ret
    exact ⟨z4_, by repeat (first | exact Drawn0.refl _ | apply Drawn0.step)⟩
   subst c7
   rw [if_pos rfl] at H
   have H' := mk_ H
   clear H
   have p301 : 0 ≤ (x3_1 : Int) := of_decide_eq_true z1_
   have q301 : x3_1 < (l0.length : Int) := of_decide_eq_true z1_
   obtain ⟨ad301, e301, hx301_0⟩ := Kd.at_int HR0.out x3_1 p301 q301
   cases e301
   replace p301 := eq_true p301
   replace q301 := eq_true q301
   go_wp2_with (first | ((with_reducible refine aE (f := 30) rfl ?_); refine Short.gL (some 18) Tryz.func30 #[.int .i64 (rd l0 x3_1), .int .i64 0, .int .i64 1073741824] (h := ?_); (with_reducible refine (aT.calls (rd l0 x3_1) 0 1073741824 true _ A6.out).mono ?_); rintro e w' ⟨rfl, ⟨nd, rfl⟩⟩; refine ⟨_, rfl, ?_⟩))
   go_roundg k1
   case measure => have := HK1.out; omega
   case rel => exact ⟨(wrap64 (x3_1 + 1)), z4_, H', ⟨by have := HK1.out; omega⟩, by repeat (first | exact Drawn0.refl _ | apply Drawn0.step)⟩
def fC.f (a0_0 : Int) (a0_1 : Int) (a0_2 : Int) : Option (Bool) := (aT.f a0_0 0 1099511627776).bind fun t304 => (if t304 = true then ((aT.f a0_1 0 65536).bind fun t305 => (if t305 = true then ((aT.f a0_2 0 4).bind fun t306 => (some t306)) else (some false))) else (some false))
theorem fC.calls (a0_0 : Int) (a0_1 : Int) (a0_2 : Int) (r : Bool) (w : World) (h : fC.f a0_0 a0_1 a0_2 = some r) :
  Calls Tryz.prog 63 #[.agg #[.int .i64 a0_0, .int .i64 a0_1, .int .i64 a0_2]] w fun e w' => e = .returned (.bool r) ∧ Below w.heap.size w w' := by
 have hu27 := Tryz.underlying27
 have HB := mk_ (Below.refl w.heap.size w)
 have H : ((aT.f a0_0 0 1099511627776).bind fun t304 => (if t304 = true then ((aT.f a0_1 0 65536).bind fun t305 => (if t305 = true then ((aT.f a0_2 0 4).bind fun t306 => (some t306)) else (some false))) else (some false))) = some r := h
 clear h
 obtain ⟨t304, A2, H⟩ := Option.bind_eq_some_iff.mp H
 replace A2 := mk_ A2
 by_cases c3 : t304 = true
 rotate_left
 replace c3 := Bool.eq_false_iff.mpr c3
 subst c3
 rw [if_neg (show ¬ (false = true) by decide)] at H
 obtain rfl := Option.some.inj H
 rotate_right
 subst c3
 rw [if_pos rfl] at H
 obtain ⟨t305, A4, H⟩ := Option.bind_eq_some_iff.mp H
 replace A4 := mk_ A4
 by_cases c5 : t305 = true
 rotate_left
 replace c5 := Bool.eq_false_iff.mpr c5
 subst c5
 rw [if_neg (show ¬ (false = true) by decide)] at H
 obtain rfl := Option.some.inj H
 rotate_right
 subst c5
 rw [if_pos rfl] at H
 obtain ⟨t306, A6, H⟩ := Option.bind_eq_some_iff.mp H
 replace A6 := mk_ A6
 obtain rfl := Option.some.inj H
 all_goals
  go_enter Tryz.func63, Tryz.ntmps63
  go_wp2_with (first | ((with_reducible refine aQ (N := 1) rfl ?_); refine aN ?hg (N := 1) ?hd (cs := #[.int .i64 a0_0, .int .i64 a0_1, .int .i64 a0_2]) (t := 27) ?hr ?_; (case hd => rfl); (case hg => rfl); (case hr => first | (go_simp; done) | (go_simp; rfl)); intro gb303 hg w_1 hbox hb; have n0_ := mk_ (aC (Short.hB HB) hb); have n1_ := mk_ (hbox); have n2_ := mk_ ((by rw [hg]; exact (aA (Short.hB HB)) : w.heap.size ≤ gb303)); have n3_ := mk_ ((by rw [hg]; exact (aA (Short.hB HB)) : w.heap.size ≤ gb303)); clear HB; revert n0_ n1_ n2_ n3_; intro HB BK303 GW303 GE303; clear hb hbox hg; obtain ⟨hcz_0, hcz_1, hcz_2, hfz_0, hfz_1, hfz_2⟩ := Short.c3 BK303.out) | ((with_reducible refine aE (f := 30) rfl ?_); refine Short.gL (some 5) Tryz.func30 #[.int .i64 a0_0, .int .i64 0, .int .i64 1099511627776] (h := ?_); (with_reducible refine (aT.calls a0_0 0 1099511627776 _ _ A2.out).mono ?_); rintro e w' ⟨rfl, ⟨nd, rfl⟩⟩; refine ⟨_, rfl, ?_⟩) | (go_at_call 30; (with_reducible refine (aT.calls a0_1 0 65536 _ _ A4.out).mono ?_); rintro e w' ⟨rfl, ⟨nd, rfl⟩⟩) | (go_at_call 30; (with_reducible refine (aT.calls a0_2 0 4 t306 _ A6.out).mono ?_); rintro e w' ⟨rfl, ⟨nd, rfl⟩⟩))
  go_ret
  exact ⟨q0, Short.hB HB⟩
def cF.f (a0_0 : Int) (a0_1 : Int) (a0_2 : ByteArray) : Option (Bool) := if a0_0 = 1 then (if a0_1 = 0 then (some (a0_2.toList == ([] : List UInt8))) else (some false)) else (if a0_0 = 2 then ((aT.f a0_1 0 1).bind fun t308 => (if t308 = true then (some (a0_2.toList == ([] : List UInt8))) else (some false))) else (if a0_0 = 3 then ((aT.f a0_1 (-1152921504606846976) 1152921504606846976).bind fun t309 => (if t309 = true then (some (a0_2.toList == ([] : List UInt8))) else (some false))) else (if a0_0 = 4 then (if a0_1 = 0 then (some (decide ((a0_2.size : Int) ≤ 24))) else (some false)) else (some false))))
theorem cF.calls (a0_0 : Int) (a0_1 : Int) (a0_2 : ByteArray) (r : Bool) (w : World) (h : cF.f a0_0 a0_1 a0_2 = some r) :
  Calls Tryz.prog 69 #[.agg #[.int .i64 a0_0, .int .i64 a0_1, .string a0_2]] w fun e w' => e = .returned (.bool r) ∧ Below w.heap.size w w' := by
 have hu102 := Tryz.underlying102
 have HB := mk_ (Below.refl w.heap.size w)
 have H : (if a0_0 = 1 then (if a0_1 = 0 then (some (a0_2.toList == ([] : List UInt8))) else (some false)) else (if a0_0 = 2 then ((aT.f a0_1 0 1).bind fun t308 => (if t308 = true then (some (a0_2.toList == ([] : List UInt8))) else (some false))) else (if a0_0 = 3 then ((aT.f a0_1 (-1152921504606846976) 1152921504606846976).bind fun t309 => (if t309 = true then (some (a0_2.toList == ([] : List UInt8))) else (some false))) else (if a0_0 = 4 then (if a0_1 = 0 then (some (decide ((a0_2.size : Int) ≤ 24))) else (some false)) else (some false))))) = some r := h
 clear h
 by_cases c2 : a0_0 = 1
 rotate_left
 rw [if_neg c2] at H
 have c2b0 : (a0_0 == 1) = false := beq_eq_false_iff_ne.mpr c2
 have c2b1 : (a0_0 != 1) = true := bne_iff_ne.mpr c2
 by_cases c8 : a0_0 = 2
 rotate_left
 rw [if_neg c8] at H
 have c8b0 : (a0_0 == 2) = false := beq_eq_false_iff_ne.mpr c8
 have c8b1 : (a0_0 != 2) = true := bne_iff_ne.mpr c8
 by_cases c15 : a0_0 = 3
 rotate_left
 rw [if_neg c15] at H
 have c15b0 : (a0_0 == 3) = false := beq_eq_false_iff_ne.mpr c15
 have c15b1 : (a0_0 != 3) = true := bne_iff_ne.mpr c15
 by_cases c22 : a0_0 = 4
 rotate_left
 rw [if_neg c22] at H
 have c22b0 : (a0_0 == 4) = false := beq_eq_false_iff_ne.mpr c22
 have c22b1 : (a0_0 != 4) = true := bne_iff_ne.mpr c22
 obtain rfl := Option.some.inj H
 rotate_right
 rw [if_pos c22] at H
 have c22b0 : (a0_0 == 4) = true := beq_iff_eq.mpr c22
 have c22b1 : (a0_0 != 4) = false := bne_eq_false_iff_eq.mpr c22
 clear c22
 by_cases c23 : a0_1 = 0
 rotate_left
 rw [if_neg c23] at H
 have c23b0 : (a0_1 == 0) = false := beq_eq_false_iff_ne.mpr c23
 have c23b1 : (a0_1 != 0) = true := bne_iff_ne.mpr c23
 obtain rfl := Option.some.inj H
 rotate_right
 rw [if_pos c23] at H
 have c23b0 : (a0_1 == 0) = true := beq_iff_eq.mpr c23
 have c23b1 : (a0_1 != 0) = false := bne_eq_false_iff_eq.mpr c23
 clear c23
 obtain rfl := Option.some.inj H
 rotate_right
 rw [if_pos c15] at H
 have c15b0 : (a0_0 == 3) = true := beq_iff_eq.mpr c15
 have c15b1 : (a0_0 != 3) = false := bne_eq_false_iff_eq.mpr c15
 clear c15
 obtain ⟨t309, A16, H⟩ := Option.bind_eq_some_iff.mp H
 replace A16 := mk_ A16
 by_cases c17 : t309 = true
 rotate_left
 replace c17 := Bool.eq_false_iff.mpr c17
 subst c17
 rw [if_neg (show ¬ (false = true) by decide)] at H
 obtain rfl := Option.some.inj H
 rotate_right
 subst c17
 rw [if_pos rfl] at H
 obtain rfl := Option.some.inj H
 rotate_right
 rw [if_pos c8] at H
 have c8b0 : (a0_0 == 2) = true := beq_iff_eq.mpr c8
 have c8b1 : (a0_0 != 2) = false := bne_eq_false_iff_eq.mpr c8
 clear c8
 obtain ⟨t308, A9, H⟩ := Option.bind_eq_some_iff.mp H
 replace A9 := mk_ A9
 by_cases c10 : t308 = true
 rotate_left
 replace c10 := Bool.eq_false_iff.mpr c10
 subst c10
 rw [if_neg (show ¬ (false = true) by decide)] at H
 obtain rfl := Option.some.inj H
 rotate_right
 subst c10
 rw [if_pos rfl] at H
 obtain rfl := Option.some.inj H
 rotate_right
 rw [if_pos c2] at H
 have c2b0 : (a0_0 == 1) = true := beq_iff_eq.mpr c2
 have c2b1 : (a0_0 != 1) = false := bne_eq_false_iff_eq.mpr c2
 clear c2
 by_cases c3 : a0_1 = 0
 rotate_left
 rw [if_neg c3] at H
 have c3b0 : (a0_1 == 0) = false := beq_eq_false_iff_ne.mpr c3
 have c3b1 : (a0_1 != 0) = true := bne_iff_ne.mpr c3
 obtain rfl := Option.some.inj H
 rotate_right
 rw [if_pos c3] at H
 have c3b0 : (a0_1 == 0) = true := beq_iff_eq.mpr c3
 have c3b1 : (a0_1 != 0) = false := bne_eq_false_iff_eq.mpr c3
 clear c3
 obtain rfl := Option.some.inj H
 all_goals
  go_enter Tryz.func69, Tryz.ntmps69
  go_wp2_with (first | ((with_reducible refine aQ (N := 1) rfl ?_); (try (refine dC (by rfl) ?_; dsimp only)); refine aN ?hg (N := 1) ?hd (cs := #[.int .i64 a0_0, .int .i64 a0_1, .string a0_2]) (t := 102) ?hr ?_; (case hd => rfl); (case hg => rfl); (case hr => first | (go_simp; done) | (go_simp; rfl)); intro gb307 hg w_1 hbox hb; have n0_ := mk_ (aC (Short.hB HB) hb); have n1_ := mk_ (hbox); have n2_ := mk_ ((by rw [hg]; exact (aA (Short.hB HB)) : w.heap.size ≤ gb307)); have n3_ := mk_ ((by rw [hg]; exact (aA (Short.hB HB)) : w.heap.size ≤ gb307)); clear HB; revert n0_ n1_ n2_ n3_; intro HB BK307 GW307 GE307; clear hb hbox hg; obtain ⟨hcz_0, hcz_1, hcz_2, hfz_0, hfz_1, hfz_2⟩ := Short.c3 BK307.out) | ((with_reducible refine aE (f := 30) rfl ?_); refine Short.gL (some 29) Tryz.func30 #[.int .i64 a0_1, .int .i64 (-1152921504606846976), .int .i64 1152921504606846976] (h := ?_); (with_reducible refine (aT.calls a0_1 (-1152921504606846976) 1152921504606846976 _ _ A16.out).mono ?_); rintro e w' ⟨rfl, ⟨nd, rfl⟩⟩; refine ⟨_, rfl, ?_⟩) | ((with_reducible refine aE (f := 30) rfl ?_); refine Short.gL (some 19) Tryz.func30 #[.int .i64 a0_1, .int .i64 0, .int .i64 1] (h := ?_); (with_reducible refine (aT.calls a0_1 0 1 _ _ A9.out).mono ?_); rintro e w' ⟨rfl, ⟨nd, rfl⟩⟩; refine ⟨_, rfl, ?_⟩))
  go_ret
  exact ⟨q0, Short.hB HB⟩
def eB.f (a0_0 : Int) (a0_1 : Int) (a0_2 : ByteArray) : Option (Bool) := (cF.f a0_0 a0_1 a0_2).bind fun t311 => (if t311 = true then (if a0_0 = 3 then ((aT.f a0_1 (-2147483648) 2147483648).bind fun t312 => (some t312)) else (some true)) else (some false))
theorem eB.calls (a0_0 : Int) (a0_1 : Int) (a0_2 : ByteArray) (r : Bool) (w : World) (h : eB.f a0_0 a0_1 a0_2 = some r) :
  Calls Tryz.prog 64 #[.agg #[.int .i64 a0_0, .int .i64 a0_1, .string a0_2]] w fun e w' => e = .returned (.bool r) ∧ Below w.heap.size w w' := by
 have hu102 := Tryz.underlying102
 have HB := mk_ (Below.refl w.heap.size w)
 have H : ((cF.f a0_0 a0_1 a0_2).bind fun t311 => (if t311 = true then (if a0_0 = 3 then ((aT.f a0_1 (-2147483648) 2147483648).bind fun t312 => (some t312)) else (some true)) else (some false))) = some r := h
 clear h
 obtain ⟨t311, A2, H⟩ := Option.bind_eq_some_iff.mp H
 replace A2 := mk_ A2
 by_cases c3 : t311 = true
 rotate_left
 replace c3 := Bool.eq_false_iff.mpr c3
 subst c3
 rw [if_neg (show ¬ (false = true) by decide)] at H
 obtain rfl := Option.some.inj H
 rotate_right
 subst c3
 rw [if_pos rfl] at H
 by_cases c4 : a0_0 = 3
 rotate_left
 rw [if_neg c4] at H
 have c4b0 : (a0_0 == 3) = false := beq_eq_false_iff_ne.mpr c4
 have c4b1 : (a0_0 != 3) = true := bne_iff_ne.mpr c4
 obtain rfl := Option.some.inj H
 rotate_right
 rw [if_pos c4] at H
 have c4b0 : (a0_0 == 3) = true := beq_iff_eq.mpr c4
 have c4b1 : (a0_0 != 3) = false := bne_eq_false_iff_eq.mpr c4
 clear c4
 obtain ⟨t312, A5, H⟩ := Option.bind_eq_some_iff.mp H
 replace A5 := mk_ A5
 obtain rfl := Option.some.inj H
 all_goals
  go_enter Tryz.func64, Tryz.ntmps64
  go_wp2_with (first | ((with_reducible refine aQ (N := 1) rfl ?_); refine aN ?hg (N := 1) ?hd (cs := #[.int .i64 a0_0, .int .i64 a0_1, .string a0_2]) (t := 102) ?hr ?_; (case hd => rfl); (case hg => rfl); (case hr => first | (go_simp; done) | (go_simp; rfl)); intro gb310 hg w_1 hbox hb; have n0_ := mk_ (aC (Short.hB HB) hb); have n1_ := mk_ (hbox); have n2_ := mk_ ((by rw [hg]; exact (aA (Short.hB HB)) : w.heap.size ≤ gb310)); have n3_ := mk_ ((by rw [hg]; exact (aA (Short.hB HB)) : w.heap.size ≤ gb310)); clear HB; revert n0_ n1_ n2_ n3_; intro HB BK310 GW310 GE310; clear hb hbox hg; obtain ⟨hcz_0, hcz_1, hcz_2, hfz_0, hfz_1, hfz_2⟩ := Short.c3 BK310.out) | ((with_reducible refine aE (f := 69) rfl ?_); refine Short.gL (some 4) Tryz.func69 #[.agg #[.int .i64 a0_0, .int .i64 a0_1, .string a0_2]] (h := ?_); (with_reducible refine (cF.calls a0_0 a0_1 a0_2 false _ A2.out).mono ?_); rintro e w_4 ⟨rfl, hb⟩; refine ⟨_, rfl, ?_⟩; have n0_ := mk_ (bB_ BK310 hb); have n1_ := mk_ (aC (Short.hB HB) hb); clear BK310 HB; revert n0_ n1_; intro BK310 HB; (try clear hb)) | ((with_reducible refine aE (f := 69) rfl ?_); refine Short.gL (some 4) Tryz.func69 #[.agg #[.int .i64 a0_0, .int .i64 a0_1, .string a0_2]] (h := ?_); (with_reducible refine (cF.calls a0_0 a0_1 a0_2 true _ A2.out).mono ?_); rintro e w_4 ⟨rfl, hb⟩; refine ⟨_, rfl, ?_⟩; have n0_ := mk_ (bB_ BK310 hb); have n1_ := mk_ (aC (Short.hB HB) hb); clear BK310 HB; revert n0_ n1_; intro BK310 HB; (try clear hb); obtain ⟨hcz_0, hcz_1, hcz_2, hfz_0, hfz_1, hfz_2⟩ := Short.c3 BK310.out) | (go_at_call 30; (with_reducible refine (aT.calls a0_1 (-2147483648) 2147483648 t312 _ A5.out).mono ?_); rintro e w' ⟨rfl, ⟨nd, rfl⟩⟩))
  go_ret
  exact ⟨q0, Short.hB HB⟩
def eL.f (a0_0 : Int) (a0_1 : Int) (a0_2 : ByteArray) (a1 : Int) : Option (Bool) := (cW.f a1).bind fun t314 => (if t314 = true then ((cF.f a0_0 a0_1 a0_2).bind fun t315 => (if t315 = true then (if a0_0 = a1 then (some true) else (some (a0_0 == 1))) else (some false))) else (some false))
theorem eL.calls (a0_0 : Int) (a0_1 : Int) (a0_2 : ByteArray) (a1 : Int) (r : Bool) (w : World) (h : eL.f a0_0 a0_1 a0_2 a1 = some r) :
  Calls Tryz.prog 65 #[.agg #[.int .i64 a0_0, .int .i64 a0_1, .string a0_2], .int .i64 a1] w fun e w' => e = .returned (.bool r) ∧ Below w.heap.size w w' := by
 have hu102 := Tryz.underlying102
 have HB := mk_ (Below.refl w.heap.size w)
 have H : ((cW.f a1).bind fun t314 => (if t314 = true then ((cF.f a0_0 a0_1 a0_2).bind fun t315 => (if t315 = true then (if a0_0 = a1 then (some true) else (some (a0_0 == 1))) else (some false))) else (some false))) = some r := h
 clear h
 obtain ⟨t314, A3, H⟩ := Option.bind_eq_some_iff.mp H
 replace A3 := mk_ A3
 by_cases c4 : t314 = true
 rotate_left
 replace c4 := Bool.eq_false_iff.mpr c4
 subst c4
 rw [if_neg (show ¬ (false = true) by decide)] at H
 obtain rfl := Option.some.inj H
 rotate_right
 subst c4
 rw [if_pos rfl] at H
 obtain ⟨t315, A5, H⟩ := Option.bind_eq_some_iff.mp H
 replace A5 := mk_ A5
 by_cases c6 : t315 = true
 rotate_left
 replace c6 := Bool.eq_false_iff.mpr c6
 subst c6
 rw [if_neg (show ¬ (false = true) by decide)] at H
 obtain rfl := Option.some.inj H
 rotate_right
 subst c6
 rw [if_pos rfl] at H
 by_cases c7 : a0_0 = a1
 rotate_left
 rw [if_neg c7] at H
 have c7b0 : (a0_0 == a1) = false := beq_eq_false_iff_ne.mpr c7
 have c7b1 : (a0_0 != a1) = true := bne_iff_ne.mpr c7
 obtain rfl := Option.some.inj H
 rotate_right
 rw [if_pos c7] at H
 have c7b0 : (a0_0 == a1) = true := beq_iff_eq.mpr c7
 have c7b1 : (a0_0 != a1) = false := bne_eq_false_iff_eq.mpr c7
 clear c7
 obtain rfl := Option.some.inj H
 all_goals
  go_enter Tryz.func65, Tryz.ntmps65
  go_wp2_with (first | ((with_reducible refine aQ (N := 2) rfl ?_); refine aN ?hg (N := 2) ?hd (cs := #[.int .i64 a0_0, .int .i64 a0_1, .string a0_2]) (t := 102) ?hr ?_; (case hd => rfl); (case hg => rfl); (case hr => first | (go_simp; done) | (go_simp; rfl)); intro gb313 hg w_2 hbox hb; have n0_ := mk_ (aC (Short.hB HB) hb); have n1_ := mk_ (hbox); have n2_ := mk_ ((by rw [hg]; exact (aA (Short.hB HB)) : w.heap.size ≤ gb313)); have n3_ := mk_ ((by rw [hg]; exact (aA (Short.hB HB)) : w.heap.size ≤ gb313)); clear HB; revert n0_ n1_ n2_ n3_; intro HB BK313 GW313 GE313; clear hb hbox hg) | ((with_reducible refine aE (f := 31) rfl ?_); refine Short.gL (some 6) Tryz.func31 #[.int .i64 a1] (h := ?_); (with_reducible refine (cW.calls a1 false _ A3.out).mono ?_); rintro e w' ⟨rfl, ⟨nd, rfl⟩⟩; refine ⟨_, rfl, ?_⟩) | ((with_reducible refine aE (f := 31) rfl ?_); refine Short.gL (some 6) Tryz.func31 #[.int .i64 a1] (h := ?_); (with_reducible refine (cW.calls a1 true _ A3.out).mono ?_); rintro e w' ⟨rfl, ⟨nd, rfl⟩⟩; refine ⟨_, rfl, ?_⟩; obtain ⟨hcz_0, hcz_1, hcz_2, hfz_0, hfz_1, hfz_2⟩ := Short.c3 BK313.out) | (go_at_call 69; (with_reducible refine (cF.calls a0_0 a0_1 a0_2 false _ A5.out).mono ?_); rintro e w_x2 ⟨rfl, hb⟩; have n0_ := mk_ (bB_ BK313 hb); have n1_ := mk_ (aC (Short.hB HB) hb); clear BK313 HB; revert n0_ n1_; intro BK313 HB; (try clear hb); (try clear hb2); (try clear hk); (try clear hi)) | (go_at_call 69; (with_reducible refine (cF.calls a0_0 a0_1 a0_2 true _ A5.out).mono ?_); rintro e w_x2 ⟨rfl, hb⟩; have n0_ := mk_ (bB_ BK313 hb); have n1_ := mk_ (aC (Short.hB HB) hb); clear BK313 HB; revert n0_ n1_; intro BK313 HB; (try clear hb); (try clear hb2); (try clear hk); (try clear hi); obtain ⟨hcz_0, hcz_1, hcz_2, hfz_0, hfz_1, hfz_2⟩ := Short.c3 BK313.out))
  go_ret
  exact ⟨q0, Short.hB HB⟩
def fG.f (l0 : List Int) (a1_0 : Int) (a1_1 : Int) : Option (Bool) := (aT.f a1_0 0 (wrap64 ((l0.length : Int) - 1))).bind fun t317 => (if t317 = true then (if a1_1 ≥ 1 then (if 0 ≤ a1_0 then (if a1_0 < (l0.length : Int) then (some (decide (a1_1 ≤ (rd l0 a1_0)))) else (none)) else (none)) else (some false)) else (some false))
theorem fG.calls (A0 : Option Addr) (c0 : Nat) (l0 : List Int) (a1_0 : Int) (a1_1 : Int) (r : Bool) (w : World) (hr0 : Kd.C (Kd.int .i64) w A0 l0.length l0) (hc0 : l0.length ≤ c0) (h : fG.f l0 a1_0 a1_1 = some r) :
  Calls Tryz.prog 66 #[.slice A0 l0.length c0, .agg #[.int .i64 a1_0, .int .i64 a1_1]] w fun e w' => e = .returned (.bool r) ∧ Below w.heap.size w w' := by
 have hu24 := Tryz.underlying24
 have HR0 := mk_ hr0
 have HC0 := mk_ hc0
 clear hr0 hc0
 have HB := mk_ (Below.refl w.heap.size w)
 have H : ((aT.f a1_0 0 (wrap64 ((l0.length : Int) - 1))).bind fun t317 => (if t317 = true then (if a1_1 ≥ 1 then (if 0 ≤ a1_0 then (if a1_0 < (l0.length : Int) then (some (decide (a1_1 ≤ (rd l0 a1_0)))) else (none)) else (none)) else (some false)) else (some false))) = some r := h
 clear h
 obtain ⟨t317, A3, H⟩ := Option.bind_eq_some_iff.mp H
 replace A3 := mk_ A3
 by_cases c4 : t317 = true
 rotate_left
 ·
  replace c4 := Bool.eq_false_iff.mpr c4
  subst c4
  rw [if_neg (show ¬ (false = true) by decide)] at H
  obtain rfl := Option.some.inj H
  go_enter Tryz.func66, Tryz.ntmps66
  go_wp2_with (first | ((with_reducible refine aQ (N := 3) rfl ?_); refine aN ?hg (N := 3) ?hd (cs := #[.int .i64 a1_0, .int .i64 a1_1]) (t := 24) ?hr ?_; (case hd => rfl); (case hg => rfl); (case hr => first | (go_simp; done) | (go_simp; rfl)); intro gb316 hg w12 hbox hb; have n0_ := mk_ (aC (Short.hB HB) hb); have n1_ := mk_ (hbox); have n2_ := mk_ ((by rw [hg]; exact (aA (Short.hB HB)) : w.heap.size ≤ gb316)); have n3_ := mk_ ((by rw [hg]; exact (aA (Short.hB HB)) : w.heap.size ≤ gb316)); clear HB; revert n0_ n1_ n2_ n3_; intro HB BK316 GW316 GE316; clear hb hbox hg; obtain ⟨hcz13_0, hcz13_1, hfz13_0, hfz13_1⟩ := Short.c2 BK316.out) | (go_at_call 30; (try rw [Go.IntWalk.i64_left]); (with_reducible refine (aT.calls a1_0 0 (wrap64 ((l0.length : Int) - 1)) false _ A3.out).mono ?_); rintro e w' ⟨rfl, ⟨nd, rfl⟩⟩; (try first | exact ⟨rfl, _, World.drewN_drewN _ _ _⟩ | exact ⟨rfl, _, Eq.trans (World.drewN_drewN _ _ _) (congrArg (World.drewN _) (Nat.add_assoc _ _ _))⟩)))
  repeat (go_quiet (first | ((with_reducible refine aQ (N := 3) rfl ?_); refine aN ?hg (N := 3) ?hd (cs := #[.int .i64 a1_0, .int .i64 a1_1]) (t := 24) ?hr ?_; (case hd => rfl); (case hg => rfl); (case hr => first | (go_simp; done) | (go_simp; rfl)); intro gb316 hg w12 hbox hb; have n0_ := mk_ (aC (Short.hB HB) hb); have n1_ := mk_ (hbox); have n2_ := mk_ ((by rw [hg]; exact (aA (Short.hB HB)) : w.heap.size ≤ gb316)); have n3_ := mk_ ((by rw [hg]; exact (aA (Short.hB HB)) : w.heap.size ≤ gb316)); clear HB; revert n0_ n1_ n2_ n3_; intro HB BK316 GW316 GE316; clear hb hbox hg; obtain ⟨hcz13_0, hcz13_1, hfz13_0, hfz13_1⟩ := Short.c2 BK316.out) | (go_at_call 30; (try rw [Go.IntWalk.i64_left]); (with_reducible refine (aT.calls a1_0 0 (wrap64 ((l0.length : Int) - 1)) false _ A3.out).mono ?_); rintro e w' ⟨rfl, ⟨nd, rfl⟩⟩; (try first | exact ⟨rfl, _, World.drewN_drewN _ _ _⟩ | exact ⟨rfl, _, Eq.trans (World.drewN_drewN _ _ _) (congrArg (World.drewN _) (Nat.add_assoc _ _ _))⟩))); try go_wp2_with (first | ((with_reducible refine aQ (N := 3) rfl ?_); refine aN ?hg (N := 3) ?hd (cs := #[.int .i64 a1_0, .int .i64 a1_1]) (t := 24) ?hr ?_; (case hd => rfl); (case hg => rfl); (case hr => first | (go_simp; done) | (go_simp; rfl)); intro gb316 hg w12 hbox hb; have n0_ := mk_ (aC (Short.hB HB) hb); have n1_ := mk_ (hbox); have n2_ := mk_ ((by rw [hg]; exact (aA (Short.hB HB)) : w.heap.size ≤ gb316)); have n3_ := mk_ ((by rw [hg]; exact (aA (Short.hB HB)) : w.heap.size ≤ gb316)); clear HB; revert n0_ n1_ n2_ n3_; intro HB BK316 GW316 GE316; clear hb hbox hg; obtain ⟨hcz13_0, hcz13_1, hfz13_0, hfz13_1⟩ := Short.c2 BK316.out) | (go_at_call 30; (try rw [Go.IntWalk.i64_left]); (with_reducible refine (aT.calls a1_0 0 (wrap64 ((l0.length : Int) - 1)) false _ A3.out).mono ?_); rintro e w' ⟨rfl, ⟨nd, rfl⟩⟩; (try first | exact ⟨rfl, _, World.drewN_drewN _ _ _⟩ | exact ⟨rfl, _, Eq.trans (World.drewN_drewN _ _ _) (congrArg (World.drewN _) (Nat.add_assoc _ _ _))⟩))))
  go_ret
  exact ⟨q0, Short.hB HB⟩
 subst c4
 rw [if_pos rfl] at H
 by_cases c5 : a1_1 ≥ 1
 rotate_left
 ·
  rw [if_neg c5] at H
  have c5b0 : decide (1 ≤ a1_1) = false := decide_eq_false c5
  clear c5
  obtain rfl := Option.some.inj H
  go_enter Tryz.func66, Tryz.ntmps66
  go_wp2_with (first | ((with_reducible refine aQ (N := 3) rfl ?_); refine aN ?hg (N := 3) ?hd (cs := #[.int .i64 a1_0, .int .i64 a1_1]) (t := 24) ?hr ?_; (case hd => rfl); (case hg => rfl); (case hr => first | (go_simp; done) | (go_simp; rfl)); intro gb316 hg w10 hbox hb; have n0_ := mk_ (aC (Short.hB HB) hb); have n1_ := mk_ (hbox); have n2_ := mk_ ((by rw [hg]; exact (aA (Short.hB HB)) : w.heap.size ≤ gb316)); have n3_ := mk_ ((by rw [hg]; exact (aA (Short.hB HB)) : w.heap.size ≤ gb316)); clear HB; revert n0_ n1_ n2_ n3_; intro HB BK316 GW316 GE316; clear hb hbox hg; obtain ⟨hcz11_0, hcz11_1, hfz11_0, hfz11_1⟩ := Short.c2 BK316.out) | (go_at_call 30; (try rw [Go.IntWalk.i64_left]); (with_reducible refine (aT.calls a1_0 0 (wrap64 ((l0.length : Int) - 1)) true _ A3.out).mono ?_); rintro e w' ⟨rfl, ⟨nd, rfl⟩⟩; (try first | exact ⟨rfl, _, World.drewN_drewN _ _ _⟩ | exact ⟨rfl, _, Eq.trans (World.drewN_drewN _ _ _) (congrArg (World.drewN _) (Nat.add_assoc _ _ _))⟩)))
  repeat (go_quiet (first | ((with_reducible refine aQ (N := 3) rfl ?_); refine aN ?hg (N := 3) ?hd (cs := #[.int .i64 a1_0, .int .i64 a1_1]) (t := 24) ?hr ?_; (case hd => rfl); (case hg => rfl); (case hr => first | (go_simp; done) | (go_simp; rfl)); intro gb316 hg w10 hbox hb; have n0_ := mk_ (aC (Short.hB HB) hb); have n1_ := mk_ (hbox); have n2_ := mk_ ((by rw [hg]; exact (aA (Short.hB HB)) : w.heap.size ≤ gb316)); have n3_ := mk_ ((by rw [hg]; exact (aA (Short.hB HB)) : w.heap.size ≤ gb316)); clear HB; revert n0_ n1_ n2_ n3_; intro HB BK316 GW316 GE316; clear hb hbox hg; obtain ⟨hcz11_0, hcz11_1, hfz11_0, hfz11_1⟩ := Short.c2 BK316.out) | (go_at_call 30; (try rw [Go.IntWalk.i64_left]); (with_reducible refine (aT.calls a1_0 0 (wrap64 ((l0.length : Int) - 1)) true _ A3.out).mono ?_); rintro e w' ⟨rfl, ⟨nd, rfl⟩⟩; (try first | exact ⟨rfl, _, World.drewN_drewN _ _ _⟩ | exact ⟨rfl, _, Eq.trans (World.drewN_drewN _ _ _) (congrArg (World.drewN _) (Nat.add_assoc _ _ _))⟩))); try go_wp2_with (first | ((with_reducible refine aQ (N := 3) rfl ?_); refine aN ?hg (N := 3) ?hd (cs := #[.int .i64 a1_0, .int .i64 a1_1]) (t := 24) ?hr ?_; (case hd => rfl); (case hg => rfl); (case hr => first | (go_simp; done) | (go_simp; rfl)); intro gb316 hg w10 hbox hb; have n0_ := mk_ (aC (Short.hB HB) hb); have n1_ := mk_ (hbox); have n2_ := mk_ ((by rw [hg]; exact (aA (Short.hB HB)) : w.heap.size ≤ gb316)); have n3_ := mk_ ((by rw [hg]; exact (aA (Short.hB HB)) : w.heap.size ≤ gb316)); clear HB; revert n0_ n1_ n2_ n3_; intro HB BK316 GW316 GE316; clear hb hbox hg; obtain ⟨hcz11_0, hcz11_1, hfz11_0, hfz11_1⟩ := Short.c2 BK316.out) | (go_at_call 30; (try rw [Go.IntWalk.i64_left]); (with_reducible refine (aT.calls a1_0 0 (wrap64 ((l0.length : Int) - 1)) true _ A3.out).mono ?_); rintro e w' ⟨rfl, ⟨nd, rfl⟩⟩; (try first | exact ⟨rfl, _, World.drewN_drewN _ _ _⟩ | exact ⟨rfl, _, Eq.trans (World.drewN_drewN _ _ _) (congrArg (World.drewN _) (Nat.add_assoc _ _ _))⟩))))
  go_ret
  exact ⟨q0, Short.hB HB⟩
 rw [if_pos c5] at H
 have c5b0 : decide (1 ≤ a1_1) = true := decide_eq_true c5
 clear c5
 by_cases c6 : 0 ≤ a1_0
 rotate_left
 ·
  rw [if_neg c6] at H
  exact absurd H z6_
 rw [if_pos c6] at H
 have c6b0 : decide (0 ≤ a1_0) = true := decide_eq_true c6
 clear c6
 by_cases c7 : a1_0 < (l0.length : Int)
 rotate_left
 ·
  rw [if_neg c7] at H
  exact absurd H z6_
 rw [if_pos c7] at H
 have c7b0 : decide (a1_0 < (l0.length : Int)) = true := decide_eq_true c7
 clear c7
 obtain rfl := Option.some.inj H
 go_enter Tryz.func66, Tryz.ntmps66
 go_wp2_with (first | ((with_reducible refine aQ (N := 3) rfl ?_); refine aN ?hg (N := 3) ?hd (cs := #[.int .i64 a1_0, .int .i64 a1_1]) (t := 24) ?hr ?_; (case hd => rfl); (case hg => rfl); (case hr => first | (go_simp; done) | (go_simp; rfl)); intro gb316 hg w8 hbox hb; have n0_ := mk_ (aC (Short.hB HB) hb); have n1_ := mk_ (hbox); have n2_ := mk_ ((by rw [hg]; exact (aA (Short.hB HB)) : w.heap.size ≤ gb316)); have n3_ := mk_ ((by rw [hg]; exact (aA (Short.hB HB)) : w.heap.size ≤ gb316)); clear HB; revert n0_ n1_ n2_ n3_; intro HB BK316 GW316 GE316; clear hb hbox hg; obtain ⟨hcz9_0, hcz9_1, hfz9_0, hfz9_1⟩ := Short.c2 BK316.out) | (go_at_call 30; (try rw [Go.IntWalk.i64_left]); (with_reducible refine (aT.calls a1_0 0 (wrap64 ((l0.length : Int) - 1)) true _ A3.out).mono ?_); rintro e w' ⟨rfl, ⟨nd, rfl⟩⟩; (try first | exact ⟨rfl, _, World.drewN_drewN _ _ _⟩ | exact ⟨rfl, _, Eq.trans (World.drewN_drewN _ _ _) (congrArg (World.drewN _) (Nat.add_assoc _ _ _))⟩); have p318 : 0 ≤ (a1_0 : Int) := of_decide_eq_true z1_; have q318 : a1_0 < (l0.length : Int) := of_decide_eq_true z1_; obtain ⟨ad318, e318, hx318_0⟩ := Kd.at_int HR0.out a1_0 p318 q318; cases e318; replace hx318_0 := up_ HB hx318_0; replace p318 := eq_true p318; replace q318 := eq_true q318))
 repeat (go_quiet (first | ((with_reducible refine aQ (N := 3) rfl ?_); refine aN ?hg (N := 3) ?hd (cs := #[.int .i64 a1_0, .int .i64 a1_1]) (t := 24) ?hr ?_; (case hd => rfl); (case hg => rfl); (case hr => first | (go_simp; done) | (go_simp; rfl)); intro gb316 hg w8 hbox hb; have n0_ := mk_ (aC (Short.hB HB) hb); have n1_ := mk_ (hbox); have n2_ := mk_ ((by rw [hg]; exact (aA (Short.hB HB)) : w.heap.size ≤ gb316)); have n3_ := mk_ ((by rw [hg]; exact (aA (Short.hB HB)) : w.heap.size ≤ gb316)); clear HB; revert n0_ n1_ n2_ n3_; intro HB BK316 GW316 GE316; clear hb hbox hg; obtain ⟨hcz9_0, hcz9_1, hfz9_0, hfz9_1⟩ := Short.c2 BK316.out) | (go_at_call 30; (try rw [Go.IntWalk.i64_left]); (with_reducible refine (aT.calls a1_0 0 (wrap64 ((l0.length : Int) - 1)) true _ A3.out).mono ?_); rintro e w' ⟨rfl, ⟨nd, rfl⟩⟩; (try first | exact ⟨rfl, _, World.drewN_drewN _ _ _⟩ | exact ⟨rfl, _, Eq.trans (World.drewN_drewN _ _ _) (congrArg (World.drewN _) (Nat.add_assoc _ _ _))⟩); have p318 : 0 ≤ (a1_0 : Int) := of_decide_eq_true z1_; have q318 : a1_0 < (l0.length : Int) := of_decide_eq_true z1_; obtain ⟨ad318, e318, hx318_0⟩ := Kd.at_int HR0.out a1_0 p318 q318; cases e318; replace hx318_0 := up_ HB hx318_0; replace p318 := eq_true p318; replace q318 := eq_true q318)); try go_wp2_with (first | ((with_reducible refine aQ (N := 3) rfl ?_); refine aN ?hg (N := 3) ?hd (cs := #[.int .i64 a1_0, .int .i64 a1_1]) (t := 24) ?hr ?_; (case hd => rfl); (case hg => rfl); (case hr => first | (go_simp; done) | (go_simp; rfl)); intro gb316 hg w8 hbox hb; have n0_ := mk_ (aC (Short.hB HB) hb); have n1_ := mk_ (hbox); have n2_ := mk_ ((by rw [hg]; exact (aA (Short.hB HB)) : w.heap.size ≤ gb316)); have n3_ := mk_ ((by rw [hg]; exact (aA (Short.hB HB)) : w.heap.size ≤ gb316)); clear HB; revert n0_ n1_ n2_ n3_; intro HB BK316 GW316 GE316; clear hb hbox hg; obtain ⟨hcz9_0, hcz9_1, hfz9_0, hfz9_1⟩ := Short.c2 BK316.out) | (go_at_call 30; (try rw [Go.IntWalk.i64_left]); (with_reducible refine (aT.calls a1_0 0 (wrap64 ((l0.length : Int) - 1)) true _ A3.out).mono ?_); rintro e w' ⟨rfl, ⟨nd, rfl⟩⟩; (try first | exact ⟨rfl, _, World.drewN_drewN _ _ _⟩ | exact ⟨rfl, _, Eq.trans (World.drewN_drewN _ _ _) (congrArg (World.drewN _) (Nat.add_assoc _ _ _))⟩); have p318 : 0 ≤ (a1_0 : Int) := of_decide_eq_true z1_; have q318 : a1_0 < (l0.length : Int) := of_decide_eq_true z1_; obtain ⟨ad318, e318, hx318_0⟩ := Kd.at_int HR0.out a1_0 p318 q318; cases e318; replace hx318_0 := up_ HB hx318_0; replace p318 := eq_true p318; replace q318 := eq_true q318)))
 go_ret
 exact ⟨q0, Short.hB HB⟩
def eV.f (a0_0 : Int) (a0_1 : Int) (a1_0 : Int) (a1_1 : Int) : Option (Bool) := if a0_0 < a1_0 then (some true) else (if a0_0 = a1_0 then (some (decide (a0_1 < a1_1))) else (some false))
theorem eV.calls (a0_0 : Int) (a0_1 : Int) (a1_0 : Int) (a1_1 : Int) (r : Bool) (w : World) (h : eV.f a0_0 a0_1 a1_0 a1_1 = some r) :
  Calls Tryz.prog 67 #[.agg #[.int .i64 a0_0, .int .i64 a0_1], .agg #[.int .i64 a1_0, .int .i64 a1_1]] w fun e w' => e = .returned (.bool r) ∧ Below w.heap.size w w' := by
 have hu24 := Tryz.underlying24
 have HB := mk_ (Below.refl w.heap.size w)
 have H : (if a0_0 < a1_0 then (some true) else (if a0_0 = a1_0 then (some (decide (a0_1 < a1_1))) else (some false))) = some r := h
 clear h
 by_cases c3 : a0_0 < a1_0
 rotate_left
 rw [if_neg c3] at H
 have c3b0 : decide (a0_0 < a1_0) = false := decide_eq_false c3
 clear c3
 by_cases c9 : a0_0 = a1_0
 rotate_left
 rw [if_neg c9] at H
 have c9b0 : (a0_0 == a1_0) = false := beq_eq_false_iff_ne.mpr c9
 have c9b1 : (a0_0 != a1_0) = true := bne_iff_ne.mpr c9
 obtain rfl := Option.some.inj H
 rotate_right
 rw [if_pos c9] at H
 have c9b0 : (a0_0 == a1_0) = true := beq_iff_eq.mpr c9
 have c9b1 : (a0_0 != a1_0) = false := bne_eq_false_iff_eq.mpr c9
 clear c9
 obtain rfl := Option.some.inj H
 rotate_right
 rw [if_pos c3] at H
 have c3b0 : decide (a0_0 < a1_0) = true := decide_eq_true c3
 clear c3
 obtain rfl := Option.some.inj H
 all_goals
  go_enter Tryz.func67, Tryz.ntmps67
  go_wp2_with (first | ((with_reducible refine aQ (N := 2) rfl ?_); refine aN ?hg (N := 2) ?hd (cs := #[.int .i64 a0_0, .int .i64 a0_1]) (t := 24) ?hr ?_; (case hd => rfl); (case hg => rfl); (case hr => first | (go_simp; done) | (go_simp; rfl)); intro gb319 hg w_2 hbox hb; have n0_ := mk_ (aC (Short.hB HB) hb); have n1_ := mk_ (hbox); have n2_ := mk_ ((by rw [hg]; exact (aA (Short.hB HB)) : w.heap.size ≤ gb319)); have n3_ := mk_ ((by rw [hg]; exact (aA (Short.hB HB)) : w.heap.size ≤ gb319)); clear HB; revert n0_ n1_ n2_ n3_; intro HB BK319 GW319 GE319; clear hb hbox hg) | ((with_reducible refine aQ (N := 3) rfl ?_); refine aN ?hg (N := 3) ?hd (cs := #[.int .i64 a1_0, .int .i64 a1_1]) (t := 24) ?hr ?_; (case hd => rfl); (case hg => rfl); (case hr => first | (go_simp; done) | (go_simp; rfl)); intro gb320 hg w_3 hbox hb; have n0_ := mk_ (bB_ BK319 hb); have n1_ := mk_ (aC (Short.hB HB) hb); have n2_ := mk_ (hbox); have n3_ := mk_ ((by rw [hg]; exact (aA (Short.hB HB)) : w.heap.size ≤ gb320)); have n4_ := mk_ ((by rw [hg]; exact (aA (Short.hB HB)) : w.heap.size ≤ gb320)); have n5_ := mk_ ((by rw [hg]; exact Nat.ne_of_lt (eA (Short.bK BK319)) : gb319 ≠ gb320)); have n6_ := mk_ ((by rw [hg]; exact Nat.ne_of_gt (eA (Short.bK BK319)) : gb320 ≠ gb319)); clear BK319 HB; revert n0_ n1_ n2_ n3_ n4_ n5_ n6_; intro BK319 HB BK320 GW320 GE320 NB319_320 NB320_319; clear hb hbox hg; have hnb_3 := NB319_320.out; have hnc_3 := NB320_319.out; obtain ⟨hcz_0, hcz_1, hfz_0, hfz_1⟩ := Short.c2 BK319.out; obtain ⟨hcz_0, hcz_1, hfz_0, hfz_1⟩ := Short.c2 BK320.out))
  go_ret
  exact ⟨q0, Short.hB HB⟩
def dX.f (a0_0 : Int) (a0_1 : Int) (a1_0 : Int) (a1_1 : Int) : Option (Bool) := if a0_0 = a1_0 then (some (a0_1 == a1_1)) else (some false)
theorem dX.calls (a0_0 : Int) (a0_1 : Int) (a1_0 : Int) (a1_1 : Int) (r : Bool) (w : World) (h : dX.f a0_0 a0_1 a1_0 a1_1 = some r) :
  Calls Tryz.prog 34 #[.agg #[.int .i64 a0_0, .int .i64 a0_1], .agg #[.int .i64 a1_0, .int .i64 a1_1]] w fun e w' => e = .returned (.bool r) ∧ Below w.heap.size w w' := by
 have hu24 := Tryz.underlying24
 have HB := mk_ (Below.refl w.heap.size w)
 have H : (if a0_0 = a1_0 then (some (a0_1 == a1_1)) else (some false)) = some r := h
 clear h
 by_cases c3 : a0_0 = a1_0
 rotate_left
 rw [if_neg c3] at H
 have c3b0 : (a0_0 == a1_0) = false := beq_eq_false_iff_ne.mpr c3
 have c3b1 : (a0_0 != a1_0) = true := bne_iff_ne.mpr c3
 obtain rfl := Option.some.inj H
 rotate_right
 rw [if_pos c3] at H
 have c3b0 : (a0_0 == a1_0) = true := beq_iff_eq.mpr c3
 have c3b1 : (a0_0 != a1_0) = false := bne_eq_false_iff_eq.mpr c3
 clear c3
 obtain rfl := Option.some.inj H
 all_goals
  go_enter Tryz.func34, Tryz.ntmps34
  go_wp2_with (first | ((with_reducible refine aQ (N := 2) rfl ?_); refine aN ?hg (N := 2) ?hd (cs := #[.int .i64 a0_0, .int .i64 a0_1]) (t := 24) ?hr ?_; (case hd => rfl); (case hg => rfl); (case hr => first | (go_simp; done) | (go_simp; rfl)); intro gb324 hg w_2 hbox hb; have n0_ := mk_ (aC (Short.hB HB) hb); have n1_ := mk_ (hbox); have n2_ := mk_ ((by rw [hg]; exact (aA (Short.hB HB)) : w.heap.size ≤ gb324)); have n3_ := mk_ ((by rw [hg]; exact (aA (Short.hB HB)) : w.heap.size ≤ gb324)); clear HB; revert n0_ n1_ n2_ n3_; intro HB BK324 GW324 GE324; clear hb hbox hg) | ((with_reducible refine aQ (N := 3) rfl ?_); refine aN ?hg (N := 3) ?hd (cs := #[.int .i64 a1_0, .int .i64 a1_1]) (t := 24) ?hr ?_; (case hd => rfl); (case hg => rfl); (case hr => first | (go_simp; done) | (go_simp; rfl)); intro gb325 hg w_3 hbox hb; have n0_ := mk_ (bB_ BK324 hb); have n1_ := mk_ (aC (Short.hB HB) hb); have n2_ := mk_ (hbox); have n3_ := mk_ ((by rw [hg]; exact (aA (Short.hB HB)) : w.heap.size ≤ gb325)); have n4_ := mk_ ((by rw [hg]; exact (aA (Short.hB HB)) : w.heap.size ≤ gb325)); have n5_ := mk_ ((by rw [hg]; exact Nat.ne_of_lt (eA (Short.bK BK324)) : gb324 ≠ gb325)); have n6_ := mk_ ((by rw [hg]; exact Nat.ne_of_gt (eA (Short.bK BK324)) : gb325 ≠ gb324)); clear BK324 HB; revert n0_ n1_ n2_ n3_ n4_ n5_ n6_; intro BK324 HB BK325 GW325 GE325 NB324_325 NB325_324; clear hb hbox hg; have hnb_3 := NB324_325.out; have hnc_3 := NB325_324.out; obtain ⟨hcz_0, hcz_1, hfz_0, hfz_1⟩ := Short.c2 BK324.out; obtain ⟨hcz_0, hcz_1, hfz_0, hfz_1⟩ := Short.c2 BK325.out))
  go_ret
  exact ⟨q0, Short.hB HB⟩
def bR.l0 : Nat → List Int → List Int → Int → Option (Bool)
 | 0, _, _, _ => none
 | k + 1, x0, x1, x5 => if x5 < (x0.length : Int) then (if 0 ≤ x5 then (if x5 < (x1.length : Int) then (if (rd x0 x5) = (rd x1 x5) then (bR.l0 k x0 x1 (wrap64 (x5 + 1))) else (some false)) else (none)) else (none)) else (some true)
def bR.f (k : Nat) (l0 : List Int) (l1 : List Int) : Option (Bool) := if (l0.length : Int) = (l1.length : Int) then (bR.l0 k l0 l1 0) else (some false)
theorem bR.calls (k : Nat) (A0 : Option Addr) (c0 : Nat) (l0 : List Int) (A1 : Option Addr) (c1 : Nat) (l1 : List Int) (r : Bool) (w : World) (hr0 : Kd.C (Kd.int .i64) w A0 l0.length l0) (hc0 : l0.length ≤ c0) (hr1 : Kd.C (Kd.int .i64) w A1 l1.length l1) (hc1 : l1.length ≤ c1) (h : bR.f k l0 l1 = some r) :
  Calls Tryz.prog 35 #[.slice A0 l0.length c0, .slice A1 l1.length c1] w fun e w' => e = .returned (.bool r) ∧ Drawn0 w w' := by
 have HR0 := mk_ hr0
 have HC0 := mk_ hc0
 clear hr0 hc0
 have HR1 := mk_ hr1
 have HC1 := mk_ hc1
 clear hr1 hc1
 have H : (if (l0.length : Int) = (l1.length : Int) then (bR.l0 k l0 l1 0) else (some false)) = some r := h
 clear h
 by_cases c3 : (l0.length : Int) = (l1.length : Int)
 rotate_left
 ·
  rw [if_neg c3] at H
  have c3b0 : ((l0.length : Int) == (l1.length : Int)) = false := beq_eq_false_iff_ne.mpr c3
  have c3b1 : ((l0.length : Int) != (l1.length : Int)) = true := bne_iff_ne.mpr c3
  have c3b2 : (l0.length == l1.length) = false := by first | simpa using c3 | (simp at c3 ⊢; omega)
  obtain rfl := Option.some.inj H
  go_enter Tryz.func35, Tryz.ntmps35
  go_wp2
  repeat (go_quiet (fail); try go_wp2)
  go_ret
  exact ⟨z4_, by repeat (first | exact Drawn0.refl _ | apply Drawn0.step)⟩
 rw [if_pos c3] at H
 have c3b0 : ((l0.length : Int) == (l1.length : Int)) = true := beq_iff_eq.mpr c3
 have c3b1 : ((l0.length : Int) != (l1.length : Int)) = false := bne_eq_false_iff_eq.mpr c3
 have c3b2 : (l0.length == l1.length) = true := by first | simpa using c3 | (simp at c3 ⊢; omega)
 clear c3
 have H' := mk_ H
 clear H
 go_enter Tryz.func35, Tryz.ntmps35
 go_wp2
 repeat (go_quiet (fail); try go_wp2)
 go_loopg [5] k (fun kq v5 w' => ∃ (x5_1 : Int), v5 = .int .i64 x5_1 ∧ Aside0 (bR.l0 kq l0 l1 x5_1 = some r) ∧ Aside0 (kq ≤ k) ∧ Drawn0 w w')
 case atStart => exact ⟨(0), z4_, H', ⟨Nat.le_refl _⟩, by repeat (first | exact Drawn0.refl _ | apply Drawn0.step)⟩
 case round =>
  clear H'
  try clear c1
  try clear p2
  try clear c3
  try clear c3b0
  try clear c3b1
  try clear c3b2
  obtain ⟨x5_1, rfl, HA, HK1, ⟨m1, rfl⟩⟩ := hrel
  cases gk with
  | zero => exact absurd HA.out (by simp [bR.l0])
  | succ k1 =>
   have H := HA.out
   clear HA
   simp only [bR.l0] at H
   by_cases c4 : x5_1 < (l0.length : Int)
   rotate_left
   ·
    rw [if_neg c4] at H
    have c4b0 : decide (x5_1 < (l0.length : Int)) = false := decide_eq_false c4
    clear c4
    obtain rfl := Option.some.inj H
    go_wp2
    repeat (go_quiet (fail); try go_wp2)
    go_ret
    exact ⟨z4_, by repeat (first | exact Drawn0.refl _ | apply Drawn0.step)⟩
   rw [if_pos c4] at H
   have c4b0 : decide (x5_1 < (l0.length : Int)) = true := decide_eq_true c4
   clear c4
   by_cases c5 : 0 ≤ x5_1
   rotate_left
   ·
    rw [if_neg c5] at H
    exact absurd H z6_
   rw [if_pos c5] at H
   have c5b0 : decide (0 ≤ x5_1) = true := decide_eq_true c5
   clear c5
   by_cases c6 : x5_1 < (l1.length : Int)
   rotate_left
   ·
    rw [if_neg c6] at H
    exact absurd H z6_
   rw [if_pos c6] at H
   have c6b0 : decide (x5_1 < (l1.length : Int)) = true := decide_eq_true c6
   clear c6
   by_cases c7 : (rd l0 x5_1) = (rd l1 x5_1)
   rotate_left
   ·
    rw [if_neg c7] at H
    have c7b0 : ((rd l0 x5_1) == (rd l1 x5_1)) = false := beq_eq_false_iff_ne.mpr c7
    have c7b1 : ((rd l0 x5_1) != (rd l1 x5_1)) = true := bne_iff_ne.mpr c7
    obtain rfl := Option.some.inj H
    have p326 : 0 ≤ (x5_1 : Int) := of_decide_eq_true z1_
    have q326 : x5_1 < (l0.length : Int) := of_decide_eq_true z1_
    obtain ⟨ad326, e326, hx326_0⟩ := Kd.at_int HR0.out x5_1 p326 q326
    cases e326
    replace p326 := eq_true p326
    replace q326 := eq_true q326
    have p327 : 0 ≤ (x5_1 : Int) := of_decide_eq_true z1_
    have q327 : x5_1 < (l1.length : Int) := of_decide_eq_true z1_
    obtain ⟨ad327, e327, hx327_0⟩ := Kd.at_int HR1.out x5_1 p327 q327
    cases e327
    replace p327 := eq_true p327
    replace q327 := eq_true q327
    go_wp2
    repeat (go_quiet (fail); try go_wp2)
    go_ret
    exact ⟨z4_, by repeat (first | exact Drawn0.refl _ | apply Drawn0.step)⟩
   rw [if_pos c7] at H
   have c7b0 : ((rd l0 x5_1) == (rd l1 x5_1)) = true := beq_iff_eq.mpr c7
   have c7b1 : ((rd l0 x5_1) != (rd l1 x5_1)) = false := bne_eq_false_iff_eq.mpr c7
   clear c7
   have H' := mk_ H
   clear H
   have p326 : 0 ≤ (x5_1 : Int) := of_decide_eq_true z1_
   have q326 : x5_1 < (l0.length : Int) := of_decide_eq_true z1_
   obtain ⟨ad326, e326, hx326_0⟩ := Kd.at_int HR0.out x5_1 p326 q326
   cases e326
   replace p326 := eq_true p326
   replace q326 := eq_true q326
   have p327 : 0 ≤ (x5_1 : Int) := of_decide_eq_true z1_
   have q327 : x5_1 < (l1.length : Int) := of_decide_eq_true z1_
   obtain ⟨ad327, e327, hx327_0⟩ := Kd.at_int HR1.out x5_1 p327 q327
   cases e327
   replace p327 := eq_true p327
   replace q327 := eq_true q327
   go_wp2
   repeat (go_quiet (fail); try go_wp2)
   go_roundg k1
   case measure => have := HK1.out; omega
   case rel => exact ⟨(wrap64 (x5_1 + 1)), z4_, H', ⟨by have := HK1.out; omega⟩, by repeat (first | exact Drawn0.refl _ | apply Drawn0.step)⟩
def eM.f (a0_0 : Int) (a0_1 : Int) (a0_2 : Int) (a1_0 : Int) (a1_1 : Int) (a1_2 : Int) : Option (Bool) := if a0_0 = a1_0 then (if a0_1 = a1_1 then (some (a0_2 == a1_2)) else (some false)) else (some false)
theorem eM.calls (a0_0 : Int) (a0_1 : Int) (a0_2 : Int) (a1_0 : Int) (a1_1 : Int) (a1_2 : Int) (r : Bool) (w : World) (h : eM.f a0_0 a0_1 a0_2 a1_0 a1_1 a1_2 = some r) :
  Calls Tryz.prog 36 #[.agg #[.int .i64 a0_0, .int .i64 a0_1, .int .i64 a0_2], .agg #[.int .i64 a1_0, .int .i64 a1_1, .int .i64 a1_2]] w fun e w' => e = .returned (.bool r) ∧ Below w.heap.size w w' := by
 have hu27 := Tryz.underlying27
 have HB := mk_ (Below.refl w.heap.size w)
 have H : (if a0_0 = a1_0 then (if a0_1 = a1_1 then (some (a0_2 == a1_2)) else (some false)) else (some false)) = some r := h
 clear h
 by_cases c3 : a0_0 = a1_0
 rotate_left
 rw [if_neg c3] at H
 have c3b0 : (a0_0 == a1_0) = false := beq_eq_false_iff_ne.mpr c3
 have c3b1 : (a0_0 != a1_0) = true := bne_iff_ne.mpr c3
 obtain rfl := Option.some.inj H
 rotate_right
 rw [if_pos c3] at H
 have c3b0 : (a0_0 == a1_0) = true := beq_iff_eq.mpr c3
 have c3b1 : (a0_0 != a1_0) = false := bne_eq_false_iff_eq.mpr c3
 clear c3
 by_cases c4 : a0_1 = a1_1
 rotate_left
 rw [if_neg c4] at H
 have c4b0 : (a0_1 == a1_1) = false := beq_eq_false_iff_ne.mpr c4
 have c4b1 : (a0_1 != a1_1) = true := bne_iff_ne.mpr c4
 obtain rfl := Option.some.inj H
 rotate_right
 rw [if_pos c4] at H
 have c4b0 : (a0_1 == a1_1) = true := beq_iff_eq.mpr c4
 have c4b1 : (a0_1 != a1_1) = false := bne_eq_false_iff_eq.mpr c4
 clear c4
 obtain rfl := Option.some.inj H
 all_goals
  go_enter Tryz.func36, Tryz.ntmps36
  go_wp2_with (first | ((with_reducible refine aQ (N := 2) rfl ?_); refine aN ?hg (N := 2) ?hd (cs := #[.int .i64 a0_0, .int .i64 a0_1, .int .i64 a0_2]) (t := 27) ?hr ?_; (case hd => rfl); (case hg => rfl); (case hr => first | (go_simp; done) | (go_simp; rfl)); intro gb328 hg w_2 hbox hb; have n0_ := mk_ (aC (Short.hB HB) hb); have n1_ := mk_ (hbox); have n2_ := mk_ ((by rw [hg]; exact (aA (Short.hB HB)) : w.heap.size ≤ gb328)); have n3_ := mk_ ((by rw [hg]; exact (aA (Short.hB HB)) : w.heap.size ≤ gb328)); clear HB; revert n0_ n1_ n2_ n3_; intro HB BK328 GW328 GE328; clear hb hbox hg) | ((with_reducible refine aQ (N := 3) rfl ?_); refine aN ?hg (N := 3) ?hd (cs := #[.int .i64 a1_0, .int .i64 a1_1, .int .i64 a1_2]) (t := 27) ?hr ?_; (case hd => rfl); (case hg => rfl); (case hr => first | (go_simp; done) | (go_simp; rfl)); intro gb329 hg w_3 hbox hb; have n0_ := mk_ (bB_ BK328 hb); have n1_ := mk_ (aC (Short.hB HB) hb); have n2_ := mk_ (hbox); have n3_ := mk_ ((by rw [hg]; exact (aA (Short.hB HB)) : w.heap.size ≤ gb329)); have n4_ := mk_ ((by rw [hg]; exact (aA (Short.hB HB)) : w.heap.size ≤ gb329)); have n5_ := mk_ ((by rw [hg]; exact Nat.ne_of_lt (eA (Short.bK BK328)) : gb328 ≠ gb329)); have n6_ := mk_ ((by rw [hg]; exact Nat.ne_of_gt (eA (Short.bK BK328)) : gb329 ≠ gb328)); clear BK328 HB; revert n0_ n1_ n2_ n3_ n4_ n5_ n6_; intro BK328 HB BK329 GW329 GE329 NB328_329 NB329_328; clear hb hbox hg; have hnb_3 := NB328_329.out; have hnc_3 := NB329_328.out; obtain ⟨hcz_0, hcz_1, hcz_2, hfz_0, hfz_1, hfz_2⟩ := Short.c3 BK328.out; obtain ⟨hcz_0, hcz_1, hcz_2, hfz_0, hfz_1, hfz_2⟩ := Short.c3 BK329.out))
  go_ret
  exact ⟨q0, Short.hB HB⟩
def eX.f (a0_0 : Int) (a0_1 : Int) (a0_2 : ByteArray) (a1_0 : Int) (a1_1 : Int) (a1_2 : ByteArray) : Option (Bool) := if a0_0 = a1_0 then (if a0_1 = a1_1 then (some (a0_2.toList == a1_2.toList)) else (some false)) else (some false)
theorem eX.calls (a0_0 : Int) (a0_1 : Int) (a0_2 : ByteArray) (a1_0 : Int) (a1_1 : Int) (a1_2 : ByteArray) (r : Bool) (w : World) (h : eX.f a0_0 a0_1 a0_2 a1_0 a1_1 a1_2 = some r) :
  Calls Tryz.prog 68 #[.agg #[.int .i64 a0_0, .int .i64 a0_1, .string a0_2], .agg #[.int .i64 a1_0, .int .i64 a1_1, .string a1_2]] w fun e w' => e = .returned (.bool r) ∧ Below w.heap.size w w' := by
 have hu102 := Tryz.underlying102
 have HB := mk_ (Below.refl w.heap.size w)
 have H : (if a0_0 = a1_0 then (if a0_1 = a1_1 then (some (a0_2.toList == a1_2.toList)) else (some false)) else (some false)) = some r := h
 clear h
 by_cases c3 : a0_0 = a1_0
 rotate_left
 rw [if_neg c3] at H
 have c3b0 : (a0_0 == a1_0) = false := beq_eq_false_iff_ne.mpr c3
 have c3b1 : (a0_0 != a1_0) = true := bne_iff_ne.mpr c3
 obtain rfl := Option.some.inj H
 rotate_right
 rw [if_pos c3] at H
 have c3b0 : (a0_0 == a1_0) = true := beq_iff_eq.mpr c3
 have c3b1 : (a0_0 != a1_0) = false := bne_eq_false_iff_eq.mpr c3
 clear c3
 by_cases c4 : a0_1 = a1_1
 rotate_left
 rw [if_neg c4] at H
 have c4b0 : (a0_1 == a1_1) = false := beq_eq_false_iff_ne.mpr c4
 have c4b1 : (a0_1 != a1_1) = true := bne_iff_ne.mpr c4
 obtain rfl := Option.some.inj H
 rotate_right
 rw [if_pos c4] at H
 have c4b0 : (a0_1 == a1_1) = true := beq_iff_eq.mpr c4
 have c4b1 : (a0_1 != a1_1) = false := bne_eq_false_iff_eq.mpr c4
 clear c4
 obtain rfl := Option.some.inj H
 all_goals
  go_enter Tryz.func68, Tryz.ntmps68
  go_wp2_with (first | ((with_reducible refine aQ (N := 2) rfl ?_); refine aN ?hg (N := 2) ?hd (cs := #[.int .i64 a0_0, .int .i64 a0_1, .string a0_2]) (t := 102) ?hr ?_; (case hd => rfl); (case hg => rfl); (case hr => first | (go_simp; done) | (go_simp; rfl)); intro gb330 hg w_2 hbox hb; have n0_ := mk_ (aC (Short.hB HB) hb); have n1_ := mk_ (hbox); have n2_ := mk_ ((by rw [hg]; exact (aA (Short.hB HB)) : w.heap.size ≤ gb330)); have n3_ := mk_ ((by rw [hg]; exact (aA (Short.hB HB)) : w.heap.size ≤ gb330)); clear HB; revert n0_ n1_ n2_ n3_; intro HB BK330 GW330 GE330; clear hb hbox hg) | ((with_reducible refine aQ (N := 3) rfl ?_); refine aN ?hg (N := 3) ?hd (cs := #[.int .i64 a1_0, .int .i64 a1_1, .string a1_2]) (t := 102) ?hr ?_; (case hd => rfl); (case hg => rfl); (case hr => first | (go_simp; done) | (go_simp; rfl)); intro gb331 hg w_3 hbox hb; have n0_ := mk_ (bB_ BK330 hb); have n1_ := mk_ (aC (Short.hB HB) hb); have n2_ := mk_ (hbox); have n3_ := mk_ ((by rw [hg]; exact (aA (Short.hB HB)) : w.heap.size ≤ gb331)); have n4_ := mk_ ((by rw [hg]; exact (aA (Short.hB HB)) : w.heap.size ≤ gb331)); have n5_ := mk_ ((by rw [hg]; exact Nat.ne_of_lt (eA (Short.bK BK330)) : gb330 ≠ gb331)); have n6_ := mk_ ((by rw [hg]; exact Nat.ne_of_gt (eA (Short.bK BK330)) : gb331 ≠ gb330)); clear BK330 HB; revert n0_ n1_ n2_ n3_ n4_ n5_ n6_; intro BK330 HB BK331 GW331 GE331 NB330_331 NB331_330; clear hb hbox hg; have hnb_3 := NB330_331.out; have hnc_3 := NB331_330.out; obtain ⟨hcz_0, hcz_1, hcz_2, hfz_0, hfz_1, hfz_2⟩ := Short.c3 BK330.out; obtain ⟨hcz_0, hcz_1, hcz_2, hfz_0, hfz_1, hfz_2⟩ := Short.c3 BK331.out))
  go_ret
  exact ⟨q0, Short.hB HB⟩
end Go.Proofs.YtjnjfogfpmeacaaGreat.PAll
end
