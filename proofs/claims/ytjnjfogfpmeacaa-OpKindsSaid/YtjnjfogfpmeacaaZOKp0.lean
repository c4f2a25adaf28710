-- Put together by a program of this session (wip/slice2.py) out of the seat's texts.
import Derived.Test.YtjnjfogfpmeacaaZOKT
import Derived.Laws.StructEq
import Derived.Test.YtjnjfogfpmeacaaProg
import Derived.WalkSpells
import Derived.Lib.SliceRun
import Derived.Laws.Cover1
set_option maxHeartbeats 8000000
set_option maxRecDepth 100000
open Go.Proofs.YtjnjfogfpmeacaaW Go.Proofs.Ytjnjfogfpmeacaa
section
namespace Go.Proofs.Ytjnjfogfpmeacaa.PAll
open Go.RowKit PrintWords PrintLast PrintMore ZipT PrintWords.Kd PrintMore.Kd
attribute [local go_sem] max2_int min2_int max_two min_two max_three min_three max_four min_four   -- for this text's walks alone
set_option linter.unusedVariables false
set_option linter.unusedSimpArgs false
def errW : Option Int → Value
 | none => .nilIface
 | some c => .iface 0 (.int .i64 c)
theorem errW_none : errW none = .nilIface := rfl
theorem errW_some (c : Int) : errW (some c) = .iface 0 (.int .i64 c) := rfl
theorem info3 : (Try.prog.info? 3).map (fun i => (i.zero, i.size, i.bytes)) = some (some (.int .i64 0), 1, 8) := by kernel_rfl
theorem info5 : (Try.prog.info? 5).map (fun i => (i.zero, i.size, i.bytes)) = some (some (.int .u8 0), 1, 1) := by kernel_rfl
theorem info25 : (Try.prog.info? 25).map (fun i => (i.zero, i.size, i.bytes)) = some (some (.agg #[(.int .i64 0), (.int .i64 0)]), 2, 16) := by kernel_rfl
theorem info84 : (Try.prog.info? 84).map (fun i => (i.zero, i.size, i.bytes)) = some (some (.agg #[(.int .i64 0), (.int .i64 0), (.string ⟨#[]⟩)]), 3, 32) := by kernel_rfl
structure S84 where
 f0 : Int
 f1 : Int
 f2 : ByteArray
def z84 : S84 := ⟨(0 : Int), (0 : Int), (⟨#[]⟩ : ByteArray)⟩
def k84 : Kd S84 := Kd.iso (Kd.pair (Kd.int .i64) (Kd.pair (Kd.int .i64) Kd.string)) (fun x : S84 => (x.f0, x.f1, x.f2))
theorem k84_open {w : World} {x : S84} {cs : List Value} (h : k84.K w x cs) : cs = [.int .i64 x.f0, .int .i64 x.f1, .string x.f2] := by
 obtain ⟨_, _, rfl, rfl, ⟨_, _, rfl, rfl, rfl⟩⟩ := h
 exact rfl
theorem k84_mkM (w : World) (base : Nat) (ok : Nat → Prop) (x : S84)  : k84.M w base ok x [.int .i64 x.f0, .int .i64 x.f1, .string x.f2] := ⟨[.int .i64 x.f0], [.int .i64 x.f1, .string x.f2], rfl, rfl, ⟨[.int .i64 x.f1], [.string x.f2], rfl, rfl, rfl⟩⟩
def rd_T84 (xs : List S84) (i : Int) : S84 := xs.getD i.toNat z84
theorem at_T84 {w : World} {A : Option Addr} {n : Nat} {xs : List S84} (h : Kd.C k84 w A n xs) (i : Int) (h0 : 0 ≤ i) (h1 : i < n) : ∃ ad , A = some ad ∧ w.cell? (ad.add (i.toNat * 3)) = some (.int .i64 (rd_T84 xs i).f0) ∧ w.cell? ⟨(ad.add (i.toNat * 3)).block, (ad.add (i.toNat * 3)).off + 1, none⟩ = some (.int .i64 (rd_T84 xs i).f1) ∧ w.cell? ⟨(ad.add (i.toNat * 3)).block, (ad.add (i.toNat * 3)).off + 2, none⟩ = some (.string (rd_T84 xs i).f2) := by
 obtain ⟨ad, c, e, _, hK, hc0⟩ := C_get h z84 i h0 h1
 have hc : ∀ j u, c[j]? = some u → w.cell? (ad.add (i.toNat * 3 + j)) = some u := hc0
 obtain rfl := k84_open hK
 exact ⟨ad, e, hc 0 _ rfl, by rw [← add_field _ _ 1 z3_]; exact hc 1 _ rfl, by rw [← add_field _ _ 2 z3_]; exact hc 2 _ rfl⟩
structure S25 where
 f0 : Int
 f1 : Int
def z25 : S25 := ⟨(0 : Int), (0 : Int)⟩
def k25 : Kd S25 := Kd.iso (Kd.pair (Kd.int .i64) (Kd.int .i64)) (fun x : S25 => (x.f0, x.f1))
theorem k25_open {w : World} {x : S25} {cs : List Value} (h : k25.K w x cs) : cs = [.int .i64 x.f0, .int .i64 x.f1] := by
 obtain ⟨_, _, rfl, rfl, rfl⟩ := h
 exact rfl
theorem k25_mk (w : World) (x : S25)  : k25.K w x [.int .i64 x.f0, .int .i64 x.f1] := ⟨[.int .i64 x.f0], [.int .i64 x.f1], rfl, rfl, rfl⟩
theorem k25_mkM (w : World) (base : Nat) (ok : Nat → Prop) (x : S25)  : k25.M w base ok x [.int .i64 x.f0, .int .i64 x.f1] := ⟨[.int .i64 x.f0], [.int .i64 x.f1], rfl, rfl, rfl⟩
def rd_T25 (xs : List S25) (i : Int) : S25 := xs.getD i.toNat z25
theorem at_T25 {w : World} {A : Option Addr} {n : Nat} {xs : List S25} (h : Kd.C k25 w A n xs) (i : Int) (h0 : 0 ≤ i) (h1 : i < n) : ∃ ad , A = some ad ∧ w.cell? (ad.add (i.toNat * 2)) = some (.int .i64 (rd_T25 xs i).f0) ∧ w.cell? ⟨(ad.add (i.toNat * 2)).block, (ad.add (i.toNat * 2)).off + 1, none⟩ = some (.int .i64 (rd_T25 xs i).f1) := by
 obtain ⟨ad, c, e, _, hK, hc0⟩ := C_get h z25 i h0 h1
 have hc : ∀ j u, c[j]? = some u → w.cell? (ad.add (i.toNat * 2 + j)) = some u := hc0
 obtain rfl := k25_open hK
 exact ⟨ad, e, hc 0 _ rfl, by rw [← add_field _ _ 1 z3_]; exact hc 1 _ rfl⟩
structure S28 where
 f0 : Int
 f1 : Int
 f2 : Int
def z28 : S28 := ⟨(0 : Int), (0 : Int), (0 : Int)⟩
def k28 : Kd S28 := Kd.iso (Kd.pair (Kd.int .i64) (Kd.pair (Kd.int .i64) (Kd.int .i64))) (fun x : S28 => (x.f0, x.f1, x.f2))
theorem k28_open {w : World} {x : S28} {cs : List Value} (h : k28.K w x cs) : cs = [.int .i64 x.f0, .int .i64 x.f1, .int .i64 x.f2] := by
 obtain ⟨_, _, rfl, rfl, ⟨_, _, rfl, rfl, rfl⟩⟩ := h
 exact rfl
theorem k28_mk (w : World) (x : S28)  : k28.K w x [.int .i64 x.f0, .int .i64 x.f1, .int .i64 x.f2] := ⟨[.int .i64 x.f0], [.int .i64 x.f1, .int .i64 x.f2], rfl, rfl, ⟨[.int .i64 x.f1], [.int .i64 x.f2], rfl, rfl, rfl⟩⟩
structure S32 where
 f0 : S25
 f1 : (List Int)
 f2 : S28
 f3 : Int
 f4 : Int
 f5 : ByteArray
 f6 : Int
 f7 : (List S84)
 f8 : (List S25)
def z32 : S32 := ⟨z25, ([] : List Int), z28, (0 : Int), (0 : Int), (⟨#[]⟩ : ByteArray), (0 : Int), ([] : List S84), ([] : List S25)⟩
def k32 : Kd S32 := Kd.iso (Kd.pair k25 (Kd.pair (Kd.slice 3 (Kd.int .i64)) (Kd.pair k28 (Kd.pair (Kd.int .i64) (Kd.pair (Kd.int .i64) (Kd.pair Kd.string (Kd.pair (Kd.int .i64) (Kd.pair (Kd.slice 84 k84) (Kd.slice 25 k25))))))))) (fun x : S32 => (x.f0, x.f1, x.f2, x.f3, x.f4, x.f5, x.f6, x.f7, x.f8))
theorem k32_open {w : World} {x : S32} {cs : List Value} (h : k32.K w x cs) : ∃ A2 c2 A10 c10 A11 c11, cs = [.int .i64 x.f0.f0, .int .i64 x.f0.f1, .slice A2 x.f1.length c2, .int .i64 x.f2.f0, .int .i64 x.f2.f1, .int .i64 x.f2.f2, .int .i64 x.f3, .int .i64 x.f4, .string x.f5, .int .i64 x.f6, .slice A10 x.f7.length c10, .slice A11 x.f8.length c11] ∧ x.f1.length ≤ c2 ∧ (Kd.int .i64).C w A2 x.f1.length x.f1 ∧ x.f7.length ≤ c10 ∧ k84.C w A10 x.f7.length x.f7 ∧ x.f8.length ≤ c11 ∧ k25.C w A11 x.f8.length x.f8 := by
 obtain ⟨_, _, rfl, s0, ⟨_, _, rfl, ⟨A2, c2, rfl, l2, g2⟩, ⟨_, _, rfl, s3, ⟨_, _, rfl, rfl, ⟨_, _, rfl, rfl, ⟨_, _, rfl, rfl, ⟨_, _, rfl, rfl, ⟨_, _, rfl, ⟨A10, c10, rfl, l10, g10⟩, ⟨A11, c11, rfl, l11, g11⟩⟩⟩⟩⟩⟩⟩⟩⟩ := h
 obtain rfl := k25_open s0
 obtain rfl := k28_open s3
 exact ⟨A2, c2, A10, c10, A11, c11, rfl, l2, g2, l10, g10, l11, g11⟩
theorem k32_mk (w : World) (x : S32) {A2 : Option Addr} {c2 : Nat} (l2 : x.f1.length ≤ c2) (g2 : (Kd.int .i64).C w A2 x.f1.length x.f1) {A10 : Option Addr} {c10 : Nat} (l10 : x.f7.length ≤ c10) (g10 : k84.C w A10 x.f7.length x.f7) {A11 : Option Addr} {c11 : Nat} (l11 : x.f8.length ≤ c11) (g11 : k25.C w A11 x.f8.length x.f8) : k32.K w x [.int .i64 x.f0.f0, .int .i64 x.f0.f1, .slice A2 x.f1.length c2, .int .i64 x.f2.f0, .int .i64 x.f2.f1, .int .i64 x.f2.f2, .int .i64 x.f3, .int .i64 x.f4, .string x.f5, .int .i64 x.f6, .slice A10 x.f7.length c10, .slice A11 x.f8.length c11] := ⟨[.int .i64 x.f0.f0, .int .i64 x.f0.f1], [.slice A2 x.f1.length c2, .int .i64 x.f2.f0, .int .i64 x.f2.f1, .int .i64 x.f2.f2, .int .i64 x.f3, .int .i64 x.f4, .string x.f5, .int .i64 x.f6, .slice A10 x.f7.length c10, .slice A11 x.f8.length c11], rfl, (k25_mk w x.f0 ), ⟨[.slice A2 x.f1.length c2], [.int .i64 x.f2.f0, .int .i64 x.f2.f1, .int .i64 x.f2.f2, .int .i64 x.f3, .int .i64 x.f4, .string x.f5, .int .i64 x.f6, .slice A10 x.f7.length c10, .slice A11 x.f8.length c11], rfl, ⟨A2, c2, rfl, l2, g2⟩, ⟨[.int .i64 x.f2.f0, .int .i64 x.f2.f1, .int .i64 x.f2.f2], [.int .i64 x.f3, .int .i64 x.f4, .string x.f5, .int .i64 x.f6, .slice A10 x.f7.length c10, .slice A11 x.f8.length c11], rfl, (k28_mk w x.f2 ), ⟨[.int .i64 x.f3], [.int .i64 x.f4, .string x.f5, .int .i64 x.f6, .slice A10 x.f7.length c10, .slice A11 x.f8.length c11], rfl, rfl, ⟨[.int .i64 x.f4], [.string x.f5, .int .i64 x.f6, .slice A10 x.f7.length c10, .slice A11 x.f8.length c11], rfl, rfl, ⟨[.string x.f5], [.int .i64 x.f6, .slice A10 x.f7.length c10, .slice A11 x.f8.length c11], rfl, rfl, ⟨[.int .i64 x.f6], [.slice A10 x.f7.length c10, .slice A11 x.f8.length c11], rfl, rfl, ⟨[.slice A10 x.f7.length c10], [.slice A11 x.f8.length c11], rfl, ⟨A10, c10, rfl, l10, g10⟩, ⟨A11, c11, rfl, l11, g11⟩⟩⟩⟩⟩⟩⟩⟩⟩
def rd_T32 (xs : List S32) (i : Int) : S32 := xs.getD i.toNat z32
theorem at_T32 {w : World} {A : Option Addr} {n : Nat} {xs : List S32} (h : Kd.C k32 w A n xs) (i : Int) (h0 : 0 ≤ i) (h1 : i < n) : ∃ ad A2 c2 A10 c10 A11 c11, A = some ad ∧ w.cell? (ad.add (i.toNat * 12)) = some (.int .i64 (rd_T32 xs i).f0.f0) ∧ w.cell? ⟨(ad.add (i.toNat * 12)).block, (ad.add (i.toNat * 12)).off + 1, none⟩ = some (.int .i64 (rd_T32 xs i).f0.f1) ∧ w.cell? ⟨(ad.add (i.toNat * 12)).block, (ad.add (i.toNat * 12)).off + 2, none⟩ = some (.slice A2 (rd_T32 xs i).f1.length c2) ∧ w.cell? ⟨(ad.add (i.toNat * 12)).block, (ad.add (i.toNat * 12)).off + 3, none⟩ = some (.int .i64 (rd_T32 xs i).f2.f0) ∧ w.cell? ⟨(ad.add (i.toNat * 12)).block, (ad.add (i.toNat * 12)).off + 4, none⟩ = some (.int .i64 (rd_T32 xs i).f2.f1) ∧ w.cell? ⟨(ad.add (i.toNat * 12)).block, (ad.add (i.toNat * 12)).off + 5, none⟩ = some (.int .i64 (rd_T32 xs i).f2.f2) ∧ w.cell? ⟨(ad.add (i.toNat * 12)).block, (ad.add (i.toNat * 12)).off + 6, none⟩ = some (.int .i64 (rd_T32 xs i).f3) ∧ w.cell? ⟨(ad.add (i.toNat * 12)).block, (ad.add (i.toNat * 12)).off + 7, none⟩ = some (.int .i64 (rd_T32 xs i).f4) ∧ w.cell? ⟨(ad.add (i.toNat * 12)).block, (ad.add (i.toNat * 12)).off + 8, none⟩ = some (.string (rd_T32 xs i).f5) ∧ w.cell? ⟨(ad.add (i.toNat * 12)).block, (ad.add (i.toNat * 12)).off + 9, none⟩ = some (.int .i64 (rd_T32 xs i).f6) ∧ w.cell? ⟨(ad.add (i.toNat * 12)).block, (ad.add (i.toNat * 12)).off + 10, none⟩ = some (.slice A10 (rd_T32 xs i).f7.length c10) ∧ w.cell? ⟨(ad.add (i.toNat * 12)).block, (ad.add (i.toNat * 12)).off + 11, none⟩ = some (.slice A11 (rd_T32 xs i).f8.length c11) ∧ (rd_T32 xs i).f1.length ≤ c2 ∧ (Kd.int .i64).C w A2 (rd_T32 xs i).f1.length (rd_T32 xs i).f1 ∧ (rd_T32 xs i).f7.length ≤ c10 ∧ k84.C w A10 (rd_T32 xs i).f7.length (rd_T32 xs i).f7 ∧ (rd_T32 xs i).f8.length ≤ c11 ∧ k25.C w A11 (rd_T32 xs i).f8.length (rd_T32 xs i).f8 := by
 obtain ⟨ad, c, e, _, hK, hc0⟩ := C_get h z32 i h0 h1
 have hc : ∀ j u, c[j]? = some u → w.cell? (ad.add (i.toNat * 12 + j)) = some u := hc0
 obtain ⟨A2, c2, A10, c10, A11, c11, rfl, l2, g2, l10, g10, l11, g11⟩ := k32_open hK
 exact ⟨ad, A2, c2, A10, c10, A11, c11, e, hc 0 _ rfl, by rw [← add_field _ _ 1 z3_]; exact hc 1 _ rfl, by rw [← add_field _ _ 2 z3_]; exact hc 2 _ rfl, by rw [← add_field _ _ 3 z3_]; exact hc 3 _ rfl, by rw [← add_field _ _ 4 z3_]; exact hc 4 _ rfl, by rw [← add_field _ _ 5 z3_]; exact hc 5 _ rfl, by rw [← add_field _ _ 6 z3_]; exact hc 6 _ rfl, by rw [← add_field _ _ 7 z3_]; exact hc 7 _ rfl, by rw [← add_field _ _ 8 z3_]; exact hc 8 _ rfl, by rw [← add_field _ _ 9 z3_]; exact hc 9 _ rfl, by rw [← add_field _ _ 10 z3_]; exact hc 10 _ rfl, by rw [← add_field _ _ 11 z3_]; exact hc 11 _ rfl, l2, g2, l10, g10, l11, g11⟩
structure S51 where
 f0 : (List Int)
def z51 : S51 := ⟨([] : List Int)⟩
def k51 : Kd S51 := Kd.iso (Kd.slice 3 (Kd.int .i64)) (fun x : S51 => x.f0)
theorem k51_open {w : World} {x : S51} {cs : List Value} (h : k51.K w x cs) : ∃ A0 c0, cs = [.slice A0 x.f0.length c0] ∧ x.f0.length ≤ c0 ∧ (Kd.int .i64).C w A0 x.f0.length x.f0 := by
 obtain ⟨A0, c0, rfl, l0, g0⟩ := h
 exact ⟨A0, c0, rfl, l0, g0⟩
def rd_T51 (xs : List S51) (i : Int) : S51 := xs.getD i.toNat z51
theorem at_T51 {w : World} {A : Option Addr} {n : Nat} {xs : List S51} (h : Kd.C k51 w A n xs) (i : Int) (h0 : 0 ≤ i) (h1 : i < n) : ∃ ad A0 c0, A = some ad ∧ w.cell? (ad.add i.toNat) = some (.slice A0 (rd_T51 xs i).f0.length c0) ∧ (rd_T51 xs i).f0.length ≤ c0 ∧ (Kd.int .i64).C w A0 (rd_T51 xs i).f0.length (rd_T51 xs i).f0 := by
 obtain ⟨ad, c, e, _, hK, hc0⟩ := C_get h z51 i h0 h1
 have hc : ∀ j u, c[j]? = some u → w.cell? (ad.add (i.toNat * 1 + j)) = some u := hc0
 obtain ⟨A0, c0, rfl, l0, g0⟩ := k51_open hK
 exact ⟨ad, A0, c0, e, by have hq := hc 0 _ rfl; rwa [Nat.mul_one, Nat.add_zero] at hq, l0, g0⟩
end Go.Proofs.Ytjnjfogfpmeacaa.PAll
end
section
namespace Go.Proofs.Ytjnjfogfpmeacaa.PAll
open Go.RowKit PrintWords PrintLast PrintMore ZipT PrintWords.Kd PrintMore.Kd
attribute [local go_sem] max2_int min2_int max_two min_two max_three min_three max_four min_four   -- for this text's walks alone
set_option linter.unusedVariables false
set_option linter.unusedSimpArgs false
def wire_num.l0 : Nat → Int → List Int → Int → Int → Option (Int)
 | 0, _, _, _, _ => none
 | k + 1, x3, x6, x7, x8 => if x8 < x7 then (if 0 ≤ x8 then (if x8 < (x6.length : Int) then (wire_num.l0 k (Go.bits .or .u64 (IntKind.u64.wrap (x3 * 256)) (IntKind.u64.wrap (rd x6 x8))) x6 x7 (wrap64 (x8 + 1))) else (none)) else (none)) else (some x3)
def wire_num.f (k : Nat) (l0 : List Int) : Option (Int) := wire_num.l0 k 0 l0 (l0.length : Int) 0
theorem wire_num.calls (k : Nat) (A0 : Option Addr) (c0 : Nat) (l0 : List Int) (r : Int) (w : World) (hr0 : Kd.C (Kd.int .u8) w A0 l0.length l0) (hc0 : l0.length ≤ c0) (h : wire_num.f k l0 = some r) :
  Calls Try.prog 110 #[.slice A0 l0.length c0] w fun e w' => e = .returned (.int .u64 r) ∧ Drawn0 w w' := by
 have HR0 := mk_ hr0
 have HC0 := mk_ hc0
 clear hr0 hc0
 have H : (wire_num.l0 k 0 l0 (l0.length : Int) 0) = some r := h
 clear h
 have H' := mk_ H
 clear H
 go_enter Try.func110, Try.ntmps110
 go_wp2
 go_loopg [3, 8] k (fun kq v3 v8 w' => ∃ (x3_1 : Int) (x8_1 : Int), v3 = .int .u64 x3_1 ∧ v8 = .int .i64 x8_1 ∧ Aside0 (wire_num.l0 kq x3_1 l0 (l0.length : Int) x8_1 = some r) ∧ Aside0 (kq ≤ k) ∧ Drawn0 w w')
 case atStart => exact ⟨(0), (0), z4_, z4_, H', ⟨Nat.le_refl _⟩, by repeat (first | exact Drawn0.refl _ | apply Drawn0.step)⟩
 case round =>
  clear H'
  try clear c1
  obtain ⟨x3_1, x8_1, rfl, rfl, HA, HK1, ⟨m1, rfl⟩⟩ := hrel
  cases gk with
  | zero => exact absurd HA.out (by simp [wire_num.l0])
  | succ k1 =>
   have H := HA.out
   clear HA
   simp only [wire_num.l0] at H
   by_cases c2 : x8_1 < (l0.length : Int)
   rotate_left
   ·
    rw [if_neg c2] at H
    have c2b0 : decide (x8_1 < (l0.length : Int)) = false := decide_eq_false c2
    clear c2
    obtain rfl := Option.some.inj H
    go_wp2
    go_ret
    exact ⟨z4_, by repeat (first | exact Drawn0.refl _ | apply Drawn0.step)⟩
   rw [if_pos c2] at H
   have c2b0 : decide (x8_1 < (l0.length : Int)) = true := decide_eq_true c2
   clear c2
   by_cases c3 : 0 ≤ x8_1
   rotate_left
   ·
    rw [if_neg c3] at H
    exact absurd H (by simp)
   rw [if_pos c3] at H
   have c3b0 : decide (0 ≤ x8_1) = true := decide_eq_true c3
   clear c3
   by_cases c4 : x8_1 < (l0.length : Int)
   rotate_left
   ·
    rw [if_neg c4] at H
    exact absurd H (by simp)
   rw [if_pos c4] at H
   have c4b0 : decide (x8_1 < (l0.length : Int)) = true := decide_eq_true c4
   clear c4
   have H' := mk_ H
   clear H
   have p101 : 0 ≤ (x8_1 : Int) := of_decide_eq_true z1_
   have q101 : x8_1 < (l0.length : Int) := of_decide_eq_true z1_
   obtain ⟨ad101, e101, hx101_0⟩ := Kd.at_int HR0.out x8_1 p101 q101
   cases e101
   replace p101 := eq_true p101
   replace q101 := eq_true q101
   go_wp2
   go_roundg k1
   case measure => have := HK1.out; omega
   case rel => exact ⟨(Go.bits .or .u64 (IntKind.u64.wrap (x3_1 * 256)) (IntKind.u64.wrap (rd l0 x8_1))), (wrap64 (x8_1 + 1)), z4_, z4_, H', ⟨by have := HK1.out; omega⟩, by repeat (first | exact Drawn0.refl _ | apply Drawn0.step)⟩
def wire_Get.j0 : Nat → List Int → Int → Int → Bool → Option (Int × Int × Int)
 | 0, _, _, _, _ => none
 | k + 1, x0, x1, x2, x9 => if x9 = true then (some (0, 0, 1)) else (if (wrap64 ((x0.length : Int) - x1)) < x2 then (some (0, 0, 3)) else (if 0 ≤ x1 then (if x1 ≤ (wrap64 (x1 + x2)) then (if (wrap64 (x1 + x2)) ≤ (x0.length : Int) then ((wire_num.f k ((x0.take ((wrap64 (x1 + x2)) : Int).toNat).drop (x1 : Int).toNat)).bind fun t103 => (some (wrap64 (t103), wrap64 (x1 + x2), 0))) else (none)) else (none)) else (none)))
def wire_Get.f (k : Nat) (l0 : List Int) (a1 : Int) (a2 : Int) : Option (Int × Int × Int) := if a2 < 1 then (wire_Get.j0 k l0 a1 a2 true) else (if a2 > 7 then (wire_Get.j0 k l0 a1 a2 true) else (if a1 < 0 then (wire_Get.j0 k l0 a1 a2 true) else (wire_Get.j0 k l0 a1 a2 (decide (a1 > (l0.length : Int))))))
theorem wire_Get.calls (k : Nat) (A0 : Option Addr) (c0 : Nat) (l0 : List Int) (a1 : Int) (a2 : Int) (r1 : Int) (r2 : Int) (r3 : Int) (w : World) (hr0 : Kd.C (Kd.int .u8) w A0 l0.length l0) (hc0 : l0.length ≤ c0) (h : wire_Get.f k l0 a1 a2 = some (r1, r2, r3)) :
  Calls Try.prog 92 #[.slice A0 l0.length c0, .int .i64 a1, .int .i64 a2] w fun e w' => e = .returned (.tuple #[.int .i64 r1, .int .i64 r2, .int .i64 r3]) ∧ Drawn0 w w' := by
 have HR0 := mk_ hr0
 have HC0 := mk_ hc0
 clear hr0 hc0
 have H : (if a2 < 1 then (wire_Get.j0 k l0 a1 a2 true) else (if a2 > 7 then (wire_Get.j0 k l0 a1 a2 true) else (if a1 < 0 then (wire_Get.j0 k l0 a1 a2 true) else (wire_Get.j0 k l0 a1 a2 (decide (a1 > (l0.length : Int))))))) = some (r1, r2, r3) := h
 clear h
 have HC4 := mk_ H
 clear H
 go_enter Try.func92, Try.ntmps92
 go_upto_region 1 with (fail)
 go_cut [9] (fun v9 wc => ∃ (kq : Nat) (x9_3 : Bool), v9 = .bool x9_3 ∧ Aside0 (wire_Get.j0 kq l0 a1 a2 x9_3 = some (r1, r2, r3)) ∧ Aside0 (kq ≤ k) ∧ Drawn0 w wc)
 case first =>
  have H := HC4.out
  clear HC4
  by_cases c5 : a2 < 1
  ·
   rw [if_pos c5] at H
   have c5b0 : decide (a2 < 1) = true := decide_eq_true c5
   clear c5
   (first | rw [c5b0] | (simp only [i64_w, i32_w]; rw [c5b0]) | skip)
   have H' := mk_ H
   clear H
   go_wp2
   go_meet
   case rel => exact ⟨_, (true), z4_, H', ⟨by first | omega | exact Nat.le_refl _⟩, by repeat (first | exact Drawn0.refl _ | apply Drawn0.step)⟩
  rw [if_neg c5] at H
  have c5b0 : decide (a2 < 1) = false := decide_eq_false c5
  clear c5
  (first | rw [c5b0] | (simp only [i64_w, i32_w]; rw [c5b0]) | skip)
  by_cases c6 : a2 > 7
  ·
   rw [if_pos c6] at H
   have c6b0 : decide (7 < a2) = true := decide_eq_true c6
   clear c6
   have H' := mk_ H
   clear H
   go_wp2
   go_meet
   case rel => exact ⟨_, (true), z4_, H', ⟨by first | omega | exact Nat.le_refl _⟩, by repeat (first | exact Drawn0.refl _ | apply Drawn0.step)⟩
  rw [if_neg c6] at H
  have c6b0 : decide (7 < a2) = false := decide_eq_false c6
  clear c6
  by_cases c7 : a1 < 0
  ·
   rw [if_pos c7] at H
   have c7b0 : decide (a1 < 0) = true := decide_eq_true c7
   clear c7
   have H' := mk_ H
   clear H
   go_wp2
   go_meet
   case rel => exact ⟨_, (true), z4_, H', ⟨by first | omega | exact Nat.le_refl _⟩, by repeat (first | exact Drawn0.refl _ | apply Drawn0.step)⟩
  rw [if_neg c7] at H
  have c7b0 : decide (a1 < 0) = false := decide_eq_false c7
  clear c7
  have H' := mk_ H
  clear H
  go_wp2
  go_meet
  case rel => exact ⟨_, (decide (a1 > (l0.length : Int))), z4_, H', ⟨by first | omega | exact Nat.le_refl _⟩, by repeat (first | exact Drawn0.refl _ | apply Drawn0.step)⟩
 case rest => as_aux_lemma =>
  clear HC4
  try clear p2
  try clear c5
  try clear c5b0
  try clear c6
  try clear c6b0
  try clear c7
  try clear c7b0
  obtain ⟨kq, x9_3, rfl, HA, HJ3, ⟨mc3, rfl⟩⟩ := hcut
  cases kq with
  | zero => exact absurd HA.out (by simp [wire_Get.j0])
  | succ kj3 =>
   have H := HA.out
   clear HA
   simp only [wire_Get.j0] at H
   by_cases c8 : x9_3 = true
   ·
    subst c8
    rw [if_pos rfl] at H
    simp only [Option.some.injEq, Prod.mk.injEq] at H
    obtain ⟨rfl, rfl, rfl⟩ := H
    go_wp2
    go_ret3
    exact ⟨z4_, by repeat (first | exact Drawn0.refl _ | apply Drawn0.step)⟩
   ·
    replace c8 := Bool.eq_false_iff.mpr c8
    subst c8
    rw [if_neg (show ¬ (false = true) by decide)] at H
    by_cases c9 : (wrap64 ((l0.length : Int) - a1)) < a2
    ·
     rw [if_pos c9] at H
     have c9b0 : decide ((wrap64 ((l0.length : Int) - a1)) < a2) = true := decide_eq_true c9
     clear c9
     simp only [Option.some.injEq, Prod.mk.injEq] at H
     obtain ⟨rfl, rfl, rfl⟩ := H
     go_wp2
     go_ret3
     exact ⟨z4_, by repeat (first | exact Drawn0.refl _ | apply Drawn0.step)⟩
    ·
     rw [if_neg c9] at H
     have c9b0 : decide ((wrap64 ((l0.length : Int) - a1)) < a2) = false := decide_eq_false c9
     clear c9
     by_cases c10 : 0 ≤ a1
     ·
      rw [if_pos c10] at H
      have c10b0 := eq_true c10
      have c10b1 : decide (0 ≤ a1) = true := decide_eq_true c10
      clear c10
      by_cases c11 : a1 ≤ (wrap64 (a1 + a2))
      ·
       rw [if_pos c11] at H
       have c11b0 := eq_true c11
       have c11b1 : decide (a1 ≤ (wrap64 (a1 + a2))) = true := decide_eq_true c11
       by_cases c12 : (wrap64 (a1 + a2)) ≤ (l0.length : Int)
       ·
        rw [if_pos c12] at H
        have c12b0 := eq_true c12
        have c12b1 : decide ((wrap64 (a1 + a2)) ≤ (l0.length : Int)) = true := decide_eq_true c12
        obtain ⟨t103, A13, H⟩ := Option.bind_eq_some_iff.mp H
        replace A13 := mk_ A13
        simp only [Option.some.injEq, Prod.mk.injEq] at H
        obtain ⟨rfl, rfl, rfl⟩ := H
        obtain ⟨i014, hi014, _, hsz14, _⟩ := info_parts info5
        obtain ⟨A14, hcut14, hA14, hC14⟩ := print_mid_of (P := Try.prog) (Value.int .u8) 0 22 5 .i64 .i64 Try.underlying22 hi014 hsz14 A0 c0 l0 a1 (wrap64 (a1 + a2)) (of_decide_eq_true z1_) (by first | omega | exact of_decide_eq_true z1_) (of_decide_eq_true z1_) HC0.out
        have HR102 := mk_ (C_of_reads (h1 := fun _ => rfl) (hA14 _ (Kd.reads_of_C HR0.out)))
        have HC102 := mk_ hC14
        clear hA14 hC14 hi014 hsz14
        go_wp2_with (first | ((with_reducible refine gate_callee (f := 110) rfl ?_); refine goesL_ (some 39) rfl rfl Try.func110 z0_ rfl #[.slice A14 ((l0.take ((wrap64 (a1 + a2)) : Int).toNat).drop (a1 : Int).toNat).length (c0 - a1.toNat)] rfl (by (try simp only [List.map_toArray, List.map_cons, List.map_nil]); first | done | (rw [show ((l0.take ((wrap64 (a1 + a2)) : Int).toNat).drop (a1 : Int).toNat).length = ((wrap64 (a1 + a2)).toNat - a1.toNat) from (by rw [List.length_drop, List.length_take]; have h_ : ((wrap64 (a1 + a2)) : Int) ≤ (l0.length : Int) := of_decide_eq_true z1_; omega)] <;> rfl) | rfl | (simp only [List.length_drop, List.length_take]; rfl) | (go_simp; done) | (simp; done)) ?_; (with_reducible refine (wire_num.calls kj3 _ _ ((l0.take ((wrap64 (a1 + a2)) : Int).toNat).drop (a1 : Int).toNat) t103 _ ?side1 ?side2 A13.out).mono ?_); (case side1 => repeat (first | exact HR102.out | (with_reducible refine C_alloc ?_ _) | (with_reducible refine C_drewN ?_ _) | (with_reducible refine C_drew ?_))); (case side2 => exact HC102.out); rintro e w' ⟨rfl, ⟨nd, rfl⟩⟩; refine ⟨_, rfl, ?_⟩))
        go_ret3
        exact ⟨z4_, by repeat (first | exact Drawn0.refl _ | apply Drawn0.step)⟩
       ·
        rw [if_neg c12] at H
        exact absurd H (by simp)
      ·
       rw [if_neg c11] at H
       exact absurd H (by simp)
     ·
      rw [if_neg c10] at H
      exact absurd H (by simp)
def wire_GetText.j0 : Nat → List Int → Int → Bool → Option (ByteArray × Int × Int)
 | 0, _, _, _ => none
 | k + 1, x0, x1, x7 => if x7 = true then (some ((⟨#[]⟩ : ByteArray), 0, 1)) else (if x1 = (x0.length : Int) then (some ((⟨#[]⟩ : ByteArray), 0, 3)) else (if 0 ≤ x1 then (if x1 < (x0.length : Int) then (if (wrap64 (rd x0 x1)) > 24 then (some ((⟨#[]⟩ : ByteArray), 0, 3)) else (if (wrap64 ((wrap64 ((x0.length : Int) - x1)) - 1)) < (wrap64 (rd x0 x1)) then (some ((⟨#[]⟩ : ByteArray), 0, 3)) else (if 0 ≤ (wrap64 (x1 + 1)) then (if (wrap64 (x1 + 1)) ≤ (wrap64 ((wrap64 (x1 + 1)) + (wrap64 (rd x0 x1)))) then (if (wrap64 ((wrap64 (x1 + 1)) + (wrap64 (rd x0 x1)))) ≤ (x0.length : Int) then (some (strOfNums ((x0.take ((wrap64 ((wrap64 (x1 + 1)) + (wrap64 (rd x0 x1)))) : Int).toNat).drop ((wrap64 (x1 + 1)) : Int).toNat), wrap64 ((wrap64 (x1 + 1)) + (wrap64 (rd x0 x1))), 0)) else (none)) else (none)) else (none)))) else (none)) else (none)))
def wire_GetText.f (k : Nat) (l0 : List Int) (a1 : Int) : Option (ByteArray × Int × Int) := if a1 < 0 then (wire_GetText.j0 k l0 a1 true) else (wire_GetText.j0 k l0 a1 (decide (a1 > (l0.length : Int))))
theorem wire_GetText.calls (k : Nat) (A0 : Option Addr) (c0 : Nat) (l0 : List Int) (a1 : Int) (r1 : ByteArray) (r2 : Int) (r3 : Int) (w : World) (hr0 : Kd.C (Kd.int .u8) w A0 l0.length l0) (hc0 : l0.length ≤ c0) (h : wire_GetText.f k l0 a1 = some (r1, r2, r3)) :
  Calls Try.prog 93 #[.slice A0 l0.length c0, .int .i64 a1] w fun e w' => e = .returned (.tuple #[.string r1, .int .i64 r2, .int .i64 r3]) ∧ Drawn0 w w' := by
 have HR0 := mk_ hr0
 have HC0 := mk_ hc0
 clear hr0 hc0
 have H : (if a1 < 0 then (wire_GetText.j0 k l0 a1 true) else (wire_GetText.j0 k l0 a1 (decide (a1 > (l0.length : Int))))) = some (r1, r2, r3) := h
 clear h
 have HC3 := mk_ H
 clear H
 go_enter Try.func93, Try.ntmps93
 go_upto_region 1 with (fail)
 go_cut [7] (fun v7 wc => ∃ (kq : Nat) (x7_2 : Bool), v7 = .bool x7_2 ∧ Aside0 (wire_GetText.j0 kq l0 a1 x7_2 = some (r1, r2, r3)) ∧ Aside0 (kq ≤ k) ∧ Drawn0 w wc)
 case first =>
  have H := HC3.out
  clear HC3
  by_cases c4 : a1 < 0
  ·
   rw [if_pos c4] at H
   have c4b0 : decide (a1 < 0) = true := decide_eq_true c4
   clear c4
   (first | rw [c4b0] | (simp only [i64_w, i32_w]; rw [c4b0]) | skip)
   have H' := mk_ H
   clear H
   go_wp2
   go_meet
   case rel => exact ⟨_, (true), z4_, H', ⟨by first | omega | exact Nat.le_refl _⟩, by repeat (first | exact Drawn0.refl _ | apply Drawn0.step)⟩
  rw [if_neg c4] at H
  have c4b0 : decide (a1 < 0) = false := decide_eq_false c4
  clear c4
  (first | rw [c4b0] | (simp only [i64_w, i32_w]; rw [c4b0]) | skip)
  have H' := mk_ H
  clear H
  go_wp2
  go_meet
  case rel => exact ⟨_, (decide (a1 > (l0.length : Int))), z4_, H', ⟨by first | omega | exact Nat.le_refl _⟩, by repeat (first | exact Drawn0.refl _ | apply Drawn0.step)⟩
 case rest => as_aux_lemma =>
  clear HC3
  try clear p2
  try clear c4
  try clear c4b0
  obtain ⟨kq, x7_2, rfl, HA, HJ2, ⟨mc2, rfl⟩⟩ := hcut
  cases kq with
  | zero => exact absurd HA.out (by simp [wire_GetText.j0])
  | succ kj2 =>
   have H := HA.out
   clear HA
   simp only [wire_GetText.j0] at H
   by_cases c5 : x7_2 = true
   ·
    subst c5
    rw [if_pos rfl] at H
    simp only [Option.some.injEq, Prod.mk.injEq] at H
    obtain ⟨rfl, rfl, rfl⟩ := H
    go_wp2
    go_ret3
    exact ⟨z4_, by repeat (first | exact Drawn0.refl _ | apply Drawn0.step)⟩
   ·
    replace c5 := Bool.eq_false_iff.mpr c5
    subst c5
    rw [if_neg (show ¬ (false = true) by decide)] at H
    by_cases c6 : a1 = (l0.length : Int)
    ·
     rw [if_pos c6] at H
     have c6b0 : (a1 == (l0.length : Int)) = true := beq_iff_eq.mpr c6
     have c6b1 : (a1 != (l0.length : Int)) = false := bne_eq_false_iff_eq.mpr c6
     clear c6
     simp only [Option.some.injEq, Prod.mk.injEq] at H
     obtain ⟨rfl, rfl, rfl⟩ := H
     go_wp2
     go_ret3
     exact ⟨z4_, by repeat (first | exact Drawn0.refl _ | apply Drawn0.step)⟩
    ·
     rw [if_neg c6] at H
     have c6b0 : (a1 == (l0.length : Int)) = false := beq_eq_false_iff_ne.mpr c6
     have c6b1 : (a1 != (l0.length : Int)) = true := bne_iff_ne.mpr c6
     by_cases c7 : 0 ≤ a1
     ·
      rw [if_pos c7] at H
      have c7b0 : decide (0 ≤ a1) = true := decide_eq_true c7
      clear c7
      by_cases c8 : a1 < (l0.length : Int)
      ·
       rw [if_pos c8] at H
       have c8b0 : decide (a1 < (l0.length : Int)) = true := decide_eq_true c8
       clear c8
       by_cases c9 : (wrap64 (rd l0 a1)) > 24
       ·
        rw [if_pos c9] at H
        have c9b0 : decide (24 < (wrap64 (rd l0 a1))) = true := decide_eq_true c9
        clear c9
        simp only [Option.some.injEq, Prod.mk.injEq] at H
        obtain ⟨rfl, rfl, rfl⟩ := H
        have p109 : 0 ≤ (a1 : Int) := of_decide_eq_true z1_
        have q109 : a1 < (l0.length : Int) := of_decide_eq_true z1_
        obtain ⟨ad109, e109, hx109_0⟩ := Kd.at_int HR0.out a1 p109 q109
        cases e109
        replace p109 := eq_true p109
        replace q109 := eq_true q109
        go_wp2
        go_ret3
        exact ⟨z4_, by repeat (first | exact Drawn0.refl _ | apply Drawn0.step)⟩
       ·
        rw [if_neg c9] at H
        have c9b0 : decide (24 < (wrap64 (rd l0 a1))) = false := decide_eq_false c9
        clear c9
        by_cases c10 : (wrap64 ((wrap64 ((l0.length : Int) - a1)) - 1)) < (wrap64 (rd l0 a1))
        ·
         rw [if_pos c10] at H
         have c10b0 : decide ((wrap64 ((wrap64 ((l0.length : Int) - a1)) - 1)) < (wrap64 (rd l0 a1))) = true := decide_eq_true c10
         clear c10
         simp only [Option.some.injEq, Prod.mk.injEq] at H
         obtain ⟨rfl, rfl, rfl⟩ := H
         have p109 : 0 ≤ (a1 : Int) := of_decide_eq_true z1_
         have q109 : a1 < (l0.length : Int) := of_decide_eq_true z1_
         obtain ⟨ad109, e109, hx109_0⟩ := Kd.at_int HR0.out a1 p109 q109
         cases e109
         replace p109 := eq_true p109
         replace q109 := eq_true q109
         have p110 : 0 ≤ (a1 : Int) := of_decide_eq_true z1_
         have q110 : a1 < (l0.length : Int) := of_decide_eq_true z1_
         obtain ⟨ad110, e110, hx110_0⟩ := Kd.at_int HR0.out a1 p110 q110
         obtain rfl : ad109 = ad110 := (by injection e110)
         replace p110 := eq_true p110
         replace q110 := eq_true q110
         go_wp2
         go_ret3
         exact ⟨z4_, by repeat (first | exact Drawn0.refl _ | apply Drawn0.step)⟩
        ·
         rw [if_neg c10] at H
         have c10b0 : decide ((wrap64 ((wrap64 ((l0.length : Int) - a1)) - 1)) < (wrap64 (rd l0 a1))) = false := decide_eq_false c10
         clear c10
         obtain ⟨ji11, hji11⟩ : ∃ j_ : Int, (wrap64 (a1 + 1)) = j_ := ⟨_, rfl⟩
         replace H : (if 0 ≤ (ji11) then (if (ji11) ≤ (wrap64 ((ji11) + (wrap64 (rd l0 a1)))) then (if (wrap64 ((ji11) + (wrap64 (rd l0 a1)))) ≤ (l0.length : Int) then (some (strOfNums ((l0.take ((wrap64 ((ji11) + (wrap64 (rd l0 a1)))) : Int).toNat).drop ((ji11) : Int).toNat), wrap64 ((ji11) + (wrap64 (rd l0 a1))), 0)) else (none)) else (none)) else (none)) = some (r1, r2, r3) := by first | (rw [hji11] at H; exact H) | (simp only [hji11] at H ⊢; exact H)
         have hji11w : (IntKind.i64.wrap (a1 + 1)) = ji11 := (i64_w _).trans hji11
         by_cases c12 : 0 ≤ (ji11)
         ·
          rw [if_pos c12] at H
          have c12b0 := eq_true c12
          have c12b1 : decide (0 ≤ (ji11)) = true := decide_eq_true c12
          clear c12
          by_cases c13 : (ji11) ≤ (wrap64 ((ji11) + (wrap64 (rd l0 a1))))
          ·
           rw [if_pos c13] at H
           have c13b0 := eq_true c13
           have c13b1 : decide ((ji11) ≤ (wrap64 ((ji11) + (wrap64 (rd l0 a1))))) = true := decide_eq_true c13
           by_cases c14 : (wrap64 ((ji11) + (wrap64 (rd l0 a1)))) ≤ (l0.length : Int)
           ·
            rw [if_pos c14] at H
            have c14b0 := eq_true c14
            have c14b1 : decide ((wrap64 ((ji11) + (wrap64 (rd l0 a1)))) ≤ (l0.length : Int)) = true := decide_eq_true c14
            simp only [Option.some.injEq, Prod.mk.injEq] at H
            obtain ⟨rfl, rfl, rfl⟩ := H
            have p109 : 0 ≤ (a1 : Int) := of_decide_eq_true z1_
            have q109 : a1 < (l0.length : Int) := of_decide_eq_true z1_
            obtain ⟨ad109, e109, hx109_0⟩ := Kd.at_int HR0.out a1 p109 q109
            cases e109
            replace p109 := eq_true p109
            replace q109 := eq_true q109
            have p110 : 0 ≤ (a1 : Int) := of_decide_eq_true z1_
            have q110 : a1 < (l0.length : Int) := of_decide_eq_true z1_
            obtain ⟨ad110, e110, hx110_0⟩ := Kd.at_int HR0.out a1 p110 q110
            obtain rfl : ad109 = ad110 := (by injection e110)
            replace p110 := eq_true p110
            replace q110 := eq_true q110
            have p111 : 0 ≤ (a1 : Int) := of_decide_eq_true z1_
            have q111 : a1 < (l0.length : Int) := of_decide_eq_true z1_
            obtain ⟨ad111, e111, hx111_0⟩ := Kd.at_int HR0.out a1 p111 q111
            obtain rfl : ad109 = ad111 := (by injection e111)
            replace p111 := eq_true p111
            replace q111 := eq_true q111
            obtain ⟨i015, hi015, _, hsz15, _⟩ := info_parts info5
            obtain ⟨A15, hcut15, hA15, hC15⟩ := print_mid_of (P := Try.prog) (Value.int .u8) 0 22 5 .i64 .i64 Try.underlying22 hi015 hsz15 (some ad109) c0 l0 (ji11) (wrap64 ((ji11) + (wrap64 (rd l0 a1)))) (of_decide_eq_true z1_) (by first | omega | exact of_decide_eq_true z1_) (of_decide_eq_true z1_) HC0.out
            have HR112 := mk_ (C_of_reads (h1 := fun _ => rfl) (hA15 _ (Kd.reads_of_C HR0.out)))
            have HC112 := mk_ hC15
            clear hA15 hC15 hi015 hsz15
            have hcv16 := C_string (P := Try.prog) (A := A15) (c := (c0 - (ji11).toNat)) Try.underlying22 Try.underlying5 Try.underlying9 HR112.out
            have hcv17 : ∀ (m_ n_ : Nat), n_ = ((l0.take ((wrap64 ((ji11) + (wrap64 (rd l0 a1)))) : Int).toNat).drop ((ji11) : Int).toNat).length → (convert 22 9 (.slice A15 n_ (c0 - (ji11).toNat))).run Try.prog (w.drewN m_) = .ok (.string (strOfNums ((l0.take ((wrap64 ((ji11) + (wrap64 (rd l0 a1)))) : Int).toNat).drop ((ji11) : Int).toNat))) (w.drewN m_) := fun m_ n_ h_ => by rw [h_]; exact C_string Try.underlying22 Try.underlying5 Try.underlying9 (C_drewN HR112.out m_)
            go_wp2
            go_ret3
            exact ⟨by first | rfl | (simp; done) | (simp only [← hji11] <;> (first | rfl | simp)) | (simp [*]; done), by repeat (first | exact Drawn0.refl _ | apply Drawn0.step)⟩
           ·
            rw [if_neg c14] at H
            exact absurd H (by simp)
          ·
           rw [if_neg c13] at H
           exact absurd H (by simp)
         ·
          rw [if_neg c12] at H
          exact absurd H (by simp)
      ·
       rw [if_neg c8] at H
       exact absurd H (by simp)
     ·
      rw [if_neg c7] at H
      exact absurd H (by simp)
def value_within.f (a0 : Int) (a1 : Int) : Option (Bool) := if a0 ≥ (wrap64 (-a1)) then (some (decide (a0 ≤ a1))) else (some false)
theorem value_within.calls (a0 : Int) (a1 : Int) (r : Bool) (w : World) (h : value_within.f a0 a1 = some r) :
  Calls Try.prog 107 #[.int .i64 a0, .int .i64 a1] w fun e w' => e = .returned (.bool r) ∧ Drawn0 w w' := by
 have H : (if a0 ≥ (wrap64 (-a1)) then (some (decide (a0 ≤ a1))) else (some false)) = some r := h
 clear h
 by_cases c3 : a0 ≥ (wrap64 (-a1))
 ·
  rw [if_pos c3] at H
  have c3b0 : decide ((wrap64 (-a1)) ≤ a0) = true := decide_eq_true c3
  clear c3
  obtain rfl := Option.some.inj H
  go_enter Try.func107, Try.ntmps107
  go_wp2
  go_ret
  exact ⟨z4_, by repeat (first | exact Drawn0.refl _ | apply Drawn0.step)⟩
 rw [if_neg c3] at H
 have c3b0 : decide ((wrap64 (-a1)) ≤ a0) = false := decide_eq_false c3
 clear c3
 obtain rfl := Option.some.inj H
 go_enter Try.func107, Try.ntmps107
 go_wp2
 go_ret
 exact ⟨z4_, by repeat (first | exact Drawn0.refl _ | apply Drawn0.step)⟩
def value_Check.f (a0_0 : Int) (a0_1 : Int) (a0_2 : ByteArray) : Option (Int) := if a0_0 = 1 then (if a0_1 = 0 then (if (a0_2.toList = ([] : List UInt8)) then (some 0) else (some 1)) else (some 1)) else (if a0_0 = 2 then (if a0_1 = 0 then (if (a0_2.toList = ([] : List UInt8)) then (some 0) else (some 1)) else (if a0_1 = 1 then (if (a0_2.toList = ([] : List UInt8)) then (some 0) else (some 1)) else (some 1))) else (if a0_0 = 3 then ((value_within.f a0_1 1152921504606846976).bind fun t117 => (if t117 = true then (if (a0_2.toList = ([] : List UInt8)) then (some 0) else (some 1)) else (some 1))) else (if a0_0 = 4 then (if a0_1 = 0 then (if ((a0_2.size : Int) ≤ 24) then (some 0) else (some 1)) else (some 1)) else (some 1))))
theorem value_Check.calls (a0_0 : Int) (a0_1 : Int) (a0_2 : ByteArray) (r : Int) (w : World) (h : value_Check.f a0_0 a0_1 a0_2 = some r) :
  Calls Try.prog 87 #[.agg #[.int .i64 a0_0, .int .i64 a0_1, .string a0_2]] w fun e w' => e = .returned (.int .i64 r) ∧ Below w.heap.size w w' := by
 have hu84 := Try.underlying84
 have HB := mk_ (Below.refl w.heap.size w)
 have H : (if a0_0 = 1 then (if a0_1 = 0 then (if (a0_2.toList = ([] : List UInt8)) then (some 0) else (some 1)) else (some 1)) else (if a0_0 = 2 then (if a0_1 = 0 then (if (a0_2.toList = ([] : List UInt8)) then (some 0) else (some 1)) else (if a0_1 = 1 then (if (a0_2.toList = ([] : List UInt8)) then (some 0) else (some 1)) else (some 1))) else (if a0_0 = 3 then ((value_within.f a0_1 1152921504606846976).bind fun t117 => (if t117 = true then (if (a0_2.toList = ([] : List UInt8)) then (some 0) else (some 1)) else (some 1))) else (if a0_0 = 4 then (if a0_1 = 0 then (if ((a0_2.size : Int) ≤ 24) then (some 0) else (some 1)) else (some 1)) else (some 1))))) = some r := h
 clear h
 by_cases c2 : a0_0 = 1
 ·
  rw [if_pos c2] at H
  have c2b0 : (a0_0 == 1) = true := beq_iff_eq.mpr c2
  have c2b1 : (a0_0 != 1) = false := bne_eq_false_iff_eq.mpr c2
  clear c2
  by_cases c3 : a0_1 = 0
  rotate_left
  ·
   rw [if_neg c3] at H
   have c3b0 : (a0_1 == 0) = false := beq_eq_false_iff_ne.mpr c3
   have c3b1 : (a0_1 != 0) = true := bne_iff_ne.mpr c3
   obtain rfl := Option.some.inj H
   go_enter Try.func87, Try.ntmps87
   go_wp2_with (first | ((with_reducible refine gate_dst (N := 1) rfl ?_); (try (refine gate_guard (by rfl) ?_; dsimp only)); refine box_event ?hg (N := 1) ?hd (cs := #[.int .i64 a0_0, .int .i64 a0_1, .string a0_2]) (t := 84) ?hr ?_; (case hd => rfl); (case hg => rfl); (case hr => first | (go_simp; done) | (go_simp; rfl)); intro gb116 hg w9 hbox hb; have n0_ := mk_ (below_step (Short.hB HB) hb); have n1_ := mk_ (hbox); have n2_ := mk_ ((by rw [hg]; exact (below_size (Short.hB HB)) : w.heap.size ≤ gb116)); have n3_ := mk_ ((by rw [hg]; exact (below_size (Short.hB HB)) : w.heap.size ≤ gb116)); clear HB; revert n0_ n1_ n2_ n3_; intro HB BK116 GW116 GE116; clear hb hbox hg; obtain ⟨hcz_0, hcz_1, hcz_2, hfz_0, hfz_1, hfz_2⟩ := Short.c3 BK116.out))
   go_ret
   exact ⟨q0, Short.hB HB⟩
  rw [if_pos c3] at H
  have c3b0 : (a0_1 == 0) = true := beq_iff_eq.mpr c3
  have c3b1 : (a0_1 != 0) = false := bne_eq_false_iff_eq.mpr c3
  clear c3
  by_cases c4 : (a0_2.toList = ([] : List UInt8))
  rotate_left
  ·
   rw [if_neg c4] at H
   have c4b0 : (a0_2.toList == ([] : List UInt8)) = false := beq_eq_false_iff_ne.mpr c4
   have c4b1 : (a0_2.toList != ([] : List UInt8)) = true := bne_iff_ne.mpr c4
   obtain rfl := Option.some.inj H
   go_enter Try.func87, Try.ntmps87
   go_wp2_with (first | ((with_reducible refine gate_dst (N := 1) rfl ?_); (try (refine gate_guard (by rfl) ?_; dsimp only)); refine box_event ?hg (N := 1) ?hd (cs := #[.int .i64 a0_0, .int .i64 a0_1, .string a0_2]) (t := 84) ?hr ?_; (case hd => rfl); (case hg => rfl); (case hr => first | (go_simp; done) | (go_simp; rfl)); intro gb116 hg w7 hbox hb; have n0_ := mk_ (below_step (Short.hB HB) hb); have n1_ := mk_ (hbox); have n2_ := mk_ ((by rw [hg]; exact (below_size (Short.hB HB)) : w.heap.size ≤ gb116)); have n3_ := mk_ ((by rw [hg]; exact (below_size (Short.hB HB)) : w.heap.size ≤ gb116)); clear HB; revert n0_ n1_ n2_ n3_; intro HB BK116 GW116 GE116; clear hb hbox hg; obtain ⟨hcz_0, hcz_1, hcz_2, hfz_0, hfz_1, hfz_2⟩ := Short.c3 BK116.out))
   go_ret
   exact ⟨q0, Short.hB HB⟩
  rw [if_pos c4] at H
  have c4b0 : (a0_2.toList == ([] : List UInt8)) = true := beq_iff_eq.mpr c4
  have c4b1 : (a0_2.toList != ([] : List UInt8)) = false := bne_eq_false_iff_eq.mpr c4
  clear c4
  obtain rfl := Option.some.inj H
  go_enter Try.func87, Try.ntmps87
  go_wp2_with (first | ((with_reducible refine gate_dst (N := 1) rfl ?_); (try (refine gate_guard (by rfl) ?_; dsimp only)); refine box_event ?hg (N := 1) ?hd (cs := #[.int .i64 a0_0, .int .i64 a0_1, .string a0_2]) (t := 84) ?hr ?_; (case hd => rfl); (case hg => rfl); (case hr => first | (go_simp; done) | (go_simp; rfl)); intro gb116 hg w5 hbox hb; have n0_ := mk_ (below_step (Short.hB HB) hb); have n1_ := mk_ (hbox); have n2_ := mk_ ((by rw [hg]; exact (below_size (Short.hB HB)) : w.heap.size ≤ gb116)); have n3_ := mk_ ((by rw [hg]; exact (below_size (Short.hB HB)) : w.heap.size ≤ gb116)); clear HB; revert n0_ n1_ n2_ n3_; intro HB BK116 GW116 GE116; clear hb hbox hg; obtain ⟨hcz_0, hcz_1, hcz_2, hfz_0, hfz_1, hfz_2⟩ := Short.c3 BK116.out))
  go_ret
  exact ⟨q0, Short.hB HB⟩
 rw [if_neg c2] at H
 have c2b0 : (a0_0 == 1) = false := beq_eq_false_iff_ne.mpr c2
 have c2b1 : (a0_0 != 1) = true := bne_iff_ne.mpr c2
 by_cases c11 : a0_0 = 2
 ·
  rw [if_pos c11] at H
  have c11b0 : (a0_0 == 2) = true := beq_iff_eq.mpr c11
  have c11b1 : (a0_0 != 2) = false := bne_eq_false_iff_eq.mpr c11
  clear c11
  by_cases c12 : a0_1 = 0
  ·
   rw [if_pos c12] at H
   have c12b0 : (a0_1 == 0) = true := beq_iff_eq.mpr c12
   have c12b1 : (a0_1 != 0) = false := bne_eq_false_iff_eq.mpr c12
   clear c12
   by_cases c13 : (a0_2.toList = ([] : List UInt8))
   rotate_left
   ·
    rw [if_neg c13] at H
    have c13b0 : (a0_2.toList == ([] : List UInt8)) = false := beq_eq_false_iff_ne.mpr c13
    have c13b1 : (a0_2.toList != ([] : List UInt8)) = true := bne_iff_ne.mpr c13
    obtain rfl := Option.some.inj H
    go_enter Try.func87, Try.ntmps87
    go_wp2_with (first | ((with_reducible refine gate_dst (N := 1) rfl ?_); (try (refine gate_guard (by rfl) ?_; dsimp only)); refine box_event ?hg (N := 1) ?hd (cs := #[.int .i64 a0_0, .int .i64 a0_1, .string a0_2]) (t := 84) ?hr ?_; (case hd => rfl); (case hg => rfl); (case hr => first | (go_simp; done) | (go_simp; rfl)); intro gb116 hg w16 hbox hb; have n0_ := mk_ (below_step (Short.hB HB) hb); have n1_ := mk_ (hbox); have n2_ := mk_ ((by rw [hg]; exact (below_size (Short.hB HB)) : w.heap.size ≤ gb116)); have n3_ := mk_ ((by rw [hg]; exact (below_size (Short.hB HB)) : w.heap.size ≤ gb116)); clear HB; revert n0_ n1_ n2_ n3_; intro HB BK116 GW116 GE116; clear hb hbox hg; obtain ⟨hcz_0, hcz_1, hcz_2, hfz_0, hfz_1, hfz_2⟩ := Short.c3 BK116.out))
    go_ret
    exact ⟨q0, Short.hB HB⟩
   rw [if_pos c13] at H
   have c13b0 : (a0_2.toList == ([] : List UInt8)) = true := beq_iff_eq.mpr c13
   have c13b1 : (a0_2.toList != ([] : List UInt8)) = false := bne_eq_false_iff_eq.mpr c13
   clear c13
   obtain rfl := Option.some.inj H
   go_enter Try.func87, Try.ntmps87
   go_wp2_with (first | ((with_reducible refine gate_dst (N := 1) rfl ?_); (try (refine gate_guard (by rfl) ?_; dsimp only)); refine box_event ?hg (N := 1) ?hd (cs := #[.int .i64 a0_0, .int .i64 a0_1, .string a0_2]) (t := 84) ?hr ?_; (case hd => rfl); (case hg => rfl); (case hr => first | (go_simp; done) | (go_simp; rfl)); intro gb116 hg w14 hbox hb; have n0_ := mk_ (below_step (Short.hB HB) hb); have n1_ := mk_ (hbox); have n2_ := mk_ ((by rw [hg]; exact (below_size (Short.hB HB)) : w.heap.size ≤ gb116)); have n3_ := mk_ ((by rw [hg]; exact (below_size (Short.hB HB)) : w.heap.size ≤ gb116)); clear HB; revert n0_ n1_ n2_ n3_; intro HB BK116 GW116 GE116; clear hb hbox hg; obtain ⟨hcz_0, hcz_1, hcz_2, hfz_0, hfz_1, hfz_2⟩ := Short.c3 BK116.out))
   go_ret
   exact ⟨q0, Short.hB HB⟩
  rw [if_neg c12] at H
  have c12b0 : (a0_1 == 0) = false := beq_eq_false_iff_ne.mpr c12
  have c12b1 : (a0_1 != 0) = true := bne_iff_ne.mpr c12
  by_cases c18 : a0_1 = 1
  rotate_left
  ·
   rw [if_neg c18] at H
   have c18b0 : (a0_1 == 1) = false := beq_eq_false_iff_ne.mpr c18
   have c18b1 : (a0_1 != 1) = true := bne_iff_ne.mpr c18
   obtain rfl := Option.some.inj H
   go_enter Try.func87, Try.ntmps87
   go_wp2_with (first | ((with_reducible refine gate_dst (N := 1) rfl ?_); (try (refine gate_guard (by rfl) ?_; dsimp only)); refine box_event ?hg (N := 1) ?hd (cs := #[.int .i64 a0_0, .int .i64 a0_1, .string a0_2]) (t := 84) ?hr ?_; (case hd => rfl); (case hg => rfl); (case hr => first | (go_simp; done) | (go_simp; rfl)); intro gb116 hg w24 hbox hb; have n0_ := mk_ (below_step (Short.hB HB) hb); have n1_ := mk_ (hbox); have n2_ := mk_ ((by rw [hg]; exact (below_size (Short.hB HB)) : w.heap.size ≤ gb116)); have n3_ := mk_ ((by rw [hg]; exact (below_size (Short.hB HB)) : w.heap.size ≤ gb116)); clear HB; revert n0_ n1_ n2_ n3_; intro HB BK116 GW116 GE116; clear hb hbox hg; obtain ⟨hcz_0, hcz_1, hcz_2, hfz_0, hfz_1, hfz_2⟩ := Short.c3 BK116.out))
   go_ret
   exact ⟨q0, Short.hB HB⟩
  rw [if_pos c18] at H
  have c18b0 : (a0_1 == 1) = true := beq_iff_eq.mpr c18
  have c18b1 : (a0_1 != 1) = false := bne_eq_false_iff_eq.mpr c18
  clear c18
  by_cases c19 : (a0_2.toList = ([] : List UInt8))
  rotate_left
  ·
   rw [if_neg c19] at H
   have c19b0 : (a0_2.toList == ([] : List UInt8)) = false := beq_eq_false_iff_ne.mpr c19
   have c19b1 : (a0_2.toList != ([] : List UInt8)) = true := bne_iff_ne.mpr c19
   obtain rfl := Option.some.inj H
   go_enter Try.func87, Try.ntmps87
   go_wp2_with (first | ((with_reducible refine gate_dst (N := 1) rfl ?_); (try (refine gate_guard (by rfl) ?_; dsimp only)); refine box_event ?hg (N := 1) ?hd (cs := #[.int .i64 a0_0, .int .i64 a0_1, .string a0_2]) (t := 84) ?hr ?_; (case hd => rfl); (case hg => rfl); (case hr => first | (go_simp; done) | (go_simp; rfl)); intro gb116 hg w22 hbox hb; have n0_ := mk_ (below_step (Short.hB HB) hb); have n1_ := mk_ (hbox); have n2_ := mk_ ((by rw [hg]; exact (below_size (Short.hB HB)) : w.heap.size ≤ gb116)); have n3_ := mk_ ((by rw [hg]; exact (below_size (Short.hB HB)) : w.heap.size ≤ gb116)); clear HB; revert n0_ n1_ n2_ n3_; intro HB BK116 GW116 GE116; clear hb hbox hg; obtain ⟨hcz_0, hcz_1, hcz_2, hfz_0, hfz_1, hfz_2⟩ := Short.c3 BK116.out))
   go_ret
   exact ⟨q0, Short.hB HB⟩
  rw [if_pos c19] at H
  have c19b0 : (a0_2.toList == ([] : List UInt8)) = true := beq_iff_eq.mpr c19
  have c19b1 : (a0_2.toList != ([] : List UInt8)) = false := bne_eq_false_iff_eq.mpr c19
  clear c19
  obtain rfl := Option.some.inj H
  go_enter Try.func87, Try.ntmps87
  go_wp2_with (first | ((with_reducible refine gate_dst (N := 1) rfl ?_); (try (refine gate_guard (by rfl) ?_; dsimp only)); refine box_event ?hg (N := 1) ?hd (cs := #[.int .i64 a0_0, .int .i64 a0_1, .string a0_2]) (t := 84) ?hr ?_; (case hd => rfl); (case hg => rfl); (case hr => first | (go_simp; done) | (go_simp; rfl)); intro gb116 hg w20 hbox hb; have n0_ := mk_ (below_step (Short.hB HB) hb); have n1_ := mk_ (hbox); have n2_ := mk_ ((by rw [hg]; exact (below_size (Short.hB HB)) : w.heap.size ≤ gb116)); have n3_ := mk_ ((by rw [hg]; exact (below_size (Short.hB HB)) : w.heap.size ≤ gb116)); clear HB; revert n0_ n1_ n2_ n3_; intro HB BK116 GW116 GE116; clear hb hbox hg; obtain ⟨hcz_0, hcz_1, hcz_2, hfz_0, hfz_1, hfz_2⟩ := Short.c3 BK116.out))
  go_ret
  exact ⟨q0, Short.hB HB⟩
 rw [if_neg c11] at H
 have c11b0 : (a0_0 == 2) = false := beq_eq_false_iff_ne.mpr c11
 have c11b1 : (a0_0 != 2) = true := bne_iff_ne.mpr c11
 by_cases c26 : a0_0 = 3
 ·
  rw [if_pos c26] at H
  have c26b0 : (a0_0 == 3) = true := beq_iff_eq.mpr c26
  have c26b1 : (a0_0 != 3) = false := bne_eq_false_iff_eq.mpr c26
  clear c26
  obtain ⟨t117, A27, H⟩ := Option.bind_eq_some_iff.mp H
  replace A27 := mk_ A27
  by_cases c28 : t117 = true
  rotate_left
  ·
   replace c28 := Bool.eq_false_iff.mpr c28
   subst c28
   rw [if_neg (show ¬ (false = true) by decide)] at H
   obtain rfl := Option.some.inj H
   go_enter Try.func87, Try.ntmps87
   go_wp2_with (first | ((with_reducible refine gate_dst (N := 1) rfl ?_); (try (refine gate_guard (by rfl) ?_; dsimp only)); refine box_event ?hg (N := 1) ?hd (cs := #[.int .i64 a0_0, .int .i64 a0_1, .string a0_2]) (t := 84) ?hr ?_; (case hd => rfl); (case hg => rfl); (case hr => first | (go_simp; done) | (go_simp; rfl)); intro gb116 hg w34 hbox hb; have n0_ := mk_ (below_step (Short.hB HB) hb); have n1_ := mk_ (hbox); have n2_ := mk_ ((by rw [hg]; exact (below_size (Short.hB HB)) : w.heap.size ≤ gb116)); have n3_ := mk_ ((by rw [hg]; exact (below_size (Short.hB HB)) : w.heap.size ≤ gb116)); clear HB; revert n0_ n1_ n2_ n3_; intro HB BK116 GW116 GE116; clear hb hbox hg; obtain ⟨hcz_0, hcz_1, hcz_2, hfz_0, hfz_1, hfz_2⟩ := Short.c3 BK116.out) | ((with_reducible refine gate_callee (f := 107) rfl ?_); refine Short.gL (some 35) Try.func107 #[.int .i64 a0_1, .int .i64 1152921504606846976] (h := ?_); (with_reducible refine (value_within.calls a0_1 1152921504606846976 false _ A27.out).mono ?_); rintro e w' ⟨rfl, ⟨nd, rfl⟩⟩; refine ⟨_, rfl, ?_⟩))
   go_ret
   exact ⟨q0, Short.hB HB⟩
  subst c28
  rw [if_pos rfl] at H
  by_cases c29 : (a0_2.toList = ([] : List UInt8))
  rotate_left
  ·
   rw [if_neg c29] at H
   have c29b0 : (a0_2.toList == ([] : List UInt8)) = false := beq_eq_false_iff_ne.mpr c29
   have c29b1 : (a0_2.toList != ([] : List UInt8)) = true := bne_iff_ne.mpr c29
   obtain rfl := Option.some.inj H
   go_enter Try.func87, Try.ntmps87
   go_wp2_with (first | ((with_reducible refine gate_dst (N := 1) rfl ?_); (try (refine gate_guard (by rfl) ?_; dsimp only)); refine box_event ?hg (N := 1) ?hd (cs := #[.int .i64 a0_0, .int .i64 a0_1, .string a0_2]) (t := 84) ?hr ?_; (case hd => rfl); (case hg => rfl); (case hr => first | (go_simp; done) | (go_simp; rfl)); intro gb116 hg w32 hbox hb; have n0_ := mk_ (below_step (Short.hB HB) hb); have n1_ := mk_ (hbox); have n2_ := mk_ ((by rw [hg]; exact (below_size (Short.hB HB)) : w.heap.size ≤ gb116)); have n3_ := mk_ ((by rw [hg]; exact (below_size (Short.hB HB)) : w.heap.size ≤ gb116)); clear HB; revert n0_ n1_ n2_ n3_; intro HB BK116 GW116 GE116; clear hb hbox hg; obtain ⟨hcz_0, hcz_1, hcz_2, hfz_0, hfz_1, hfz_2⟩ := Short.c3 BK116.out) | ((with_reducible refine gate_callee (f := 107) rfl ?_); refine Short.gL (some 35) Try.func107 #[.int .i64 a0_1, .int .i64 1152921504606846976] (h := ?_); (with_reducible refine (value_within.calls a0_1 1152921504606846976 true _ A27.out).mono ?_); rintro e w' ⟨rfl, ⟨nd, rfl⟩⟩; refine ⟨_, rfl, ?_⟩))
   go_ret
   exact ⟨q0, Short.hB HB⟩
  rw [if_pos c29] at H
  have c29b0 : (a0_2.toList == ([] : List UInt8)) = true := beq_iff_eq.mpr c29
  have c29b1 : (a0_2.toList != ([] : List UInt8)) = false := bne_eq_false_iff_eq.mpr c29
  clear c29
  obtain rfl := Option.some.inj H
  go_enter Try.func87, Try.ntmps87
  go_wp2_with (first | ((with_reducible refine gate_dst (N := 1) rfl ?_); (try (refine gate_guard (by rfl) ?_; dsimp only)); refine box_event ?hg (N := 1) ?hd (cs := #[.int .i64 a0_0, .int .i64 a0_1, .string a0_2]) (t := 84) ?hr ?_; (case hd => rfl); (case hg => rfl); (case hr => first | (go_simp; done) | (go_simp; rfl)); intro gb116 hg w30 hbox hb; have n0_ := mk_ (below_step (Short.hB HB) hb); have n1_ := mk_ (hbox); have n2_ := mk_ ((by rw [hg]; exact (below_size (Short.hB HB)) : w.heap.size ≤ gb116)); have n3_ := mk_ ((by rw [hg]; exact (below_size (Short.hB HB)) : w.heap.size ≤ gb116)); clear HB; revert n0_ n1_ n2_ n3_; intro HB BK116 GW116 GE116; clear hb hbox hg; obtain ⟨hcz_0, hcz_1, hcz_2, hfz_0, hfz_1, hfz_2⟩ := Short.c3 BK116.out) | ((with_reducible refine gate_callee (f := 107) rfl ?_); refine Short.gL (some 35) Try.func107 #[.int .i64 a0_1, .int .i64 1152921504606846976] (h := ?_); (with_reducible refine (value_within.calls a0_1 1152921504606846976 true _ A27.out).mono ?_); rintro e w' ⟨rfl, ⟨nd, rfl⟩⟩; refine ⟨_, rfl, ?_⟩))
  go_ret
  exact ⟨q0, Short.hB HB⟩
 rw [if_neg c26] at H
 have c26b0 : (a0_0 == 3) = false := beq_eq_false_iff_ne.mpr c26
 have c26b1 : (a0_0 != 3) = true := bne_iff_ne.mpr c26
 by_cases c36 : a0_0 = 4
 rotate_left
 ·
  rw [if_neg c36] at H
  have c36b0 : (a0_0 == 4) = false := beq_eq_false_iff_ne.mpr c36
  have c36b1 : (a0_0 != 4) = true := bne_iff_ne.mpr c36
  obtain rfl := Option.some.inj H
  go_enter Try.func87, Try.ntmps87
  go_wp2_with (first | ((with_reducible refine gate_dst (N := 1) rfl ?_); (try (refine gate_guard (by rfl) ?_; dsimp only)); refine box_event ?hg (N := 1) ?hd (cs := #[.int .i64 a0_0, .int .i64 a0_1, .string a0_2]) (t := 84) ?hr ?_; (case hd => rfl); (case hg => rfl); (case hr => first | (go_simp; done) | (go_simp; rfl)); intro gb116 hg w45 hbox hb; have n0_ := mk_ (below_step (Short.hB HB) hb); have n1_ := mk_ (hbox); have n2_ := mk_ ((by rw [hg]; exact (below_size (Short.hB HB)) : w.heap.size ≤ gb116)); have n3_ := mk_ ((by rw [hg]; exact (below_size (Short.hB HB)) : w.heap.size ≤ gb116)); clear HB; revert n0_ n1_ n2_ n3_; intro HB BK116 GW116 GE116; clear hb hbox hg; obtain ⟨hcz_0, hcz_1, hcz_2, hfz_0, hfz_1, hfz_2⟩ := Short.c3 BK116.out))
  go_ret
  exact ⟨q0, Short.hB HB⟩
 rw [if_pos c36] at H
 have c36b0 : (a0_0 == 4) = true := beq_iff_eq.mpr c36
 have c36b1 : (a0_0 != 4) = false := bne_eq_false_iff_eq.mpr c36
 clear c36
 by_cases c37 : a0_1 = 0
 rotate_left
 ·
  rw [if_neg c37] at H
  have c37b0 : (a0_1 == 0) = false := beq_eq_false_iff_ne.mpr c37
  have c37b1 : (a0_1 != 0) = true := bne_iff_ne.mpr c37
  obtain rfl := Option.some.inj H
  go_enter Try.func87, Try.ntmps87
  go_wp2_with (first | ((with_reducible refine gate_dst (N := 1) rfl ?_); (try (refine gate_guard (by rfl) ?_; dsimp only)); refine box_event ?hg (N := 1) ?hd (cs := #[.int .i64 a0_0, .int .i64 a0_1, .string a0_2]) (t := 84) ?hr ?_; (case hd => rfl); (case hg => rfl); (case hr => first | (go_simp; done) | (go_simp; rfl)); intro gb116 hg w43 hbox hb; have n0_ := mk_ (below_step (Short.hB HB) hb); have n1_ := mk_ (hbox); have n2_ := mk_ ((by rw [hg]; exact (below_size (Short.hB HB)) : w.heap.size ≤ gb116)); have n3_ := mk_ ((by rw [hg]; exact (below_size (Short.hB HB)) : w.heap.size ≤ gb116)); clear HB; revert n0_ n1_ n2_ n3_; intro HB BK116 GW116 GE116; clear hb hbox hg; obtain ⟨hcz_0, hcz_1, hcz_2, hfz_0, hfz_1, hfz_2⟩ := Short.c3 BK116.out))
  go_ret
  exact ⟨q0, Short.hB HB⟩
 rw [if_pos c37] at H
 have c37b0 : (a0_1 == 0) = true := beq_iff_eq.mpr c37
 have c37b1 : (a0_1 != 0) = false := bne_eq_false_iff_eq.mpr c37
 clear c37
 by_cases c38 : ((a0_2.size : Int) ≤ 24)
 ·
  rw [if_pos c38] at H
  have c38b0 : decide ((a0_2.size : Int) ≤ 24) = true := decide_eq_true c38
  have c38b1 : decide (a0_2.size ≤ 24) = true := decide_eq_true z3_
  clear c38
  obtain rfl := Option.some.inj H
  go_enter Try.func87, Try.ntmps87
  go_wp2_with (first | ((with_reducible refine gate_dst (N := 1) rfl ?_); (try (refine gate_guard (by rfl) ?_; dsimp only)); refine box_event ?hg (N := 1) ?hd (cs := #[.int .i64 a0_0, .int .i64 a0_1, .string a0_2]) (t := 84) ?hr ?_; (case hd => rfl); (case hg => rfl); (case hr => first | (go_simp; done) | (go_simp; rfl)); intro gb116 hg w39 hbox hb; have n0_ := mk_ (below_step (Short.hB HB) hb); have n1_ := mk_ (hbox); have n2_ := mk_ ((by rw [hg]; exact (below_size (Short.hB HB)) : w.heap.size ≤ gb116)); have n3_ := mk_ ((by rw [hg]; exact (below_size (Short.hB HB)) : w.heap.size ≤ gb116)); clear HB; revert n0_ n1_ n2_ n3_; intro HB BK116 GW116 GE116; clear hb hbox hg; obtain ⟨hcz_0, hcz_1, hcz_2, hfz_0, hfz_1, hfz_2⟩ := Short.c3 BK116.out))
  go_ret
  exact ⟨q0, Short.hB HB⟩
 rw [if_neg c38] at H
 have c38b0 : decide ((a0_2.size : Int) ≤ 24) = false := decide_eq_false c38
 have c38b1 : decide (a0_2.size ≤ 24) = false := decide_eq_false z3_
 clear c38
 obtain rfl := Option.some.inj H
 go_enter Try.func87, Try.ntmps87
 go_wp2_with (first | ((with_reducible refine gate_dst (N := 1) rfl ?_); (try (refine gate_guard (by rfl) ?_; dsimp only)); refine box_event ?hg (N := 1) ?hd (cs := #[.int .i64 a0_0, .int .i64 a0_1, .string a0_2]) (t := 84) ?hr ?_; (case hd => rfl); (case hg => rfl); (case hr => first | (go_simp; done) | (go_simp; rfl)); intro gb116 hg w41 hbox hb; have n0_ := mk_ (below_step (Short.hB HB) hb); have n1_ := mk_ (hbox); have n2_ := mk_ ((by rw [hg]; exact (below_size (Short.hB HB)) : w.heap.size ≤ gb116)); have n3_ := mk_ ((by rw [hg]; exact (below_size (Short.hB HB)) : w.heap.size ≤ gb116)); clear HB; revert n0_ n1_ n2_ n3_; intro HB BK116 GW116 GE116; clear hb hbox hg; obtain ⟨hcz_0, hcz_1, hcz_2, hfz_0, hfz_1, hfz_2⟩ := Short.c3 BK116.out))
 go_ret
 exact ⟨q0, Short.hB HB⟩
end Go.Proofs.Ytjnjfogfpmeacaa.PAll
end
section
namespace Go.Proofs.Ytjnjfogfpmeacaa.PAll
open Go.RowKit PrintWords PrintLast PrintMore ZipT PrintWords.Kd PrintMore.Kd
attribute [local go_sem] max2_int min2_int max_two min_two max_three min_three max_four min_four   -- for this text's walks alone
set_option linter.unusedVariables false
set_option linter.unusedSimpArgs false
mutual
def wire_GetInt.j0 : Nat → List Int → Int → Bool → Option (Int × Int × Int)
 | 0, _, _, _ => none
 | k + 1, x0, x1, x15 => if x15 = true then (some (0, 0, 1)) else (if (wrap64 ((x0.length : Int) - x1)) < 9 then (wire_GetInt.j1 k x0 x1 true) else (if 0 ≤ x1 then (if x1 < (x0.length : Int) then (wire_GetInt.j1 k x0 x1 (decide ((rd x0 x1) > 1))) else (none)) else (none)))
def wire_GetInt.j1 : Nat → List Int → Int → Bool → Option (Int × Int × Int)
 | 0, _, _, _ => none
 | k + 1, x0, x1, x27 => if x27 = true then (some (0, 0, 3)) else (if 0 ≤ (wrap64 (x1 + 1)) then (if (wrap64 (x1 + 1)) ≤ (wrap64 (x1 + 9)) then (if (wrap64 (x1 + 9)) ≤ (x0.length : Int) then ((wire_num.f k ((x0.take ((wrap64 (x1 + 9)) : Int).toNat).drop ((wrap64 (x1 + 1)) : Int).toNat)).bind fun t120 => (if t120 > 1152921504606846976 then (wire_GetInt.j2 k x0 x1 t120 true) else (if 0 ≤ x1 then (if x1 < (x0.length : Int) then (if (rd x0 x1) = 1 then (wire_GetInt.j2 k x0 x1 t120 (t120 == 0)) else (wire_GetInt.j2 k x0 x1 t120 false)) else (none)) else (none)))) else (none)) else (none)) else (none))
def wire_GetInt.j2 : Nat → List Int → Int → Int → Bool → Option (Int × Int × Int)
 | 0, _, _, _, _ => none
 | k + 1, x0, x1, x7, x35 => if x35 = true then (some (0, 0, 3)) else (if 0 ≤ x1 then (if x1 < (x0.length : Int) then (if (rd x0 x1) = 1 then (some (wrap64 (-(wrap64 (x7))), wrap64 (x1 + 9), 0)) else (some (wrap64 (x7), wrap64 (x1 + 9), 0))) else (none)) else (none))
end
def wire_GetInt.f (k : Nat) (l0 : List Int) (a1 : Int) : Option (Int × Int × Int) := if a1 < 0 then (wire_GetInt.j0 k l0 a1 true) else (wire_GetInt.j0 k l0 a1 (decide (a1 > (l0.length : Int))))
theorem wire_GetInt.calls (k : Nat) (A0 : Option Addr) (c0 : Nat) (l0 : List Int) (a1 : Int) (r1 : Int) (r2 : Int) (r3 : Int) (w : World) (hr0 : Kd.C (Kd.int .u8) w A0 l0.length l0) (hc0 : l0.length ≤ c0) (h : wire_GetInt.f k l0 a1 = some (r1, r2, r3)) :
  Calls Try.prog 111 #[.slice A0 l0.length c0, .int .i64 a1] w fun e w' => e = .returned (.tuple #[.int .i64 r1, .int .i64 r2, .int .i64 r3]) ∧ Drawn0 w w' := by
 have HR0 := mk_ hr0
 have HC0 := mk_ hc0
 clear hr0 hc0
 have H : (if a1 < 0 then (wire_GetInt.j0 k l0 a1 true) else (wire_GetInt.j0 k l0 a1 (decide (a1 > (l0.length : Int))))) = some (r1, r2, r3) := h
 clear h
 have HC3 := mk_ H
 clear H
 go_enter Try.func111, Try.ntmps111
 go_upto_region 1 with (fail)
 go_cut [15] (fun v15 wc => ∃ (kq : Nat) (x15_2 : Bool), v15 = .bool x15_2 ∧ Aside0 (wire_GetInt.j0 kq l0 a1 x15_2 = some (r1, r2, r3)) ∧ Aside0 (kq ≤ k) ∧ Drawn0 w wc)
 case first =>
  have H := HC3.out
  clear HC3
  by_cases c4 : a1 < 0
  ·
   rw [if_pos c4] at H
   have c4b0 : decide (a1 < 0) = true := decide_eq_true c4
   clear c4
   (first | rw [c4b0] | (simp only [i64_w, i32_w]; rw [c4b0]) | skip)
   have H' := mk_ H
   clear H
   go_wp2
   go_meet
   case rel => exact ⟨_, (true), z4_, H', ⟨by first | omega | exact Nat.le_refl _⟩, by repeat (first | exact Drawn0.refl _ | apply Drawn0.step)⟩
  rw [if_neg c4] at H
  have c4b0 : decide (a1 < 0) = false := decide_eq_false c4
  clear c4
  (first | rw [c4b0] | (simp only [i64_w, i32_w]; rw [c4b0]) | skip)
  have H' := mk_ H
  clear H
  go_wp2
  go_meet
  case rel => exact ⟨_, (decide (a1 > (l0.length : Int))), z4_, H', ⟨by first | omega | exact Nat.le_refl _⟩, by repeat (first | exact Drawn0.refl _ | apply Drawn0.step)⟩
 case rest => as_aux_lemma =>
  clear HC3
  try clear c1
  try clear p2
  try clear c4
  try clear c4b0
  obtain ⟨kq, x15_2, rfl, HA, HJ2, ⟨mc2, rfl⟩⟩ := hcut
  cases kq with
  | zero => exact absurd HA.out (by simp [wire_GetInt.j0])
  | succ kj2 =>
   have H := HA.out
   clear HA
   simp only [wire_GetInt.j0] at H
   by_cases c5 : x15_2 = true
   ·
    subst c5
    rw [if_pos rfl] at H
    simp only [Option.some.injEq, Prod.mk.injEq] at H
    obtain ⟨rfl, rfl, rfl⟩ := H
    go_wp2
    go_ret3
    exact ⟨z4_, by repeat (first | exact Drawn0.refl _ | apply Drawn0.step)⟩
   ·
    replace c5 := Bool.eq_false_iff.mpr c5
    subst c5
    rw [if_neg (show ¬ (false = true) by decide)] at H
    have HC6 := mk_ H
    clear H
    go_upto_region 3 with (fail)
    go_cut [27] (fun v27 wc => ∃ (kq : Nat) (x27_5 : Bool), v27 = .bool x27_5 ∧ Aside0 (wire_GetInt.j1 kq l0 a1 x27_5 = some (r1, r2, r3)) ∧ Aside0 (kq ≤ kj2) ∧ Drawn0 w wc)
    case first =>
     have H := HC6.out
     clear HC6
     by_cases c7 : (wrap64 ((l0.length : Int) - a1)) < 9
     ·
      rw [if_pos c7] at H
      have c7b0 : decide ((wrap64 ((l0.length : Int) - a1)) < 9) = true := decide_eq_true c7
      clear c7
      (first | rw [c7b0] | (simp only [i64_w, i32_w]; rw [c7b0]) | skip)
      have H' := mk_ H
      clear H
      go_wp2
      go_meet
      case rel => exact ⟨_, (true), z4_, H', ⟨by have := HJ2.out; first | omega | exact Nat.le_refl _⟩, by repeat (first | exact Drawn0.refl _ | apply Drawn0.step)⟩
     ·
      rw [if_neg c7] at H
      have c7b0 : decide ((wrap64 ((l0.length : Int) - a1)) < 9) = false := decide_eq_false c7
      clear c7
      (first | rw [c7b0] | (simp only [i64_w, i32_w]; rw [c7b0]) | skip)
      by_cases c8 : 0 ≤ a1
      ·
       rw [if_pos c8] at H
       have c8b0 : decide (0 ≤ a1) = true := decide_eq_true c8
       clear c8
       by_cases c9 : a1 < (l0.length : Int)
       ·
        rw [if_pos c9] at H
        have c9b0 : decide (a1 < (l0.length : Int)) = true := decide_eq_true c9
        clear c9
        have H' := mk_ H
        clear H
        have p118 : 0 ≤ (a1 : Int) := of_decide_eq_true z1_
        have q118 : a1 < (l0.length : Int) := of_decide_eq_true z1_
        obtain ⟨ad118, e118, hx118_0⟩ := Kd.at_int HR0.out a1 p118 q118
        cases e118
        replace p118 := eq_true p118
        replace q118 := eq_true q118
        go_wp2
        go_meet
        case rel => exact ⟨_, (decide ((rd l0 a1) > 1)), z4_, H', ⟨by have := HJ2.out; first | omega | exact Nat.le_refl _⟩, by repeat (first | exact Drawn0.refl _ | apply Drawn0.step)⟩
       ·
        rw [if_neg c9] at H
        exact absurd H (by simp)
      ·
       rw [if_neg c8] at H
       exact absurd H (by simp)
    case rest => as_aux_lemma =>
     clear HC6
     try clear c1
     try clear p1
     try clear q1
     try clear hx1
     try clear c2
     try clear p2
     try clear c4
     try clear c4b0
     try clear c5
     try clear p6
     try clear c7
     try clear c7b0
     try clear c8
     try clear c8b0
     try clear c9
     try clear c9b0
     try clear hx118_0
     try clear p118
     try clear p2
     try clear q118
     obtain ⟨kq, x27_5, rfl, HA, HJ5, ⟨mc5, rfl⟩⟩ := hcut
     cases kq with
     | zero => exact absurd HA.out (by simp [wire_GetInt.j1])
     | succ kj5 =>
      have H := HA.out
      clear HA
      simp only [wire_GetInt.j1] at H
      by_cases c10 : x27_5 = true
      ·
       subst c10
       rw [if_pos rfl] at H
       simp only [Option.some.injEq, Prod.mk.injEq] at H
       obtain ⟨rfl, rfl, rfl⟩ := H
       go_wp2
       go_ret3
       exact ⟨z4_, by repeat (first | exact Drawn0.refl _ | apply Drawn0.step)⟩
      ·
       replace c10 := Bool.eq_false_iff.mpr c10
       subst c10
       rw [if_neg (show ¬ (false = true) by decide)] at H
       obtain ⟨ji11, hji11⟩ : ∃ j_ : Int, (wrap64 (a1 + 1)) = j_ := ⟨_, rfl⟩
       replace H : (if 0 ≤ (ji11) then (if (ji11) ≤ (wrap64 (a1 + 9)) then (if (wrap64 (a1 + 9)) ≤ (l0.length : Int) then ((wire_num.f kj5 ((l0.take ((wrap64 (a1 + 9)) : Int).toNat).drop ((ji11) : Int).toNat)).bind fun t120 => (if t120 > 1152921504606846976 then (wire_GetInt.j2 kj5 l0 a1 t120 true) else (if 0 ≤ a1 then (if a1 < (l0.length : Int) then (if (rd l0 a1) = 1 then (wire_GetInt.j2 kj5 l0 a1 t120 (t120 == 0)) else (wire_GetInt.j2 kj5 l0 a1 t120 false)) else (none)) else (none)))) else (none)) else (none)) else (none)) = some (r1, r2, r3) := by first | (rw [hji11] at H; exact H) | (simp only [hji11] at H ⊢; exact H)
       have hji11w : (IntKind.i64.wrap (a1 + 1)) = ji11 := (i64_w _).trans hji11
       by_cases c12 : 0 ≤ (ji11)
       ·
        rw [if_pos c12] at H
        have c12b0 := eq_true c12
        have c12b1 : decide (0 ≤ (ji11)) = true := decide_eq_true c12
        clear c12
        by_cases c13 : (ji11) ≤ (wrap64 (a1 + 9))
        ·
         rw [if_pos c13] at H
         have c13b0 := eq_true c13
         have c13b1 : decide ((ji11) ≤ (wrap64 (a1 + 9))) = true := decide_eq_true c13
         by_cases c14 : (wrap64 (a1 + 9)) ≤ (l0.length : Int)
         ·
          rw [if_pos c14] at H
          have c14b0 := eq_true c14
          have c14b1 : decide ((wrap64 (a1 + 9)) ≤ (l0.length : Int)) = true := decide_eq_true c14
          obtain ⟨t120, A15, H⟩ := Option.bind_eq_some_iff.mp H
          replace A15 := mk_ A15
          have HC16 := mk_ H
          clear H
          obtain ⟨i017, hi017, _, hsz17, _⟩ := info_parts info5
          obtain ⟨A17, hcut17, hA17, hC17⟩ := print_mid_of (P := Try.prog) (Value.int .u8) 0 22 5 .i64 .i64 Try.underlying22 hi017 hsz17 A0 c0 l0 (ji11) (wrap64 (a1 + 9)) (of_decide_eq_true z1_) (by first | omega | exact of_decide_eq_true z1_) (of_decide_eq_true z1_) HC0.out
          have HR119 := mk_ (C_of_reads (h1 := fun _ => rfl) (hA17 _ (Kd.reads_of_C HR0.out)))
          have HC119 := mk_ hC17
          clear hA17 hC17 hi017 hsz17
          go_upto_region 6 with (first | ((with_reducible refine gate_callee (f := 110) rfl ?_); refine goesL_ (some 34) rfl rfl Try.func110 z0_ rfl #[.slice A17 ((l0.take ((wrap64 (a1 + 9)) : Int).toNat).drop ((ji11) : Int).toNat).length (c0 - (ji11).toNat)] rfl (by (try simp only [List.map_toArray, List.map_cons, List.map_nil]); first | done | (rw [show ((l0.take ((wrap64 (a1 + 9)) : Int).toNat).drop ((ji11) : Int).toNat).length = ((wrap64 (a1 + 9)).toNat - (ji11).toNat) from (by rw [List.length_drop, List.length_take]; have h_ : ((wrap64 (a1 + 9)) : Int) ≤ (l0.length : Int) := of_decide_eq_true z1_; omega)] <;> rfl) | (simp only [hji11]; rfl) | rfl | (simp only [List.length_drop, List.length_take]; rfl) | (go_simp; done) | (simp; done)) ?_; (with_reducible refine (wire_num.calls kj5 _ _ ((l0.take ((wrap64 (a1 + 9)) : Int).toNat).drop ((ji11) : Int).toNat) t120 _ ?side1 ?side2 A15.out).mono ?_); (case side1 => repeat (first | exact HR119.out | (with_reducible refine C_alloc ?_ _) | (with_reducible refine C_drewN ?_ _) | (with_reducible refine C_drew ?_))); (case side2 => exact HC119.out); rintro e w' ⟨rfl, ⟨nd, rfl⟩⟩; refine ⟨_, rfl, ?_⟩))
          (try simp only [Act.put, List.setIfInBounds_toArray, List.set_cons_zero, List.set_cons_succ])
          go_cut [35] (fun v35 wc => ∃ (kq : Nat) (x35_15 : Bool), v35 = .bool x35_15 ∧ Aside0 (wire_GetInt.j2 kq l0 a1 t120 x35_15 = some (r1, r2, r3)) ∧ Aside0 (kq ≤ kj5) ∧ Drawn0 w wc)
          case first =>
           have H := HC16.out
           clear HC16
           by_cases c18 : t120 > 1152921504606846976
           ·
            rw [if_pos c18] at H
            have c18b0 : decide (1152921504606846976 < t120) = true := decide_eq_true c18
            clear c18
            (first | rw [c18b0] | (simp only [i64_w, i32_w]; rw [c18b0]) | skip)
            have H' := mk_ H
            clear H
            go_wp2
            go_meet
            case rel => exact ⟨_, (true), z4_, H', ⟨by have := HJ2.out; have := HJ5.out; first | omega | exact Nat.le_refl _⟩, by repeat (first | exact Drawn0.refl _ | apply Drawn0.step)⟩
           ·
            rw [if_neg c18] at H
            have c18b0 : decide (1152921504606846976 < t120) = false := decide_eq_false c18
            clear c18
            (first | rw [c18b0] | (simp only [i64_w, i32_w]; rw [c18b0]) | skip)
            by_cases c19 : 0 ≤ a1
            ·
             rw [if_pos c19] at H
             have c19b0 : decide (0 ≤ a1) = true := decide_eq_true c19
             clear c19
             by_cases c20 : a1 < (l0.length : Int)
             ·
              rw [if_pos c20] at H
              have c20b0 : decide (a1 < (l0.length : Int)) = true := decide_eq_true c20
              clear c20
              by_cases c21 : (rd l0 a1) = 1
              ·
               rw [if_pos c21] at H
               have c21b0 : ((rd l0 a1) == 1) = true := beq_iff_eq.mpr c21
               have c21b1 : ((rd l0 a1) != 1) = false := bne_eq_false_iff_eq.mpr c21
               clear c21
               have H' := mk_ H
               clear H
               have p121 : 0 ≤ (a1 : Int) := of_decide_eq_true z1_
               have q121 : a1 < (l0.length : Int) := of_decide_eq_true z1_
               obtain ⟨ad121, e121, hx121_0⟩ := Kd.at_int HR0.out a1 p121 q121
               cases e121
               replace p121 := eq_true p121
               replace q121 := eq_true q121
               go_wp2
               go_meet
               case rel => exact ⟨_, ((t120 == 0)), z4_, H', ⟨by have := HJ2.out; have := HJ5.out; first | omega | exact Nat.le_refl _⟩, by repeat (first | exact Drawn0.refl _ | apply Drawn0.step)⟩
              ·
               rw [if_neg c21] at H
               have c21b0 : ((rd l0 a1) == 1) = false := beq_eq_false_iff_ne.mpr c21
               have c21b1 : ((rd l0 a1) != 1) = true := bne_iff_ne.mpr c21
               have H' := mk_ H
               clear H
               have p121 : 0 ≤ (a1 : Int) := of_decide_eq_true z1_
               have q121 : a1 < (l0.length : Int) := of_decide_eq_true z1_
               obtain ⟨ad121, e121, hx121_0⟩ := Kd.at_int HR0.out a1 p121 q121
               cases e121
               replace p121 := eq_true p121
               replace q121 := eq_true q121
               go_wp2
               go_meet
               case rel => exact ⟨_, (false), z4_, H', ⟨by have := HJ2.out; have := HJ5.out; first | omega | exact Nat.le_refl _⟩, by repeat (first | exact Drawn0.refl _ | apply Drawn0.step)⟩
             ·
              rw [if_neg c20] at H
              exact absurd H (by simp)
            ·
             rw [if_neg c19] at H
             exact absurd H (by simp)
          case rest => as_aux_lemma =>
           clear HC16
           try clear c1
           try clear p1
           try clear q1
           try clear hx1
           try clear c2
           try clear p2
           try clear c4
           try clear c4b0
           try clear c5
           try clear p6
           try clear c7
           try clear c7b0
           try clear c8
           try clear c8b0
           try clear c9
           try clear c9b0
           try clear c10
           try clear c11
           try clear p11
           try clear q11
           try clear hx11
           try clear c12
           try clear c12b0
           try clear c12b1
           try clear p12
           try clear q12
           try clear hx12
           try clear c13
           try clear c13b0
           try clear c13b1
           try clear c14
           try clear c14b0
           try clear c14b1
           try clear c18
           try clear c18b0
           try clear c19
           try clear c19b0
           try clear c20
           try clear c20b0
           try clear c21
           try clear c21b0
           try clear c21b1
           try clear hx118_0
           try clear hx121_0
           try clear p1
           try clear p118
           try clear p121
           try clear p2
           try clear p6
           try clear q1
           try clear q118
           try clear q121
           obtain ⟨kq, x35_15, rfl, HA, HJ15, ⟨mc15, rfl⟩⟩ := hcut
           cases kq with
           | zero => exact absurd HA.out (by simp [wire_GetInt.j2])
           | succ kj15 =>
            have H := HA.out
            clear HA
            simp only [wire_GetInt.j2] at H
            by_cases c22 : x35_15 = true
            ·
             subst c22
             rw [if_pos rfl] at H
             simp only [Option.some.injEq, Prod.mk.injEq] at H
             obtain ⟨rfl, rfl, rfl⟩ := H
             go_wp2
             go_ret3
             exact ⟨by first | rfl | (simp; done) | (simp only [← hji11] <;> (first | rfl | simp)) | (simp [*]; done), by repeat (first | exact Drawn0.refl _ | apply Drawn0.step)⟩
            ·
             replace c22 := Bool.eq_false_iff.mpr c22
             subst c22
             rw [if_neg (show ¬ (false = true) by decide)] at H
             by_cases c23 : 0 ≤ a1
             ·
              rw [if_pos c23] at H
              have c23b0 : decide (0 ≤ a1) = true := decide_eq_true c23
              clear c23
              by_cases c24 : a1 < (l0.length : Int)
              ·
               rw [if_pos c24] at H
               have c24b0 : decide (a1 < (l0.length : Int)) = true := decide_eq_true c24
               clear c24
               by_cases c25 : (rd l0 a1) = 1
               ·
                rw [if_pos c25] at H
                have c25b0 : ((rd l0 a1) == 1) = true := beq_iff_eq.mpr c25
                have c25b1 : ((rd l0 a1) != 1) = false := bne_eq_false_iff_eq.mpr c25
                clear c25
                simp only [Option.some.injEq, Prod.mk.injEq] at H
                obtain ⟨rfl, rfl, rfl⟩ := H
                have p122 : 0 ≤ (a1 : Int) := of_decide_eq_true z1_
                have q122 : a1 < (l0.length : Int) := of_decide_eq_true z1_
                obtain ⟨ad122, e122, hx122_0⟩ := Kd.at_int HR0.out a1 p122 q122
                cases e122
                replace p122 := eq_true p122
                replace q122 := eq_true q122
                go_wp2
                go_ret3
                exact ⟨by first | rfl | (simp; done) | (simp only [← hji11] <;> (first | rfl | simp)) | (simp [*]; done), by repeat (first | exact Drawn0.refl _ | apply Drawn0.step)⟩
               ·
                rw [if_neg c25] at H
                have c25b0 : ((rd l0 a1) == 1) = false := beq_eq_false_iff_ne.mpr c25
                have c25b1 : ((rd l0 a1) != 1) = true := bne_iff_ne.mpr c25
                simp only [Option.some.injEq, Prod.mk.injEq] at H
                obtain ⟨rfl, rfl, rfl⟩ := H
                have p122 : 0 ≤ (a1 : Int) := of_decide_eq_true z1_
                have q122 : a1 < (l0.length : Int) := of_decide_eq_true z1_
                obtain ⟨ad122, e122, hx122_0⟩ := Kd.at_int HR0.out a1 p122 q122
                cases e122
                replace p122 := eq_true p122
                replace q122 := eq_true q122
                go_wp2
                go_ret3
                exact ⟨by first | rfl | (simp; done) | (simp only [← hji11] <;> (first | rfl | simp)) | (simp [*]; done), by repeat (first | exact Drawn0.refl _ | apply Drawn0.step)⟩
              ·
               rw [if_neg c24] at H
               exact absurd H (by simp)
             ·
              rw [if_neg c23] at H
              exact absurd H (by simp)
         ·
          rw [if_neg c14] at H
          exact absurd H (by simp)
        ·
         rw [if_neg c13] at H
         exact absurd H (by simp)
       ·
        rw [if_neg c12] at H
        exact absurd H (by simp)
def value_Read.f (k : Nat) (l0 : List Int) (a1 : Int) : Option (Int × Int × ByteArray × Int × Int) := (wire_Get.f k l0 a1 1).bind fun bt124 => (if bt124.2.2 = 0 then (if bt124.1 = 2 then ((wire_Get.f k l0 bt124.2.1 1).bind fun bt127 => (if bt127.2.2 = 0 then ((value_Check.f bt124.1 bt127.1 (⟨#[]⟩ : ByteArray)).bind fun t130 => (if t130 = 0 then (some (bt124.1, bt127.1, (⟨#[]⟩ : ByteArray), bt127.2.1, 0)) else (some (0, 0, (⟨#[]⟩ : ByteArray), 0, 3)))) else (some (0, 0, (⟨#[]⟩ : ByteArray), 0, 3)))) else (if bt124.1 = 3 then ((wire_GetInt.f k l0 bt124.2.1).bind fun bt131 => (if bt131.2.2 = 0 then ((value_Check.f bt124.1 bt131.1 (⟨#[]⟩ : ByteArray)).bind fun t134 => (if t134 = 0 then (some (bt124.1, bt131.1, (⟨#[]⟩ : ByteArray), bt131.2.1, 0)) else (some (0, 0, (⟨#[]⟩ : ByteArray), 0, 3)))) else (some (0, 0, (⟨#[]⟩ : ByteArray), 0, 3)))) else (if bt124.1 = 4 then ((wire_GetText.f k l0 bt124.2.1).bind fun bt135 => (if bt135.2.2 = 0 then ((value_Check.f bt124.1 0 bt135.1).bind fun t138 => (if t138 = 0 then (some (bt124.1, 0, bt135.1, bt135.2.1, 0)) else (some (0, 0, (⟨#[]⟩ : ByteArray), 0, 3)))) else (some (0, 0, (⟨#[]⟩ : ByteArray), 0, 3)))) else ((value_Check.f bt124.1 0 (⟨#[]⟩ : ByteArray)).bind fun t139 => (if t139 = 0 then (some (bt124.1, 0, (⟨#[]⟩ : ByteArray), bt124.2.1, 0)) else (some (0, 0, (⟨#[]⟩ : ByteArray), 0, 3))))))) else (some (0, 0, (⟨#[]⟩ : ByteArray), 0, bt124.2.2)))
theorem value_Read.calls (k : Nat) (A0 : Option Addr) (c0 : Nat) (l0 : List Int) (a1 : Int) (r1 : Int) (r2 : Int) (r3 : ByteArray) (r4 : Int) (r5 : Int) (w : World) (hr0 : Kd.C (Kd.int .u8) w A0 l0.length l0) (hc0 : l0.length ≤ c0) (h : value_Read.f k l0 a1 = some (r1, r2, r3, r4, r5)) :
  Calls Try.prog 94 #[.slice A0 l0.length c0, .int .i64 a1] w fun e w' => e = .returned (.tuple #[.agg #[.int .i64 r1, .int .i64 r2, .string r3], .int .i64 r4, .int .i64 r5]) ∧ Below w.heap.size w w' := by
 have hu84 := Try.underlying84
 have HR0 := mk_ hr0
 have HC0 := mk_ hc0
 clear hr0 hc0
 have HB := mk_ (Below.refl w.heap.size w)
 have H : ((wire_Get.f k l0 a1 1).bind fun bt124 => (if bt124.2.2 = 0 then (if bt124.1 = 2 then ((wire_Get.f k l0 bt124.2.1 1).bind fun bt127 => (if bt127.2.2 = 0 then ((value_Check.f bt124.1 bt127.1 (⟨#[]⟩ : ByteArray)).bind fun t130 => (if t130 = 0 then (some (bt124.1, bt127.1, (⟨#[]⟩ : ByteArray), bt127.2.1, 0)) else (some (0, 0, (⟨#[]⟩ : ByteArray), 0, 3)))) else (some (0, 0, (⟨#[]⟩ : ByteArray), 0, 3)))) else (if bt124.1 = 3 then ((wire_GetInt.f k l0 bt124.2.1).bind fun bt131 => (if bt131.2.2 = 0 then ((value_Check.f bt124.1 bt131.1 (⟨#[]⟩ : ByteArray)).bind fun t134 => (if t134 = 0 then (some (bt124.1, bt131.1, (⟨#[]⟩ : ByteArray), bt131.2.1, 0)) else (some (0, 0, (⟨#[]⟩ : ByteArray), 0, 3)))) else (some (0, 0, (⟨#[]⟩ : ByteArray), 0, 3)))) else (if bt124.1 = 4 then ((wire_GetText.f k l0 bt124.2.1).bind fun bt135 => (if bt135.2.2 = 0 then ((value_Check.f bt124.1 0 bt135.1).bind fun t138 => (if t138 = 0 then (some (bt124.1, 0, bt135.1, bt135.2.1, 0)) else (some (0, 0, (⟨#[]⟩ : ByteArray), 0, 3)))) else (some (0, 0, (⟨#[]⟩ : ByteArray), 0, 3)))) else ((value_Check.f bt124.1 0 (⟨#[]⟩ : ByteArray)).bind fun t139 => (if t139 = 0 then (some (bt124.1, 0, (⟨#[]⟩ : ByteArray), bt124.2.1, 0)) else (some (0, 0, (⟨#[]⟩ : ByteArray), 0, 3))))))) else (some (0, 0, (⟨#[]⟩ : ByteArray), 0, bt124.2.2)))) = some (r1, r2, r3, r4, r5) := h
 clear h
 obtain ⟨⟨t124, t125, t126⟩, A3, H⟩ := Option.bind_eq_some_iff.mp H
 try dsimp only at H
 replace A3 := mk_ A3
 by_cases c4 : t126 = 0
 rotate_left
 ·
  rw [if_neg c4] at H
  have c4b0 : (t126 == 0) = false := beq_eq_false_iff_ne.mpr c4
  have c4b1 : (t126 != 0) = true := bne_iff_ne.mpr c4
  simp only [Option.some.injEq, Prod.mk.injEq] at H
  obtain ⟨rfl, rfl, rfl, rfl, rfl⟩ := H
  go_enter Try.func94, Try.ntmps94
  go_wp2_with (first | ((with_reducible refine gate_dst (N := 4) rfl ?_); refine box_event ?hg (N := 4) ?hd (cs := #[.int .i64 0, .int .i64 0, .string (⟨#[]⟩ : ByteArray)]) (t := 84) ?hr ?_; (case hd => rfl); (case hg => rfl); (case hr => first | (go_simp; done) | (go_simp; rfl)); intro gb123 hg w60 hbox hb; have n0_ := mk_ (below_step (Short.hB HB) hb); have n1_ := mk_ (hbox); have n2_ := mk_ ((by rw [hg]; exact (below_size (Short.hB HB)) : w.heap.size ≤ gb123)); have n3_ := mk_ ((by rw [hg]; exact (below_size (Short.hB HB)) : w.heap.size ≤ gb123)); clear HB; revert n0_ n1_ n2_ n3_; intro HB BK123 GW123 GE123; clear hb hbox hg) | ((with_reducible refine gate_callee (f := 92) rfl ?_); refine Short.gL (some 11) Try.func92 #[.slice A0 l0.length c0, .int .i64 a1, .int .i64 1] (h := ?_); (with_reducible refine (wire_Get.calls k _ _ l0 a1 1 t124 t125 t126 _ ?side1 ?side2 A3.out).mono ?_); (case side1 => exact cX_ (C_below HR0.out HB.out)); (case side2 => exact HC0.out); rintro e w' ⟨rfl, ⟨nd, rfl⟩⟩; refine ⟨_, rfl, ?_⟩; (try (rw [drewN_self w60]; generalize hq_ : World.drewN w60 _ = w60; have n0_ : Aside0 (w60.heap[gb123]? = some (.cells #[.int .i64 0, .int .i64 0, .string (⟨#[]⟩ : ByteArray)] 84 (0, 0))) := ⟨by rw [← hq_]; exact (Short.bK BK123)⟩; have n1_ : Aside0 (Below w.heap.size w w60) := ⟨by rw [← hq_]; exact (Short.hB HB)⟩; clear BK123 HB hq_; revert n0_ n1_; intro BK123 HB)); obtain ⟨hcz_0, hcz_1, hcz_2, hfz_0, hfz_1, hfz_2⟩ := Short.c3 BK123.out))
  refine bodyPost_ret (results_ctt rfl _ _ gb123 84 #[.int .i64 0, .int .i64 0, .string (⟨#[]⟩ : ByteArray)] (0, 0) _ rfl (by (with_reducible repeat (first | refine blk_drewN ?_ _ | refine blk_drew ?_ | refine blk_alloc ?_ _)); refine blk_put (cs := #[.int .i64 0, .int .i64 0, .string (⟨#[]⟩ : ByteArray)]) ?_ 2 _ rfl; (with_reducible repeat (first | refine blk_drewN ?_ _ | refine blk_drew ?_ | refine blk_alloc ?_ _)); refine blk_put (cs := #[.int .i64 0, .int .i64 0, .string (⟨#[]⟩ : ByteArray)]) ?_ 1 _ rfl; (with_reducible repeat (first | refine blk_drewN ?_ _ | refine blk_drew ?_ | refine blk_alloc ?_ _)); refine blk_put (cs := #[.int .i64 0, .int .i64 0, .string (⟨#[]⟩ : ByteArray)]) ?_ 0 _ rfl; (with_reducible repeat (first | refine blk_drewN ?_ _ | refine blk_drew ?_ | refine blk_alloc ?_ _)); exact BK123.out) Try.underlying84 rfl z0_) rfl ?_
  exact ⟨q0, Short.hB HB⟩
 rw [if_pos c4] at H
 have c4b0 : (t126 == 0) = true := beq_iff_eq.mpr c4
 have c4b1 : (t126 != 0) = false := bne_eq_false_iff_eq.mpr c4
 clear c4
 by_cases c5 : t124 = 2
 ·
  rw [if_pos c5] at H
  have c5b0 : (t124 == 2) = true := beq_iff_eq.mpr c5
  have c5b1 : (t124 != 2) = false := bne_eq_false_iff_eq.mpr c5
  clear c5
  obtain ⟨⟨t127, t128, t129⟩, A6, H⟩ := Option.bind_eq_some_iff.mp H
  try dsimp only at H
  replace A6 := mk_ A6
  by_cases c7 : t129 = 0
  rotate_left
  ·
   rw [if_neg c7] at H
   have c7b0 : (t129 == 0) = false := beq_eq_false_iff_ne.mpr c7
   have c7b1 : (t129 != 0) = true := bne_iff_ne.mpr c7
   simp only [Option.some.injEq, Prod.mk.injEq] at H
   obtain ⟨rfl, rfl, rfl, rfl, rfl⟩ := H
   go_enter Try.func94, Try.ntmps94
   go_wp2_with (first | ((with_reducible refine gate_dst (N := 4) rfl ?_); refine box_event ?hg (N := 4) ?hd (cs := #[.int .i64 0, .int .i64 0, .string (⟨#[]⟩ : ByteArray)]) (t := 84) ?hr ?_; (case hd => rfl); (case hg => rfl); (case hr => first | (go_simp; done) | (go_simp; rfl)); intro gb123 hg w18 hbox hb; have n0_ := mk_ (below_step (Short.hB HB) hb); have n1_ := mk_ (hbox); have n2_ := mk_ ((by rw [hg]; exact (below_size (Short.hB HB)) : w.heap.size ≤ gb123)); have n3_ := mk_ ((by rw [hg]; exact (below_size (Short.hB HB)) : w.heap.size ≤ gb123)); clear HB; revert n0_ n1_ n2_ n3_; intro HB BK123 GW123 GE123; clear hb hbox hg) | ((with_reducible refine gate_callee (f := 92) rfl ?_); refine Short.gL (some 11) Try.func92 #[.slice A0 l0.length c0, .int .i64 a1, .int .i64 1] (h := ?_); (with_reducible refine (wire_Get.calls k _ _ l0 a1 1 t124 t125 t126 _ ?side1 ?side2 A3.out).mono ?_); (case side1 => exact cX_ (C_below HR0.out HB.out)); (case side2 => exact HC0.out); rintro e w' ⟨rfl, ⟨nd, rfl⟩⟩; refine ⟨_, rfl, ?_⟩; (try (rw [drewN_self w18]; generalize hq_ : World.drewN w18 _ = w18; have n0_ : Aside0 (w18.heap[gb123]? = some (.cells #[.int .i64 0, .int .i64 0, .string (⟨#[]⟩ : ByteArray)] 84 (0, 0))) := ⟨by rw [← hq_]; exact (Short.bK BK123)⟩; have n1_ : Aside0 (Below w.heap.size w w18) := ⟨by rw [← hq_]; exact (Short.hB HB)⟩; clear BK123 HB hq_; revert n0_ n1_; intro BK123 HB)); obtain ⟨hcz_0, hcz_1, hcz_2, hfz_0, hfz_1, hfz_2⟩ := Short.c3 BK123.out) | ((with_reducible refine gate_callee (f := 92) rfl ?_); refine Short.gL (some 27) Try.func92 #[.slice A0 l0.length c0, .int .i64 t125, .int .i64 1] (h := ?_); (with_reducible refine (wire_Get.calls k _ _ l0 t125 1 t127 t128 t129 _ ?side1 ?side2 A6.out).mono ?_); (case side1 => exact C_below HR0.out (Short.hB HB)); (case side2 => exact HC0.out); rintro e w' ⟨rfl, ⟨nd, rfl⟩⟩; refine ⟨_, rfl, ?_⟩))
   refine bodyPost_ret (results_ctt rfl _ _ gb123 84 #[.int .i64 0, .int .i64 0, .string (⟨#[]⟩ : ByteArray)] (0, 0) _ rfl (by (with_reducible repeat (first | refine blk_drewN ?_ _ | refine blk_drew ?_ | refine blk_alloc ?_ _)); refine blk_put (cs := #[.int .i64 0, .int .i64 0, .string (⟨#[]⟩ : ByteArray)]) ?_ 2 _ rfl; (with_reducible repeat (first | refine blk_drewN ?_ _ | refine blk_drew ?_ | refine blk_alloc ?_ _)); refine blk_put (cs := #[.int .i64 0, .int .i64 t127, .string (⟨#[]⟩ : ByteArray)]) ?_ 1 _ rfl; (with_reducible repeat (first | refine blk_drewN ?_ _ | refine blk_drew ?_ | refine blk_alloc ?_ _)); refine blk_put (cs := #[.int .i64 t124, .int .i64 t127, .string (⟨#[]⟩ : ByteArray)]) ?_ 0 _ rfl; (with_reducible repeat (first | refine blk_drewN ?_ _ | refine blk_drew ?_ | refine blk_alloc ?_ _)); refine blk_put (cs := #[.int .i64 t124, .int .i64 0, .string (⟨#[]⟩ : ByteArray)]) ?_ 1 _ rfl; (with_reducible repeat (first | refine blk_drewN ?_ _ | refine blk_drew ?_ | refine blk_alloc ?_ _)); refine blk_put (cs := #[.int .i64 0, .int .i64 0, .string (⟨#[]⟩ : ByteArray)]) ?_ 0 _ rfl; (with_reducible repeat (first | refine blk_drewN ?_ _ | refine blk_drew ?_ | refine blk_alloc ?_ _)); exact BK123.out) Try.underlying84 rfl z0_) rfl ?_
   exact ⟨q0, Short.hB HB⟩
  rw [if_pos c7] at H
  have c7b0 : (t129 == 0) = true := beq_iff_eq.mpr c7
  have c7b1 : (t129 != 0) = false := bne_eq_false_iff_eq.mpr c7
  clear c7
  obtain ⟨t130, A8, H⟩ := Option.bind_eq_some_iff.mp H
  replace A8 := mk_ A8
  by_cases c9 : t130 = 0
  rotate_left
  ·
   rw [if_neg c9] at H
   have c9b0 : (t130 == 0) = false := beq_eq_false_iff_ne.mpr c9
   have c9b1 : (t130 != 0) = true := bne_iff_ne.mpr c9
   simp only [Option.some.injEq, Prod.mk.injEq] at H
   obtain ⟨rfl, rfl, rfl, rfl, rfl⟩ := H
   go_enter Try.func94, Try.ntmps94
   go_wp2_with (first | ((with_reducible refine gate_dst (N := 4) rfl ?_); refine box_event ?hg (N := 4) ?hd (cs := #[.int .i64 0, .int .i64 0, .string (⟨#[]⟩ : ByteArray)]) (t := 84) ?hr ?_; (case hd => rfl); (case hg => rfl); (case hr => first | (go_simp; done) | (go_simp; rfl)); intro gb123 hg w14 hbox hb; have n0_ := mk_ (below_step (Short.hB HB) hb); have n1_ := mk_ (hbox); have n2_ := mk_ ((by rw [hg]; exact (below_size (Short.hB HB)) : w.heap.size ≤ gb123)); have n3_ := mk_ ((by rw [hg]; exact (below_size (Short.hB HB)) : w.heap.size ≤ gb123)); clear HB; revert n0_ n1_ n2_ n3_; intro HB BK123 GW123 GE123; clear hb hbox hg) | ((with_reducible refine gate_callee (f := 92) rfl ?_); refine Short.gL (some 11) Try.func92 #[.slice A0 l0.length c0, .int .i64 a1, .int .i64 1] (h := ?_); (with_reducible refine (wire_Get.calls k _ _ l0 a1 1 t124 t125 t126 _ ?side1 ?side2 A3.out).mono ?_); (case side1 => exact cX_ (C_below HR0.out HB.out)); (case side2 => exact HC0.out); rintro e w' ⟨rfl, ⟨nd, rfl⟩⟩; refine ⟨_, rfl, ?_⟩; (try (rw [drewN_self w14]; generalize hq_ : World.drewN w14 _ = w14; have n0_ : Aside0 (w14.heap[gb123]? = some (.cells #[.int .i64 0, .int .i64 0, .string (⟨#[]⟩ : ByteArray)] 84 (0, 0))) := ⟨by rw [← hq_]; exact (Short.bK BK123)⟩; have n1_ : Aside0 (Below w.heap.size w w14) := ⟨by rw [← hq_]; exact (Short.hB HB)⟩; clear BK123 HB hq_; revert n0_ n1_; intro BK123 HB)); obtain ⟨hcz_0, hcz_1, hcz_2, hfz_0, hfz_1, hfz_2⟩ := Short.c3 BK123.out) | ((with_reducible refine gate_callee (f := 92) rfl ?_); refine Short.gL (some 27) Try.func92 #[.slice A0 l0.length c0, .int .i64 t125, .int .i64 1] (h := ?_); (with_reducible refine (wire_Get.calls k _ _ l0 t125 1 t127 t128 t129 _ ?side1 ?side2 A6.out).mono ?_); (case side1 => exact C_below HR0.out (Short.hB HB)); (case side2 => exact HC0.out); rintro e w' ⟨rfl, ⟨nd, rfl⟩⟩; refine ⟨_, rfl, ?_⟩) | (go_at_call 87; (with_reducible refine (value_Check.calls t124 t127 (⟨#[]⟩ : ByteArray) t130 _ A8.out).mono ?_); rintro e w16 ⟨rfl, hb⟩; have n0_ := mk_ (blk_below (g := gb123) (o := .cells #[.int .i64 t124, .int .i64 t127, .string (⟨#[]⟩ : ByteArray)] 84 (0, 0)) (by (with_reducible repeat (first | refine blk_drewN ?_ _ | refine blk_drew ?_ | refine blk_alloc ?_ _)); refine blk_put (cs := #[.int .i64 t124, .int .i64 0, .string (⟨#[]⟩ : ByteArray)]) ?_ 1 _ rfl; (with_reducible repeat (first | refine blk_drewN ?_ _ | refine blk_drew ?_ | refine blk_alloc ?_ _)); refine blk_put (cs := #[.int .i64 0, .int .i64 0, .string (⟨#[]⟩ : ByteArray)]) ?_ 0 _ rfl; (with_reducible repeat (first | refine blk_drewN ?_ _ | refine blk_drew ?_ | refine blk_alloc ?_ _)); exact BK123.out) hb); have n1_ := mk_ (below_step (Short.hB HB) hb); clear BK123 HB; revert n0_ n1_; intro BK123 HB; (try clear hb); (try clear hb2); (try clear hk); (try clear hi); obtain ⟨hcz_0, hcz_1, hcz_2, hfz_0, hfz_1, hfz_2⟩ := Short.c3 BK123.out))
   refine bodyPost_ret (results_ctt rfl _ _ gb123 84 #[.int .i64 0, .int .i64 0, .string (⟨#[]⟩ : ByteArray)] (0, 0) _ rfl (by (with_reducible repeat (first | refine blk_drewN ?_ _ | refine blk_drew ?_ | refine blk_alloc ?_ _)); refine blk_put (cs := #[.int .i64 0, .int .i64 0, .string (⟨#[]⟩ : ByteArray)]) ?_ 2 _ rfl; (with_reducible repeat (first | refine blk_drewN ?_ _ | refine blk_drew ?_ | refine blk_alloc ?_ _)); refine blk_put (cs := #[.int .i64 0, .int .i64 t127, .string (⟨#[]⟩ : ByteArray)]) ?_ 1 _ rfl; (with_reducible repeat (first | refine blk_drewN ?_ _ | refine blk_drew ?_ | refine blk_alloc ?_ _)); refine blk_put (cs := #[.int .i64 t124, .int .i64 t127, .string (⟨#[]⟩ : ByteArray)]) ?_ 0 _ rfl; (with_reducible repeat (first | refine blk_drewN ?_ _ | refine blk_drew ?_ | refine blk_alloc ?_ _)); exact BK123.out) Try.underlying84 rfl z0_) rfl ?_
   exact ⟨q0, Short.hB HB⟩
  rw [if_pos c9] at H
  have c9b0 : (t130 == 0) = true := beq_iff_eq.mpr c9
  have c9b1 : (t130 != 0) = false := bne_eq_false_iff_eq.mpr c9
  clear c9
  simp only [Option.some.injEq, Prod.mk.injEq] at H
  obtain ⟨rfl, rfl, rfl, rfl, rfl⟩ := H
  go_enter Try.func94, Try.ntmps94
  go_wp2_with (first | ((with_reducible refine gate_dst (N := 4) rfl ?_); refine box_event ?hg (N := 4) ?hd (cs := #[.int .i64 0, .int .i64 0, .string (⟨#[]⟩ : ByteArray)]) (t := 84) ?hr ?_; (case hd => rfl); (case hg => rfl); (case hr => first | (go_simp; done) | (go_simp; rfl)); intro gb123 hg w10 hbox hb; have n0_ := mk_ (below_step (Short.hB HB) hb); have n1_ := mk_ (hbox); have n2_ := mk_ ((by rw [hg]; exact (below_size (Short.hB HB)) : w.heap.size ≤ gb123)); have n3_ := mk_ ((by rw [hg]; exact (below_size (Short.hB HB)) : w.heap.size ≤ gb123)); clear HB; revert n0_ n1_ n2_ n3_; intro HB BK123 GW123 GE123; clear hb hbox hg) | ((with_reducible refine gate_callee (f := 92) rfl ?_); refine Short.gL (some 11) Try.func92 #[.slice A0 l0.length c0, .int .i64 a1, .int .i64 1] (h := ?_); (with_reducible refine (wire_Get.calls k _ _ l0 a1 1 t124 t125 t126 _ ?side1 ?side2 A3.out).mono ?_); (case side1 => exact cX_ (C_below HR0.out HB.out)); (case side2 => exact HC0.out); rintro e w' ⟨rfl, ⟨nd, rfl⟩⟩; refine ⟨_, rfl, ?_⟩; (try (rw [drewN_self w10]; generalize hq_ : World.drewN w10 _ = w10; have n0_ : Aside0 (w10.heap[gb123]? = some (.cells #[.int .i64 0, .int .i64 0, .string (⟨#[]⟩ : ByteArray)] 84 (0, 0))) := ⟨by rw [← hq_]; exact (Short.bK BK123)⟩; have n1_ : Aside0 (Below w.heap.size w w10) := ⟨by rw [← hq_]; exact (Short.hB HB)⟩; clear BK123 HB hq_; revert n0_ n1_; intro BK123 HB)); obtain ⟨hcz_0, hcz_1, hcz_2, hfz_0, hfz_1, hfz_2⟩ := Short.c3 BK123.out) | ((with_reducible refine gate_callee (f := 92) rfl ?_); refine Short.gL (some 27) Try.func92 #[.slice A0 l0.length c0, .int .i64 t125, .int .i64 1] (h := ?_); (with_reducible refine (wire_Get.calls k _ _ l0 t125 1 t127 t128 t129 _ ?side1 ?side2 A6.out).mono ?_); (case side1 => exact C_below HR0.out (Short.hB HB)); (case side2 => exact HC0.out); rintro e w' ⟨rfl, ⟨nd, rfl⟩⟩; refine ⟨_, rfl, ?_⟩) | (go_at_call 87; (with_reducible refine (value_Check.calls t124 t127 (⟨#[]⟩ : ByteArray) t130 _ A8.out).mono ?_); rintro e w12 ⟨rfl, hb⟩; have n0_ := mk_ (blk_below (g := gb123) (o := .cells #[.int .i64 t124, .int .i64 t127, .string (⟨#[]⟩ : ByteArray)] 84 (0, 0)) (by (with_reducible repeat (first | refine blk_drewN ?_ _ | refine blk_drew ?_ | refine blk_alloc ?_ _)); refine blk_put (cs := #[.int .i64 t124, .int .i64 0, .string (⟨#[]⟩ : ByteArray)]) ?_ 1 _ rfl; (with_reducible repeat (first | refine blk_drewN ?_ _ | refine blk_drew ?_ | refine blk_alloc ?_ _)); refine blk_put (cs := #[.int .i64 0, .int .i64 0, .string (⟨#[]⟩ : ByteArray)]) ?_ 0 _ rfl; (with_reducible repeat (first | refine blk_drewN ?_ _ | refine blk_drew ?_ | refine blk_alloc ?_ _)); exact BK123.out) hb); have n1_ := mk_ (below_step (Short.hB HB) hb); clear BK123 HB; revert n0_ n1_; intro BK123 HB; (try clear hb); (try clear hb2); (try clear hk); (try clear hi); obtain ⟨hcz_0, hcz_1, hcz_2, hfz_0, hfz_1, hfz_2⟩ := Short.c3 BK123.out))
  refine bodyPost_ret (results_ctt rfl _ _ gb123 84 #[.int .i64 t124, .int .i64 t127, .string (⟨#[]⟩ : ByteArray)] (0, 0) _ rfl (by (with_reducible repeat (first | refine blk_drewN ?_ _ | refine blk_drew ?_ | refine blk_alloc ?_ _)); refine blk_put (cs := #[.int .i64 t124, .int .i64 t127, .string (⟨#[]⟩ : ByteArray)]) ?_ 2 _ rfl; (with_reducible repeat (first | refine blk_drewN ?_ _ | refine blk_drew ?_ | refine blk_alloc ?_ _)); refine blk_put (cs := #[.int .i64 t124, .int .i64 t127, .string (⟨#[]⟩ : ByteArray)]) ?_ 1 _ rfl; (with_reducible repeat (first | refine blk_drewN ?_ _ | refine blk_drew ?_ | refine blk_alloc ?_ _)); refine blk_put (cs := #[.int .i64 t124, .int .i64 t127, .string (⟨#[]⟩ : ByteArray)]) ?_ 0 _ rfl; (with_reducible repeat (first | refine blk_drewN ?_ _ | refine blk_drew ?_ | refine blk_alloc ?_ _)); exact BK123.out) Try.underlying84 rfl z0_) rfl ?_
  exact ⟨q0, Short.hB HB⟩
 rw [if_neg c5] at H
 have c5b0 : (t124 == 2) = false := beq_eq_false_iff_ne.mpr c5
 have c5b1 : (t124 != 2) = true := bne_iff_ne.mpr c5
 by_cases c20 : t124 = 3
 ·
  rw [if_pos c20] at H
  have c20b0 : (t124 == 3) = true := beq_iff_eq.mpr c20
  have c20b1 : (t124 != 3) = false := bne_eq_false_iff_eq.mpr c20
  clear c20
  obtain ⟨⟨t131, t132, t133⟩, A21, H⟩ := Option.bind_eq_some_iff.mp H
  try dsimp only at H
  replace A21 := mk_ A21
  by_cases c22 : t133 = 0
  rotate_left
  ·
   rw [if_neg c22] at H
   have c22b0 : (t133 == 0) = false := beq_eq_false_iff_ne.mpr c22
   have c22b1 : (t133 != 0) = true := bne_iff_ne.mpr c22
   simp only [Option.some.injEq, Prod.mk.injEq] at H
   obtain ⟨rfl, rfl, rfl, rfl, rfl⟩ := H
   go_enter Try.func94, Try.ntmps94
   go_wp2_with (first | ((with_reducible refine gate_dst (N := 4) rfl ?_); refine box_event ?hg (N := 4) ?hd (cs := #[.int .i64 0, .int .i64 0, .string (⟨#[]⟩ : ByteArray)]) (t := 84) ?hr ?_; (case hd => rfl); (case hg => rfl); (case hr => first | (go_simp; done) | (go_simp; rfl)); intro gb123 hg w33 hbox hb; have n0_ := mk_ (below_step (Short.hB HB) hb); have n1_ := mk_ (hbox); have n2_ := mk_ ((by rw [hg]; exact (below_size (Short.hB HB)) : w.heap.size ≤ gb123)); have n3_ := mk_ ((by rw [hg]; exact (below_size (Short.hB HB)) : w.heap.size ≤ gb123)); clear HB; revert n0_ n1_ n2_ n3_; intro HB BK123 GW123 GE123; clear hb hbox hg) | ((with_reducible refine gate_callee (f := 92) rfl ?_); refine Short.gL (some 11) Try.func92 #[.slice A0 l0.length c0, .int .i64 a1, .int .i64 1] (h := ?_); (with_reducible refine (wire_Get.calls k _ _ l0 a1 1 t124 t125 t126 _ ?side1 ?side2 A3.out).mono ?_); (case side1 => exact cX_ (C_below HR0.out HB.out)); (case side2 => exact HC0.out); rintro e w' ⟨rfl, ⟨nd, rfl⟩⟩; refine ⟨_, rfl, ?_⟩; (try (rw [drewN_self w33]; generalize hq_ : World.drewN w33 _ = w33; have n0_ : Aside0 (w33.heap[gb123]? = some (.cells #[.int .i64 0, .int .i64 0, .string (⟨#[]⟩ : ByteArray)] 84 (0, 0))) := ⟨by rw [← hq_]; exact (Short.bK BK123)⟩; have n1_ : Aside0 (Below w.heap.size w w33) := ⟨by rw [← hq_]; exact (Short.hB HB)⟩; clear BK123 HB hq_; revert n0_ n1_; intro BK123 HB)); obtain ⟨hcz_0, hcz_1, hcz_2, hfz_0, hfz_1, hfz_2⟩ := Short.c3 BK123.out) | ((with_reducible refine gate_callee (f := 111) rfl ?_); refine Short.gL (some 37) Try.func111 #[.slice A0 l0.length c0, .int .i64 t125] (h := ?_); (with_reducible refine (wire_GetInt.calls k _ _ l0 t125 t131 t132 t133 _ ?side1 ?side2 A21.out).mono ?_); (case side1 => exact C_below HR0.out (Short.hB HB)); (case side2 => exact HC0.out); rintro e w' ⟨rfl, ⟨nd, rfl⟩⟩; refine ⟨_, rfl, ?_⟩))
   refine bodyPost_ret (results_ctt rfl _ _ gb123 84 #[.int .i64 0, .int .i64 0, .string (⟨#[]⟩ : ByteArray)] (0, 0) _ rfl (by (with_reducible repeat (first | refine blk_drewN ?_ _ | refine blk_drew ?_ | refine blk_alloc ?_ _)); refine blk_put (cs := #[.int .i64 0, .int .i64 0, .string (⟨#[]⟩ : ByteArray)]) ?_ 2 _ rfl; (with_reducible repeat (first | refine blk_drewN ?_ _ | refine blk_drew ?_ | refine blk_alloc ?_ _)); refine blk_put (cs := #[.int .i64 0, .int .i64 t131, .string (⟨#[]⟩ : ByteArray)]) ?_ 1 _ rfl; (with_reducible repeat (first | refine blk_drewN ?_ _ | refine blk_drew ?_ | refine blk_alloc ?_ _)); refine blk_put (cs := #[.int .i64 t124, .int .i64 t131, .string (⟨#[]⟩ : ByteArray)]) ?_ 0 _ rfl; (with_reducible repeat (first | refine blk_drewN ?_ _ | refine blk_drew ?_ | refine blk_alloc ?_ _)); refine blk_put (cs := #[.int .i64 t124, .int .i64 0, .string (⟨#[]⟩ : ByteArray)]) ?_ 1 _ rfl; (with_reducible repeat (first | refine blk_drewN ?_ _ | refine blk_drew ?_ | refine blk_alloc ?_ _)); refine blk_put (cs := #[.int .i64 0, .int .i64 0, .string (⟨#[]⟩ : ByteArray)]) ?_ 0 _ rfl; (with_reducible repeat (first | refine blk_drewN ?_ _ | refine blk_drew ?_ | refine blk_alloc ?_ _)); exact BK123.out) Try.underlying84 rfl z0_) rfl ?_
   exact ⟨q0, Short.hB HB⟩
  rw [if_pos c22] at H
  have c22b0 : (t133 == 0) = true := beq_iff_eq.mpr c22
  have c22b1 : (t133 != 0) = false := bne_eq_false_iff_eq.mpr c22
  clear c22
  obtain ⟨t134, A23, H⟩ := Option.bind_eq_some_iff.mp H
  replace A23 := mk_ A23
  by_cases c24 : t134 = 0
  rotate_left
  ·
   rw [if_neg c24] at H
   have c24b0 : (t134 == 0) = false := beq_eq_false_iff_ne.mpr c24
   have c24b1 : (t134 != 0) = true := bne_iff_ne.mpr c24
   simp only [Option.some.injEq, Prod.mk.injEq] at H
   obtain ⟨rfl, rfl, rfl, rfl, rfl⟩ := H
   go_enter Try.func94, Try.ntmps94
   go_wp2_with (first | ((with_reducible refine gate_dst (N := 4) rfl ?_); refine box_event ?hg (N := 4) ?hd (cs := #[.int .i64 0, .int .i64 0, .string (⟨#[]⟩ : ByteArray)]) (t := 84) ?hr ?_; (case hd => rfl); (case hg => rfl); (case hr => first | (go_simp; done) | (go_simp; rfl)); intro gb123 hg w29 hbox hb; have n0_ := mk_ (below_step (Short.hB HB) hb); have n1_ := mk_ (hbox); have n2_ := mk_ ((by rw [hg]; exact (below_size (Short.hB HB)) : w.heap.size ≤ gb123)); have n3_ := mk_ ((by rw [hg]; exact (below_size (Short.hB HB)) : w.heap.size ≤ gb123)); clear HB; revert n0_ n1_ n2_ n3_; intro HB BK123 GW123 GE123; clear hb hbox hg) | ((with_reducible refine gate_callee (f := 92) rfl ?_); refine Short.gL (some 11) Try.func92 #[.slice A0 l0.length c0, .int .i64 a1, .int .i64 1] (h := ?_); (with_reducible refine (wire_Get.calls k _ _ l0 a1 1 t124 t125 t126 _ ?side1 ?side2 A3.out).mono ?_); (case side1 => exact cX_ (C_below HR0.out HB.out)); (case side2 => exact HC0.out); rintro e w' ⟨rfl, ⟨nd, rfl⟩⟩; refine ⟨_, rfl, ?_⟩; (try (rw [drewN_self w29]; generalize hq_ : World.drewN w29 _ = w29; have n0_ : Aside0 (w29.heap[gb123]? = some (.cells #[.int .i64 0, .int .i64 0, .string (⟨#[]⟩ : ByteArray)] 84 (0, 0))) := ⟨by rw [← hq_]; exact (Short.bK BK123)⟩; have n1_ : Aside0 (Below w.heap.size w w29) := ⟨by rw [← hq_]; exact (Short.hB HB)⟩; clear BK123 HB hq_; revert n0_ n1_; intro BK123 HB)); obtain ⟨hcz_0, hcz_1, hcz_2, hfz_0, hfz_1, hfz_2⟩ := Short.c3 BK123.out) | ((with_reducible refine gate_callee (f := 111) rfl ?_); refine Short.gL (some 37) Try.func111 #[.slice A0 l0.length c0, .int .i64 t125] (h := ?_); (with_reducible refine (wire_GetInt.calls k _ _ l0 t125 t131 t132 t133 _ ?side1 ?side2 A21.out).mono ?_); (case side1 => exact C_below HR0.out (Short.hB HB)); (case side2 => exact HC0.out); rintro e w' ⟨rfl, ⟨nd, rfl⟩⟩; refine ⟨_, rfl, ?_⟩) | (go_at_call 87; (with_reducible refine (value_Check.calls t124 t131 (⟨#[]⟩ : ByteArray) t134 _ A23.out).mono ?_); rintro e w31 ⟨rfl, hb⟩; have n0_ := mk_ (blk_below (g := gb123) (o := .cells #[.int .i64 t124, .int .i64 t131, .string (⟨#[]⟩ : ByteArray)] 84 (0, 0)) (by (with_reducible repeat (first | refine blk_drewN ?_ _ | refine blk_drew ?_ | refine blk_alloc ?_ _)); refine blk_put (cs := #[.int .i64 t124, .int .i64 0, .string (⟨#[]⟩ : ByteArray)]) ?_ 1 _ rfl; (with_reducible repeat (first | refine blk_drewN ?_ _ | refine blk_drew ?_ | refine blk_alloc ?_ _)); refine blk_put (cs := #[.int .i64 0, .int .i64 0, .string (⟨#[]⟩ : ByteArray)]) ?_ 0 _ rfl; (with_reducible repeat (first | refine blk_drewN ?_ _ | refine blk_drew ?_ | refine blk_alloc ?_ _)); exact BK123.out) hb); have n1_ := mk_ (below_step (Short.hB HB) hb); clear BK123 HB; revert n0_ n1_; intro BK123 HB; (try clear hb); (try clear hb2); (try clear hk); (try clear hi); obtain ⟨hcz_0, hcz_1, hcz_2, hfz_0, hfz_1, hfz_2⟩ := Short.c3 BK123.out))
   refine bodyPost_ret (results_ctt rfl _ _ gb123 84 #[.int .i64 0, .int .i64 0, .string (⟨#[]⟩ : ByteArray)] (0, 0) _ rfl (by (with_reducible repeat (first | refine blk_drewN ?_ _ | refine blk_drew ?_ | refine blk_alloc ?_ _)); refine blk_put (cs := #[.int .i64 0, .int .i64 0, .string (⟨#[]⟩ : ByteArray)]) ?_ 2 _ rfl; (with_reducible repeat (first | refine blk_drewN ?_ _ | refine blk_drew ?_ | refine blk_alloc ?_ _)); refine blk_put (cs := #[.int .i64 0, .int .i64 t131, .string (⟨#[]⟩ : ByteArray)]) ?_ 1 _ rfl; (with_reducible repeat (first | refine blk_drewN ?_ _ | refine blk_drew ?_ | refine blk_alloc ?_ _)); refine blk_put (cs := #[.int .i64 t124, .int .i64 t131, .string (⟨#[]⟩ : ByteArray)]) ?_ 0 _ rfl; (with_reducible repeat (first | refine blk_drewN ?_ _ | refine blk_drew ?_ | refine blk_alloc ?_ _)); exact BK123.out) Try.underlying84 rfl z0_) rfl ?_
   exact ⟨q0, Short.hB HB⟩
  rw [if_pos c24] at H
  have c24b0 : (t134 == 0) = true := beq_iff_eq.mpr c24
  have c24b1 : (t134 != 0) = false := bne_eq_false_iff_eq.mpr c24
  clear c24
  simp only [Option.some.injEq, Prod.mk.injEq] at H
  obtain ⟨rfl, rfl, rfl, rfl, rfl⟩ := H
  go_enter Try.func94, Try.ntmps94
  go_wp2_with (first | ((with_reducible refine gate_dst (N := 4) rfl ?_); refine box_event ?hg (N := 4) ?hd (cs := #[.int .i64 0, .int .i64 0, .string (⟨#[]⟩ : ByteArray)]) (t := 84) ?hr ?_; (case hd => rfl); (case hg => rfl); (case hr => first | (go_simp; done) | (go_simp; rfl)); intro gb123 hg w25 hbox hb; have n0_ := mk_ (below_step (Short.hB HB) hb); have n1_ := mk_ (hbox); have n2_ := mk_ ((by rw [hg]; exact (below_size (Short.hB HB)) : w.heap.size ≤ gb123)); have n3_ := mk_ ((by rw [hg]; exact (below_size (Short.hB HB)) : w.heap.size ≤ gb123)); clear HB; revert n0_ n1_ n2_ n3_; intro HB BK123 GW123 GE123; clear hb hbox hg) | ((with_reducible refine gate_callee (f := 92) rfl ?_); refine Short.gL (some 11) Try.func92 #[.slice A0 l0.length c0, .int .i64 a1, .int .i64 1] (h := ?_); (with_reducible refine (wire_Get.calls k _ _ l0 a1 1 t124 t125 t126 _ ?side1 ?side2 A3.out).mono ?_); (case side1 => exact cX_ (C_below HR0.out HB.out)); (case side2 => exact HC0.out); rintro e w' ⟨rfl, ⟨nd, rfl⟩⟩; refine ⟨_, rfl, ?_⟩; (try (rw [drewN_self w25]; generalize hq_ : World.drewN w25 _ = w25; have n0_ : Aside0 (w25.heap[gb123]? = some (.cells #[.int .i64 0, .int .i64 0, .string (⟨#[]⟩ : ByteArray)] 84 (0, 0))) := ⟨by rw [← hq_]; exact (Short.bK BK123)⟩; have n1_ : Aside0 (Below w.heap.size w w25) := ⟨by rw [← hq_]; exact (Short.hB HB)⟩; clear BK123 HB hq_; revert n0_ n1_; intro BK123 HB)); obtain ⟨hcz_0, hcz_1, hcz_2, hfz_0, hfz_1, hfz_2⟩ := Short.c3 BK123.out) | ((with_reducible refine gate_callee (f := 111) rfl ?_); refine Short.gL (some 37) Try.func111 #[.slice A0 l0.length c0, .int .i64 t125] (h := ?_); (with_reducible refine (wire_GetInt.calls k _ _ l0 t125 t131 t132 t133 _ ?side1 ?side2 A21.out).mono ?_); (case side1 => exact C_below HR0.out (Short.hB HB)); (case side2 => exact HC0.out); rintro e w' ⟨rfl, ⟨nd, rfl⟩⟩; refine ⟨_, rfl, ?_⟩) | (go_at_call 87; (with_reducible refine (value_Check.calls t124 t131 (⟨#[]⟩ : ByteArray) t134 _ A23.out).mono ?_); rintro e w27 ⟨rfl, hb⟩; have n0_ := mk_ (blk_below (g := gb123) (o := .cells #[.int .i64 t124, .int .i64 t131, .string (⟨#[]⟩ : ByteArray)] 84 (0, 0)) (by (with_reducible repeat (first | refine blk_drewN ?_ _ | refine blk_drew ?_ | refine blk_alloc ?_ _)); refine blk_put (cs := #[.int .i64 t124, .int .i64 0, .string (⟨#[]⟩ : ByteArray)]) ?_ 1 _ rfl; (with_reducible repeat (first | refine blk_drewN ?_ _ | refine blk_drew ?_ | refine blk_alloc ?_ _)); refine blk_put (cs := #[.int .i64 0, .int .i64 0, .string (⟨#[]⟩ : ByteArray)]) ?_ 0 _ rfl; (with_reducible repeat (first | refine blk_drewN ?_ _ | refine blk_drew ?_ | refine blk_alloc ?_ _)); exact BK123.out) hb); have n1_ := mk_ (below_step (Short.hB HB) hb); clear BK123 HB; revert n0_ n1_; intro BK123 HB; (try clear hb); (try clear hb2); (try clear hk); (try clear hi); obtain ⟨hcz_0, hcz_1, hcz_2, hfz_0, hfz_1, hfz_2⟩ := Short.c3 BK123.out))
  refine bodyPost_ret (results_ctt rfl _ _ gb123 84 #[.int .i64 t124, .int .i64 t131, .string (⟨#[]⟩ : ByteArray)] (0, 0) _ rfl (by (with_reducible repeat (first | refine blk_drewN ?_ _ | refine blk_drew ?_ | refine blk_alloc ?_ _)); refine blk_put (cs := #[.int .i64 t124, .int .i64 t131, .string (⟨#[]⟩ : ByteArray)]) ?_ 2 _ rfl; (with_reducible repeat (first | refine blk_drewN ?_ _ | refine blk_drew ?_ | refine blk_alloc ?_ _)); refine blk_put (cs := #[.int .i64 t124, .int .i64 t131, .string (⟨#[]⟩ : ByteArray)]) ?_ 1 _ rfl; (with_reducible repeat (first | refine blk_drewN ?_ _ | refine blk_drew ?_ | refine blk_alloc ?_ _)); refine blk_put (cs := #[.int .i64 t124, .int .i64 t131, .string (⟨#[]⟩ : ByteArray)]) ?_ 0 _ rfl; (with_reducible repeat (first | refine blk_drewN ?_ _ | refine blk_drew ?_ | refine blk_alloc ?_ _)); exact BK123.out) Try.underlying84 rfl z0_) rfl ?_
  exact ⟨q0, Short.hB HB⟩
 rw [if_neg c20] at H
 have c20b0 : (t124 == 3) = false := beq_eq_false_iff_ne.mpr c20
 have c20b1 : (t124 != 3) = true := bne_iff_ne.mpr c20
 by_cases c35 : t124 = 4
 rotate_left
 ·
  rw [if_neg c35] at H
  have c35b0 : (t124 == 4) = false := beq_eq_false_iff_ne.mpr c35
  have c35b1 : (t124 != 4) = true := bne_iff_ne.mpr c35
  obtain ⟨t139, A50, H⟩ := Option.bind_eq_some_iff.mp H
  replace A50 := mk_ A50
  by_cases c51 : t139 = 0
  rotate_left
  ·
   rw [if_neg c51] at H
   have c51b0 : (t139 == 0) = false := beq_eq_false_iff_ne.mpr c51
   have c51b1 : (t139 != 0) = true := bne_iff_ne.mpr c51
   simp only [Option.some.injEq, Prod.mk.injEq] at H
   obtain ⟨rfl, rfl, rfl, rfl, rfl⟩ := H
   go_enter Try.func94, Try.ntmps94
   go_wp2_with (first | ((with_reducible refine gate_dst (N := 4) rfl ?_); refine box_event ?hg (N := 4) ?hd (cs := #[.int .i64 0, .int .i64 0, .string (⟨#[]⟩ : ByteArray)]) (t := 84) ?hr ?_; (case hd => rfl); (case hg => rfl); (case hr => first | (go_simp; done) | (go_simp; rfl)); intro gb123 hg w56 hbox hb; have n0_ := mk_ (below_step (Short.hB HB) hb); have n1_ := mk_ (hbox); have n2_ := mk_ ((by rw [hg]; exact (below_size (Short.hB HB)) : w.heap.size ≤ gb123)); have n3_ := mk_ ((by rw [hg]; exact (below_size (Short.hB HB)) : w.heap.size ≤ gb123)); clear HB; revert n0_ n1_ n2_ n3_; intro HB BK123 GW123 GE123; clear hb hbox hg) | ((with_reducible refine gate_callee (f := 92) rfl ?_); refine Short.gL (some 11) Try.func92 #[.slice A0 l0.length c0, .int .i64 a1, .int .i64 1] (h := ?_); (with_reducible refine (wire_Get.calls k _ _ l0 a1 1 t124 t125 t126 _ ?side1 ?side2 A3.out).mono ?_); (case side1 => exact cX_ (C_below HR0.out HB.out)); (case side2 => exact HC0.out); rintro e w' ⟨rfl, ⟨nd, rfl⟩⟩; refine ⟨_, rfl, ?_⟩; (try (rw [drewN_self w56]; generalize hq_ : World.drewN w56 _ = w56; have n0_ : Aside0 (w56.heap[gb123]? = some (.cells #[.int .i64 0, .int .i64 0, .string (⟨#[]⟩ : ByteArray)] 84 (0, 0))) := ⟨by rw [← hq_]; exact (Short.bK BK123)⟩; have n1_ : Aside0 (Below w.heap.size w w56) := ⟨by rw [← hq_]; exact (Short.hB HB)⟩; clear BK123 HB hq_; revert n0_ n1_; intro BK123 HB)); obtain ⟨hcz_0, hcz_1, hcz_2, hfz_0, hfz_1, hfz_2⟩ := Short.c3 BK123.out) | (go_at_call 87; (with_reducible refine (value_Check.calls t124 0 (⟨#[]⟩ : ByteArray) t139 _ A50.out).mono ?_); rintro e w58 ⟨rfl, hb⟩; have n0_ := mk_ (blk_below (g := gb123) (o := .cells #[.int .i64 t124, .int .i64 0, .string (⟨#[]⟩ : ByteArray)] 84 (0, 0)) (by (with_reducible repeat (first | refine blk_drewN ?_ _ | refine blk_drew ?_ | refine blk_alloc ?_ _)); refine blk_put (cs := #[.int .i64 0, .int .i64 0, .string (⟨#[]⟩ : ByteArray)]) ?_ 0 _ rfl; (with_reducible repeat (first | refine blk_drewN ?_ _ | refine blk_drew ?_ | refine blk_alloc ?_ _)); exact BK123.out) hb); have n1_ := mk_ (below_step (Short.hB HB) hb); clear BK123 HB; revert n0_ n1_; intro BK123 HB; (try clear hb); (try clear hb2); (try clear hk); (try clear hi); obtain ⟨hcz_0, hcz_1, hcz_2, hfz_0, hfz_1, hfz_2⟩ := Short.c3 BK123.out))
   refine bodyPost_ret (results_ctt rfl _ _ gb123 84 #[.int .i64 0, .int .i64 0, .string (⟨#[]⟩ : ByteArray)] (0, 0) _ rfl (by (with_reducible repeat (first | refine blk_drewN ?_ _ | refine blk_drew ?_ | refine blk_alloc ?_ _)); refine blk_put (cs := #[.int .i64 0, .int .i64 0, .string (⟨#[]⟩ : ByteArray)]) ?_ 2 _ rfl; (with_reducible repeat (first | refine blk_drewN ?_ _ | refine blk_drew ?_ | refine blk_alloc ?_ _)); refine blk_put (cs := #[.int .i64 0, .int .i64 0, .string (⟨#[]⟩ : ByteArray)]) ?_ 1 _ rfl; (with_reducible repeat (first | refine blk_drewN ?_ _ | refine blk_drew ?_ | refine blk_alloc ?_ _)); refine blk_put (cs := #[.int .i64 t124, .int .i64 0, .string (⟨#[]⟩ : ByteArray)]) ?_ 0 _ rfl; (with_reducible repeat (first | refine blk_drewN ?_ _ | refine blk_drew ?_ | refine blk_alloc ?_ _)); exact BK123.out) Try.underlying84 rfl z0_) rfl ?_
   exact ⟨q0, Short.hB HB⟩
  rw [if_pos c51] at H
  have c51b0 : (t139 == 0) = true := beq_iff_eq.mpr c51
  have c51b1 : (t139 != 0) = false := bne_eq_false_iff_eq.mpr c51
  clear c51
  simp only [Option.some.injEq, Prod.mk.injEq] at H
  obtain ⟨rfl, rfl, rfl, rfl, rfl⟩ := H
  go_enter Try.func94, Try.ntmps94
  go_wp2_with (first | ((with_reducible refine gate_dst (N := 4) rfl ?_); refine box_event ?hg (N := 4) ?hd (cs := #[.int .i64 0, .int .i64 0, .string (⟨#[]⟩ : ByteArray)]) (t := 84) ?hr ?_; (case hd => rfl); (case hg => rfl); (case hr => first | (go_simp; done) | (go_simp; rfl)); intro gb123 hg w52 hbox hb; have n0_ := mk_ (below_step (Short.hB HB) hb); have n1_ := mk_ (hbox); have n2_ := mk_ ((by rw [hg]; exact (below_size (Short.hB HB)) : w.heap.size ≤ gb123)); have n3_ := mk_ ((by rw [hg]; exact (below_size (Short.hB HB)) : w.heap.size ≤ gb123)); clear HB; revert n0_ n1_ n2_ n3_; intro HB BK123 GW123 GE123; clear hb hbox hg) | ((with_reducible refine gate_callee (f := 92) rfl ?_); refine Short.gL (some 11) Try.func92 #[.slice A0 l0.length c0, .int .i64 a1, .int .i64 1] (h := ?_); (with_reducible refine (wire_Get.calls k _ _ l0 a1 1 t124 t125 t126 _ ?side1 ?side2 A3.out).mono ?_); (case side1 => exact cX_ (C_below HR0.out HB.out)); (case side2 => exact HC0.out); rintro e w' ⟨rfl, ⟨nd, rfl⟩⟩; refine ⟨_, rfl, ?_⟩; (try (rw [drewN_self w52]; generalize hq_ : World.drewN w52 _ = w52; have n0_ : Aside0 (w52.heap[gb123]? = some (.cells #[.int .i64 0, .int .i64 0, .string (⟨#[]⟩ : ByteArray)] 84 (0, 0))) := ⟨by rw [← hq_]; exact (Short.bK BK123)⟩; have n1_ : Aside0 (Below w.heap.size w w52) := ⟨by rw [← hq_]; exact (Short.hB HB)⟩; clear BK123 HB hq_; revert n0_ n1_; intro BK123 HB)); obtain ⟨hcz_0, hcz_1, hcz_2, hfz_0, hfz_1, hfz_2⟩ := Short.c3 BK123.out) | (go_at_call 87; (with_reducible refine (value_Check.calls t124 0 (⟨#[]⟩ : ByteArray) t139 _ A50.out).mono ?_); rintro e w54 ⟨rfl, hb⟩; have n0_ := mk_ (blk_below (g := gb123) (o := .cells #[.int .i64 t124, .int .i64 0, .string (⟨#[]⟩ : ByteArray)] 84 (0, 0)) (by (with_reducible repeat (first | refine blk_drewN ?_ _ | refine blk_drew ?_ | refine blk_alloc ?_ _)); refine blk_put (cs := #[.int .i64 0, .int .i64 0, .string (⟨#[]⟩ : ByteArray)]) ?_ 0 _ rfl; (with_reducible repeat (first | refine blk_drewN ?_ _ | refine blk_drew ?_ | refine blk_alloc ?_ _)); exact BK123.out) hb); have n1_ := mk_ (below_step (Short.hB HB) hb); clear BK123 HB; revert n0_ n1_; intro BK123 HB; (try clear hb); (try clear hb2); (try clear hk); (try clear hi); obtain ⟨hcz_0, hcz_1, hcz_2, hfz_0, hfz_1, hfz_2⟩ := Short.c3 BK123.out))
  refine bodyPost_ret (results_ctt rfl _ _ gb123 84 #[.int .i64 t124, .int .i64 0, .string (⟨#[]⟩ : ByteArray)] (0, 0) _ rfl (by (with_reducible repeat (first | refine blk_drewN ?_ _ | refine blk_drew ?_ | refine blk_alloc ?_ _)); refine blk_put (cs := #[.int .i64 t124, .int .i64 0, .string (⟨#[]⟩ : ByteArray)]) ?_ 2 _ rfl; (with_reducible repeat (first | refine blk_drewN ?_ _ | refine blk_drew ?_ | refine blk_alloc ?_ _)); refine blk_put (cs := #[.int .i64 t124, .int .i64 0, .string (⟨#[]⟩ : ByteArray)]) ?_ 1 _ rfl; (with_reducible repeat (first | refine blk_drewN ?_ _ | refine blk_drew ?_ | refine blk_alloc ?_ _)); refine blk_put (cs := #[.int .i64 t124, .int .i64 0, .string (⟨#[]⟩ : ByteArray)]) ?_ 0 _ rfl; (with_reducible repeat (first | refine blk_drewN ?_ _ | refine blk_drew ?_ | refine blk_alloc ?_ _)); exact BK123.out) Try.underlying84 rfl z0_) rfl ?_
  exact ⟨q0, Short.hB HB⟩
 rw [if_pos c35] at H
 have c35b0 : (t124 == 4) = true := beq_iff_eq.mpr c35
 have c35b1 : (t124 != 4) = false := bne_eq_false_iff_eq.mpr c35
 clear c35
 obtain ⟨⟨t135, t136, t137⟩, A36, H⟩ := Option.bind_eq_some_iff.mp H
 try dsimp only at H
 replace A36 := mk_ A36
 by_cases c37 : t137 = 0
 rotate_left
 ·
  rw [if_neg c37] at H
  have c37b0 : (t137 == 0) = false := beq_eq_false_iff_ne.mpr c37
  have c37b1 : (t137 != 0) = true := bne_iff_ne.mpr c37
  simp only [Option.some.injEq, Prod.mk.injEq] at H
  obtain ⟨rfl, rfl, rfl, rfl, rfl⟩ := H
  go_enter Try.func94, Try.ntmps94
  go_wp2_with (first | ((with_reducible refine gate_dst (N := 4) rfl ?_); refine box_event ?hg (N := 4) ?hd (cs := #[.int .i64 0, .int .i64 0, .string (⟨#[]⟩ : ByteArray)]) (t := 84) ?hr ?_; (case hd => rfl); (case hg => rfl); (case hr => first | (go_simp; done) | (go_simp; rfl)); intro gb123 hg w48 hbox hb; have n0_ := mk_ (below_step (Short.hB HB) hb); have n1_ := mk_ (hbox); have n2_ := mk_ ((by rw [hg]; exact (below_size (Short.hB HB)) : w.heap.size ≤ gb123)); have n3_ := mk_ ((by rw [hg]; exact (below_size (Short.hB HB)) : w.heap.size ≤ gb123)); clear HB; revert n0_ n1_ n2_ n3_; intro HB BK123 GW123 GE123; clear hb hbox hg) | ((with_reducible refine gate_callee (f := 92) rfl ?_); refine Short.gL (some 11) Try.func92 #[.slice A0 l0.length c0, .int .i64 a1, .int .i64 1] (h := ?_); (with_reducible refine (wire_Get.calls k _ _ l0 a1 1 t124 t125 t126 _ ?side1 ?side2 A3.out).mono ?_); (case side1 => exact cX_ (C_below HR0.out HB.out)); (case side2 => exact HC0.out); rintro e w' ⟨rfl, ⟨nd, rfl⟩⟩; refine ⟨_, rfl, ?_⟩; (try (rw [drewN_self w48]; generalize hq_ : World.drewN w48 _ = w48; have n0_ : Aside0 (w48.heap[gb123]? = some (.cells #[.int .i64 0, .int .i64 0, .string (⟨#[]⟩ : ByteArray)] 84 (0, 0))) := ⟨by rw [← hq_]; exact (Short.bK BK123)⟩; have n1_ : Aside0 (Below w.heap.size w w48) := ⟨by rw [← hq_]; exact (Short.hB HB)⟩; clear BK123 HB hq_; revert n0_ n1_; intro BK123 HB)); obtain ⟨hcz_0, hcz_1, hcz_2, hfz_0, hfz_1, hfz_2⟩ := Short.c3 BK123.out) | ((with_reducible refine gate_callee (f := 93) rfl ?_); refine Short.gL (some 47) Try.func93 #[.slice A0 l0.length c0, .int .i64 t125] (h := ?_); (with_reducible refine (wire_GetText.calls k _ _ l0 t125 t135 t136 t137 _ ?side1 ?side2 A36.out).mono ?_); (case side1 => exact C_below HR0.out (Short.hB HB)); (case side2 => exact HC0.out); rintro e w' ⟨rfl, ⟨nd, rfl⟩⟩; refine ⟨_, rfl, ?_⟩))
  refine bodyPost_ret (results_ctt rfl _ _ gb123 84 #[.int .i64 0, .int .i64 0, .string (⟨#[]⟩ : ByteArray)] (0, 0) _ rfl (by (with_reducible repeat (first | refine blk_drewN ?_ _ | refine blk_drew ?_ | refine blk_alloc ?_ _)); refine blk_put (cs := #[.int .i64 0, .int .i64 0, .string t135]) ?_ 2 _ rfl; (with_reducible repeat (first | refine blk_drewN ?_ _ | refine blk_drew ?_ | refine blk_alloc ?_ _)); refine blk_put (cs := #[.int .i64 0, .int .i64 0, .string t135]) ?_ 1 _ rfl; (with_reducible repeat (first | refine blk_drewN ?_ _ | refine blk_drew ?_ | refine blk_alloc ?_ _)); refine blk_put (cs := #[.int .i64 t124, .int .i64 0, .string t135]) ?_ 0 _ rfl; (with_reducible repeat (first | refine blk_drewN ?_ _ | refine blk_drew ?_ | refine blk_alloc ?_ _)); refine blk_put (cs := #[.int .i64 t124, .int .i64 0, .string (⟨#[]⟩ : ByteArray)]) ?_ 2 _ rfl; (with_reducible repeat (first | refine blk_drewN ?_ _ | refine blk_drew ?_ | refine blk_alloc ?_ _)); refine blk_put (cs := #[.int .i64 0, .int .i64 0, .string (⟨#[]⟩ : ByteArray)]) ?_ 0 _ rfl; (with_reducible repeat (first | refine blk_drewN ?_ _ | refine blk_drew ?_ | refine blk_alloc ?_ _)); exact BK123.out) Try.underlying84 rfl z0_) rfl ?_
  exact ⟨q0, Short.hB HB⟩
 rw [if_pos c37] at H
 have c37b0 : (t137 == 0) = true := beq_iff_eq.mpr c37
 have c37b1 : (t137 != 0) = false := bne_eq_false_iff_eq.mpr c37
 clear c37
 obtain ⟨t138, A38, H⟩ := Option.bind_eq_some_iff.mp H
 replace A38 := mk_ A38
 by_cases c39 : t138 = 0
 rotate_left
 ·
  rw [if_neg c39] at H
  have c39b0 : (t138 == 0) = false := beq_eq_false_iff_ne.mpr c39
  have c39b1 : (t138 != 0) = true := bne_iff_ne.mpr c39
  simp only [Option.some.injEq, Prod.mk.injEq] at H
  obtain ⟨rfl, rfl, rfl, rfl, rfl⟩ := H
  go_enter Try.func94, Try.ntmps94
  go_wp2_with (first | ((with_reducible refine gate_dst (N := 4) rfl ?_); refine box_event ?hg (N := 4) ?hd (cs := #[.int .i64 0, .int .i64 0, .string (⟨#[]⟩ : ByteArray)]) (t := 84) ?hr ?_; (case hd => rfl); (case hg => rfl); (case hr => first | (go_simp; done) | (go_simp; rfl)); intro gb123 hg w44 hbox hb; have n0_ := mk_ (below_step (Short.hB HB) hb); have n1_ := mk_ (hbox); have n2_ := mk_ ((by rw [hg]; exact (below_size (Short.hB HB)) : w.heap.size ≤ gb123)); have n3_ := mk_ ((by rw [hg]; exact (below_size (Short.hB HB)) : w.heap.size ≤ gb123)); clear HB; revert n0_ n1_ n2_ n3_; intro HB BK123 GW123 GE123; clear hb hbox hg) | ((with_reducible refine gate_callee (f := 92) rfl ?_); refine Short.gL (some 11) Try.func92 #[.slice A0 l0.length c0, .int .i64 a1, .int .i64 1] (h := ?_); (with_reducible refine (wire_Get.calls k _ _ l0 a1 1 t124 t125 t126 _ ?side1 ?side2 A3.out).mono ?_); (case side1 => exact cX_ (C_below HR0.out HB.out)); (case side2 => exact HC0.out); rintro e w' ⟨rfl, ⟨nd, rfl⟩⟩; refine ⟨_, rfl, ?_⟩; (try (rw [drewN_self w44]; generalize hq_ : World.drewN w44 _ = w44; have n0_ : Aside0 (w44.heap[gb123]? = some (.cells #[.int .i64 0, .int .i64 0, .string (⟨#[]⟩ : ByteArray)] 84 (0, 0))) := ⟨by rw [← hq_]; exact (Short.bK BK123)⟩; have n1_ : Aside0 (Below w.heap.size w w44) := ⟨by rw [← hq_]; exact (Short.hB HB)⟩; clear BK123 HB hq_; revert n0_ n1_; intro BK123 HB)); obtain ⟨hcz_0, hcz_1, hcz_2, hfz_0, hfz_1, hfz_2⟩ := Short.c3 BK123.out) | ((with_reducible refine gate_callee (f := 93) rfl ?_); refine Short.gL (some 47) Try.func93 #[.slice A0 l0.length c0, .int .i64 t125] (h := ?_); (with_reducible refine (wire_GetText.calls k _ _ l0 t125 t135 t136 t137 _ ?side1 ?side2 A36.out).mono ?_); (case side1 => exact C_below HR0.out (Short.hB HB)); (case side2 => exact HC0.out); rintro e w' ⟨rfl, ⟨nd, rfl⟩⟩; refine ⟨_, rfl, ?_⟩) | (go_at_call 87; (with_reducible refine (value_Check.calls t124 0 t135 t138 _ A38.out).mono ?_); rintro e w46 ⟨rfl, hb⟩; have n0_ := mk_ (blk_below (g := gb123) (o := .cells #[.int .i64 t124, .int .i64 0, .string t135] 84 (0, 0)) (by (with_reducible repeat (first | refine blk_drewN ?_ _ | refine blk_drew ?_ | refine blk_alloc ?_ _)); refine blk_put (cs := #[.int .i64 t124, .int .i64 0, .string (⟨#[]⟩ : ByteArray)]) ?_ 2 _ rfl; (with_reducible repeat (first | refine blk_drewN ?_ _ | refine blk_drew ?_ | refine blk_alloc ?_ _)); refine blk_put (cs := #[.int .i64 0, .int .i64 0, .string (⟨#[]⟩ : ByteArray)]) ?_ 0 _ rfl; (with_reducible repeat (first | refine blk_drewN ?_ _ | refine blk_drew ?_ | refine blk_alloc ?_ _)); exact BK123.out) hb); have n1_ := mk_ (below_step (Short.hB HB) hb); clear BK123 HB; revert n0_ n1_; intro BK123 HB; (try clear hb); (try clear hb2); (try clear hk); (try clear hi); obtain ⟨hcz_0, hcz_1, hcz_2, hfz_0, hfz_1, hfz_2⟩ := Short.c3 BK123.out))
  refine bodyPost_ret (results_ctt rfl _ _ gb123 84 #[.int .i64 0, .int .i64 0, .string (⟨#[]⟩ : ByteArray)] (0, 0) _ rfl (by (with_reducible repeat (first | refine blk_drewN ?_ _ | refine blk_drew ?_ | refine blk_alloc ?_ _)); refine blk_put (cs := #[.int .i64 0, .int .i64 0, .string t135]) ?_ 2 _ rfl; (with_reducible repeat (first | refine blk_drewN ?_ _ | refine blk_drew ?_ | refine blk_alloc ?_ _)); refine blk_put (cs := #[.int .i64 0, .int .i64 0, .string t135]) ?_ 1 _ rfl; (with_reducible repeat (first | refine blk_drewN ?_ _ | refine blk_drew ?_ | refine blk_alloc ?_ _)); refine blk_put (cs := #[.int .i64 t124, .int .i64 0, .string t135]) ?_ 0 _ rfl; (with_reducible repeat (first | refine blk_drewN ?_ _ | refine blk_drew ?_ | refine blk_alloc ?_ _)); exact BK123.out) Try.underlying84 rfl z0_) rfl ?_
  exact ⟨q0, Short.hB HB⟩
 rw [if_pos c39] at H
 have c39b0 : (t138 == 0) = true := beq_iff_eq.mpr c39
 have c39b1 : (t138 != 0) = false := bne_eq_false_iff_eq.mpr c39
 clear c39
 simp only [Option.some.injEq, Prod.mk.injEq] at H
 obtain ⟨rfl, rfl, rfl, rfl, rfl⟩ := H
 go_enter Try.func94, Try.ntmps94
 go_wp2_with (first | ((with_reducible refine gate_dst (N := 4) rfl ?_); refine box_event ?hg (N := 4) ?hd (cs := #[.int .i64 0, .int .i64 0, .string (⟨#[]⟩ : ByteArray)]) (t := 84) ?hr ?_; (case hd => rfl); (case hg => rfl); (case hr => first | (go_simp; done) | (go_simp; rfl)); intro gb123 hg w40 hbox hb; have n0_ := mk_ (below_step (Short.hB HB) hb); have n1_ := mk_ (hbox); have n2_ := mk_ ((by rw [hg]; exact (below_size (Short.hB HB)) : w.heap.size ≤ gb123)); have n3_ := mk_ ((by rw [hg]; exact (below_size (Short.hB HB)) : w.heap.size ≤ gb123)); clear HB; revert n0_ n1_ n2_ n3_; intro HB BK123 GW123 GE123; clear hb hbox hg) | ((with_reducible refine gate_callee (f := 92) rfl ?_); refine Short.gL (some 11) Try.func92 #[.slice A0 l0.length c0, .int .i64 a1, .int .i64 1] (h := ?_); (with_reducible refine (wire_Get.calls k _ _ l0 a1 1 t124 t125 t126 _ ?side1 ?side2 A3.out).mono ?_); (case side1 => exact cX_ (C_below HR0.out HB.out)); (case side2 => exact HC0.out); rintro e w' ⟨rfl, ⟨nd, rfl⟩⟩; refine ⟨_, rfl, ?_⟩; (try (rw [drewN_self w40]; generalize hq_ : World.drewN w40 _ = w40; have n0_ : Aside0 (w40.heap[gb123]? = some (.cells #[.int .i64 0, .int .i64 0, .string (⟨#[]⟩ : ByteArray)] 84 (0, 0))) := ⟨by rw [← hq_]; exact (Short.bK BK123)⟩; have n1_ : Aside0 (Below w.heap.size w w40) := ⟨by rw [← hq_]; exact (Short.hB HB)⟩; clear BK123 HB hq_; revert n0_ n1_; intro BK123 HB)); obtain ⟨hcz_0, hcz_1, hcz_2, hfz_0, hfz_1, hfz_2⟩ := Short.c3 BK123.out) | ((with_reducible refine gate_callee (f := 93) rfl ?_); refine Short.gL (some 47) Try.func93 #[.slice A0 l0.length c0, .int .i64 t125] (h := ?_); (with_reducible refine (wire_GetText.calls k _ _ l0 t125 t135 t136 t137 _ ?side1 ?side2 A36.out).mono ?_); (case side1 => exact C_below HR0.out (Short.hB HB)); (case side2 => exact HC0.out); rintro e w' ⟨rfl, ⟨nd, rfl⟩⟩; refine ⟨_, rfl, ?_⟩) | (go_at_call 87; (with_reducible refine (value_Check.calls t124 0 t135 t138 _ A38.out).mono ?_); rintro e w42 ⟨rfl, hb⟩; have n0_ := mk_ (blk_below (g := gb123) (o := .cells #[.int .i64 t124, .int .i64 0, .string t135] 84 (0, 0)) (by (with_reducible repeat (first | refine blk_drewN ?_ _ | refine blk_drew ?_ | refine blk_alloc ?_ _)); refine blk_put (cs := #[.int .i64 t124, .int .i64 0, .string (⟨#[]⟩ : ByteArray)]) ?_ 2 _ rfl; (with_reducible repeat (first | refine blk_drewN ?_ _ | refine blk_drew ?_ | refine blk_alloc ?_ _)); refine blk_put (cs := #[.int .i64 0, .int .i64 0, .string (⟨#[]⟩ : ByteArray)]) ?_ 0 _ rfl; (with_reducible repeat (first | refine blk_drewN ?_ _ | refine blk_drew ?_ | refine blk_alloc ?_ _)); exact BK123.out) hb); have n1_ := mk_ (below_step (Short.hB HB) hb); clear BK123 HB; revert n0_ n1_; intro BK123 HB; (try clear hb); (try clear hb2); (try clear hk); (try clear hi); obtain ⟨hcz_0, hcz_1, hcz_2, hfz_0, hfz_1, hfz_2⟩ := Short.c3 BK123.out))
 refine bodyPost_ret (results_ctt rfl _ _ gb123 84 #[.int .i64 t124, .int .i64 0, .string t135] (0, 0) _ rfl (by (with_reducible repeat (first | refine blk_drewN ?_ _ | refine blk_drew ?_ | refine blk_alloc ?_ _)); refine blk_put (cs := #[.int .i64 t124, .int .i64 0, .string t135]) ?_ 2 _ rfl; (with_reducible repeat (first | refine blk_drewN ?_ _ | refine blk_drew ?_ | refine blk_alloc ?_ _)); refine blk_put (cs := #[.int .i64 t124, .int .i64 0, .string t135]) ?_ 1 _ rfl; (with_reducible repeat (first | refine blk_drewN ?_ _ | refine blk_drew ?_ | refine blk_alloc ?_ _)); refine blk_put (cs := #[.int .i64 t124, .int .i64 0, .string t135]) ?_ 0 _ rfl; (with_reducible repeat (first | refine blk_drewN ?_ _ | refine blk_drew ?_ | refine blk_alloc ?_ _)); exact BK123.out) Try.underlying84 rfl z0_) rfl ?_
 exact ⟨q0, Short.hB HB⟩
def row_Read.l0 : Nat → List Int → List (S84) → Int → Int → Int → Option ((List (S84)) × Int × Int)
 | 0, _, _, _, _, _ => none
 | k + 1, x0, x4, x5, x23, x24 => if x24 < x23 then ((value_Read.f k x0 x5).bind fun bt143 => (if bt143.2.2.2.2 = 0 then (if x4.length < 4398046511104 then (row_Read.l0 k x0 (x4 ++ [(⟨bt143.1, bt143.2.1, bt143.2.2.1⟩ : S84)]) bt143.2.2.2.1 x23 (wrap64 (x24 + 1))) else (none)) else (some (([] : List (S84)), 0, 3)))) else (some (x4, x5, 0))
def row_Read.f (k : Nat) (l0 : List Int) (a1 : Int) : Option ((List (S84)) × Int × Int) := (wire_Get.f k l0 a1 1).bind fun bt140 => (if bt140.2.2 = 0 then (if bt140.1 > 12 then (some (([] : List (S84)), 0, 3)) else (row_Read.l0 k l0 ([] : List (S84)) bt140.2.1 bt140.1 0)) else (some (([] : List (S84)), 0, bt140.2.2)))
theorem row_Read.calls (k : Nat) (A0 : Option Addr) (c0 : Nat) (l0 : List Int) (a1 : Int) (r1 : List (S84)) (r2 : Int) (r3 : Int) (w : World) (hr0 : Kd.C (Kd.int .u8) w A0 l0.length l0) (hc0 : l0.length ≤ c0) (h : row_Read.f k l0 a1 = some (r1, r2, r3)) :
  Calls Try.prog 57 #[.slice A0 l0.length c0, .int .i64 a1] w fun e w' => ∃ v0_ : Value, e = .returned (.tuple #[v0_, .int .i64 r2, .int .i64 r3]) ∧ Kd.R k84 84 w' w.heap.size (fun _ => True) v0_ r1 ∧ Below w.heap.size w w' := by
 have hu84 := Try.underlying84
 have HR0 := mk_ hr0
 have HC0 := mk_ hc0
 clear hr0 hc0
 have HB := mk_ (Below.refl w.heap.size w)
 have H : ((wire_Get.f k l0 a1 1).bind fun bt140 => (if bt140.2.2 = 0 then (if bt140.1 > 12 then (some (([] : List (S84)), 0, 3)) else (row_Read.l0 k l0 ([] : List (S84)) bt140.2.1 bt140.1 0)) else (some (([] : List (S84)), 0, bt140.2.2)))) = some (r1, r2, r3) := h
 clear h
 obtain ⟨⟨t140, t141, t142⟩, A3, H⟩ := Option.bind_eq_some_iff.mp H
 try dsimp only at H
 replace A3 := mk_ A3
 by_cases c4 : t142 = 0
 rotate_left
 ·
  rw [if_neg c4] at H
  have c4b0 : (t142 == 0) = false := beq_eq_false_iff_ne.mpr c4
  have c4b1 : (t142 != 0) = true := bne_iff_ne.mpr c4
  simp only [Option.some.injEq, Prod.mk.injEq] at H
  obtain ⟨rfl, rfl, rfl⟩ := H
  go_enter Try.func57, Try.ntmps57
  go_wp2_with (first | ((with_reducible refine gate_callee (f := 92) rfl ?_); refine Short.gL (some 14) Try.func92 #[.slice A0 l0.length c0, .int .i64 a1, .int .i64 1] (h := ?_); (with_reducible refine (wire_Get.calls k _ _ l0 a1 1 t140 t141 t142 _ ?side1 ?side2 A3.out).mono ?_); (case side1 => repeat (first | exact HR0.out | (with_reducible refine C_alloc ?_ _) | (with_reducible refine C_drewN ?_ _) | (with_reducible refine C_drew ?_))); (case side2 => exact HC0.out); rintro e w' ⟨rfl, ⟨nd, rfl⟩⟩; refine ⟨_, rfl, ?_⟩))
  go_ret3
  exact ⟨_, by first | rfl | (simp [errW_none, errW_some] <;> rfl) | (simp [*, errW_none, errW_some] <;> rfl), by first | exact R_nil _ _ _ _ _ | exact N_nil _ _ _ _ _ | exact V_nil _ _ _ _ _ | exact Q_nil _ _ _ _ _ | exact S_nil _ _ _ _ _, Short.hB HB⟩
 rw [if_pos c4] at H
 have c4b0 : (t142 == 0) = true := beq_iff_eq.mpr c4
 have c4b1 : (t142 != 0) = false := bne_eq_false_iff_eq.mpr c4
 clear c4
 by_cases c5 : t140 > 12
 ·
  rw [if_pos c5] at H
  have c5b0 : decide (12 < t140) = true := decide_eq_true c5
  clear c5
  simp only [Option.some.injEq, Prod.mk.injEq] at H
  obtain ⟨rfl, rfl, rfl⟩ := H
  go_enter Try.func57, Try.ntmps57
  go_wp2_with (first | ((with_reducible refine gate_callee (f := 92) rfl ?_); refine Short.gL (some 14) Try.func92 #[.slice A0 l0.length c0, .int .i64 a1, .int .i64 1] (h := ?_); (with_reducible refine (wire_Get.calls k _ _ l0 a1 1 t140 t141 t142 _ ?side1 ?side2 A3.out).mono ?_); (case side1 => repeat (first | exact HR0.out | (with_reducible refine C_alloc ?_ _) | (with_reducible refine C_drewN ?_ _) | (with_reducible refine C_drew ?_))); (case side2 => exact HC0.out); rintro e w' ⟨rfl, ⟨nd, rfl⟩⟩; refine ⟨_, rfl, ?_⟩))
  go_ret3
  exact ⟨_, by first | rfl | (simp [errW_none, errW_some] <;> rfl) | (simp [*, errW_none, errW_some] <;> rfl), by first | exact R_nil _ _ _ _ _ | exact N_nil _ _ _ _ _ | exact V_nil _ _ _ _ _ | exact Q_nil _ _ _ _ _ | exact S_nil _ _ _ _ _, Short.hB HB⟩
 rw [if_neg c5] at H
 have c5b0 : decide (12 < t140) = false := decide_eq_false c5
 clear c5
 have H' := mk_ H
 clear H
 go_enter Try.func57, Try.ntmps57
 go_wp2_with (first | ((with_reducible refine gate_callee (f := 92) rfl ?_); refine Short.gL (some 14) Try.func92 #[.slice A0 l0.length c0, .int .i64 a1, .int .i64 1] (h := ?_); (with_reducible refine (wire_Get.calls k _ _ l0 a1 1 t140 t141 t142 _ ?side1 ?side2 A3.out).mono ?_); (case side1 => repeat (first | exact HR0.out | (with_reducible refine C_alloc ?_ _) | (with_reducible refine C_drewN ?_ _) | (with_reducible refine C_drew ?_))); (case side2 => exact HC0.out); rintro e w' ⟨rfl, ⟨nd, rfl⟩⟩; refine ⟨_, rfl, ?_⟩))
 go_loopg [4, 5, 24] k (fun kq v4 v5 v24 w' => ∃ (x4_1 : List (S84)) (x5_1 : Int) (x24_1 : Int), v5 = .int .i64 x5_1 ∧ v24 = .int .i64 x24_1 ∧ Aside0 (row_Read.l0 kq l0 x4_1 x5_1 t140 x24_1 = some (r1, r2, r3)) ∧ Aside0 (kq ≤ k) ∧ Aside0 (Kd.R k84 84 w' w.heap.size (fun _ => True) v4 x4_1) ∧ Aside0 (Below w.heap.size w w'))
 case atStart => exact ⟨(([] : List (S84))), (t141), (0), z4_, z4_, H', ⟨Nat.le_refl _⟩, ⟨by first | exact R_nil _ _ _ _ _ | exact N_nil _ _ _ _ _ | exact V_nil _ _ _ _ _ | exact Q_nil _ _ _ _ _ | exact S_nil _ _ _ _ _⟩, ⟨Short.hB HB⟩⟩
 case round =>
  clear H'
  try clear p2
  try clear c4
  try clear c4b0
  try clear c4b1
  try clear c5
  try clear c5b0
  obtain ⟨x4_1, x5_1, x24_1, rfl, rfl, HA, HK1, HO_4, HB⟩ := hrel
  cases gk with
  | zero => exact absurd HA.out (by simp [row_Read.l0])
  | succ k1 =>
   have H := HA.out
   clear HA
   simp only [row_Read.l0] at H
   by_cases c6 : x24_1 < t140
   rotate_left
   ·
    rw [if_neg c6] at H
    have c6b0 : decide (x24_1 < t140) = false := decide_eq_false c6
    clear c6
    simp only [Option.some.injEq, Prod.mk.injEq] at H
    obtain ⟨rfl, rfl, rfl⟩ := H
    go_wp2
    go_ret3
    exact ⟨_, by first | rfl | (simp [errW_none, errW_some] <;> rfl) | (simp [*, errW_none, errW_some] <;> rfl), by (with_reducible repeat (first | apply R_alloc | apply R_drewN | apply R_drew)); exact HO_4.out, Short.hB HB⟩
   rw [if_pos c6] at H
   have c6b0 : decide (x24_1 < t140) = true := decide_eq_true c6
   clear c6
   obtain ⟨⟨t143, t144, t145, t146, t147⟩, A7, H⟩ := Option.bind_eq_some_iff.mp H
   try dsimp only at H
   replace A7 := mk_ A7
   by_cases c8 : t147 = 0
   rotate_left
   ·
    rw [if_neg c8] at H
    have c8b0 : (t147 == 0) = false := beq_eq_false_iff_ne.mpr c8
    have c8b1 : (t147 != 0) = true := bne_iff_ne.mpr c8
    simp only [Option.some.injEq, Prod.mk.injEq] at H
    obtain ⟨rfl, rfl, rfl⟩ := H
    go_wp2_with (first | ((with_reducible refine gate_callee (f := 94) rfl ?_); refine Short.gL (some 29) Try.func94 #[.slice A0 l0.length c0, .int .i64 x5_1] (h := ?_); (with_reducible refine (value_Read.calls k1 _ _ l0 x5_1 t143 t144 t145 t146 t147 _ ?side1 ?side2 A7.out).mono ?_); (case side1 => exact cX_ (C_below HR0.out HB.out)); (case side2 => exact HC0.out); rintro e w14 ⟨rfl, hb⟩; refine ⟨_, rfl, ?_⟩; have n0_ := mk_ (R_below (ZKR HO_4) hb); have n1_ := mk_ (below_step (Short.hB HB) hb); clear HO_4 HB; revert n0_ n1_; intro HO_4 HB; (try clear hb)) | ((with_reducible refine gate_dst (N := 8) rfl ?_); refine box_event ?hg (N := 8) ?hd (cs := #[.int .i64 0, .int .i64 0, .string (⟨#[]⟩ : ByteArray)]) (t := 84) ?hr ?_; (case hd => rfl); (case hg => rfl); (case hr => first | (go_simp; done) | (go_simp; rfl)); intro gb148 hg w15 hbox hb; have n0_ := mk_ (R_below (R_elderB (ZKR HO_4) gb148 (Nat.le_of_eq hg.symm)) hb); have n1_ := mk_ (below_step (Short.hB HB) hb); have n2_ := mk_ (hbox); have n3_ := mk_ ((by rw [hg]; exact (below_size (Short.hB HB)) : w.heap.size ≤ gb148)); have n4_ := mk_ ((by rw [hg]; exact (below_size (Short.hB HB)) : w.heap.size ≤ gb148)); clear HO_4 HB; revert n0_ n1_ n2_ n3_ n4_; intro HO_4 HB BK148 GW148 GE148; clear hb hbox hg; obtain ⟨hcz_0, hcz_1, hcz_2, hfz_0, hfz_1, hfz_2⟩ := Short.c3 BK148.out))
    go_ret3
    exact ⟨_, by first | rfl | (simp [errW_none, errW_some] <;> rfl) | (simp [*, errW_none, errW_some] <;> rfl), by first | exact R_nil _ _ _ _ _ | exact N_nil _ _ _ _ _ | exact V_nil _ _ _ _ _ | exact Q_nil _ _ _ _ _ | exact S_nil _ _ _ _ _, Short.hB HB⟩
   rw [if_pos c8] at H
   have c8b0 : (t147 == 0) = true := beq_iff_eq.mpr c8
   have c8b1 : (t147 != 0) = false := bne_eq_false_iff_eq.mpr c8
   clear c8
   by_cases c9 : x4_1.length < 4398046511104
   rotate_left
   ·
    rw [if_neg c9] at H
    exact absurd H (by simp)
   rw [if_pos c9] at H
   have LMc9 := mk_ c9
   clear c9
   obtain ⟨y149, hy149⟩ : ∃ y_ : List (S84), y_ = (x4_1 ++ [(⟨t143, t144, t145⟩ : S84)]) := ⟨_, rfl⟩
   replace H : (row_Read.l0 k1 l0 y149 t146 t140 (wrap64 (x24_1 + 1))) = some (r1, r2, r3) := by first | (rw [hy149]; with_reducible exact H) | (have H2_ := (Option.bind_some _ _).symm.trans H; rw [hy149]; with_reducible exact H2_) | (have H2_ := (Option.bind_some _ _).symm.trans H; with_reducible exact H2_) | with_reducible exact H | (rw [hy149]; exact H) | exact H
   have Ny149 := mk_ hy149
   clear hy149
   have H' := mk_ H
   clear H
   go_wp2_with (first | ((with_reducible refine gate_callee (f := 94) rfl ?_); refine Short.gL (some 29) Try.func94 #[.slice A0 l0.length c0, .int .i64 x5_1] (h := ?_); (with_reducible refine (value_Read.calls k1 _ _ l0 x5_1 t143 t144 t145 t146 t147 _ ?side1 ?side2 A7.out).mono ?_); (case side1 => exact cX_ (C_below HR0.out HB.out)); (case side2 => exact HC0.out); rintro e w10 ⟨rfl, hb⟩; refine ⟨_, rfl, ?_⟩; have n0_ := mk_ (R_below (ZKR HO_4) hb); have n1_ := mk_ (below_step (Short.hB HB) hb); clear HO_4 HB; revert n0_ n1_; intro HO_4 HB; (try clear hb)) | ((with_reducible refine gate_dst (N := 8) rfl ?_); refine box_event ?hg (N := 8) ?hd (cs := #[.int .i64 0, .int .i64 0, .string (⟨#[]⟩ : ByteArray)]) (t := 84) ?hr ?_; (case hd => rfl); (case hg => rfl); (case hr => first | (go_simp; done) | (go_simp; rfl)); intro gb148 hg w11 hbox hb; have n0_ := mk_ (R_below (R_elderB (ZKR HO_4) gb148 (Nat.le_of_eq hg.symm)) hb); have n1_ := mk_ (below_step (Short.hB HB) hb); have n2_ := mk_ (hbox); have n3_ := mk_ ((by rw [hg]; exact (below_size (Short.hB HB)) : w.heap.size ≤ gb148)); have n4_ := mk_ ((by rw [hg]; exact (below_size (Short.hB HB)) : w.heap.size ≤ gb148)); clear HO_4 HB; revert n0_ n1_ n2_ n3_ n4_; intro HO_4 HB BK148 GW148 GE148; clear hb hbox hg; obtain ⟨hcz_0, hcz_1, hcz_2, hfz_0, hfz_1, hfz_2⟩ := Short.c3 BK148.out) | ((with_reducible refine gate_builtin (b := .append) (xs := #[.tmp 35, .tmp 37]) rfl ?_); at_builtin; refine R_append k84 (w0 := w) w.heap.size rfl (.tmp 35) (.tmp 37) 29 84 (.agg #[(.int .i64 0), (.int .i64 0), (.string ⟨#[]⟩)]) 32 rfl Try.underlying29 info84 rfl z5_ z3_ u4 x4_1 (⟨t143, t144, t145⟩ : S84) [.int .i64 t143, .int .i64 t144, .string t145] (fun k_ => k_ ≠ gb148) (fun _ => False) rfl (by first | (go_simp; done) | (go_simp; rfl)) ?aP (fun _ hk => hk.elim) ?aF ?aO ?aB ?aS ?aL ?_; (case aP => exact k84_mkM _ _ _ (⟨t143, t144, t145⟩ : S84)); (case aB => exact (Short.hB HB)); (case aF => exact (fun k_ hk => Kd.freshB (g := gb148) (o := .cells #[.int .i64 t143, .int .i64 t144, .string t145] 84 (0, 0)) (by (with_reducible repeat (first | refine blk_drewN ?_ _ | refine blk_drew ?_ | refine blk_alloc ?_ _)); refine blk_put (cs := #[.int .i64 t143, .int .i64 t144, .string (⟨#[]⟩ : ByteArray)]) ?_ 2 _ rfl; (with_reducible repeat (first | refine blk_drewN ?_ _ | refine blk_drew ?_ | refine blk_alloc ?_ _)); refine blk_put (cs := #[.int .i64 t143, .int .i64 0, .string (⟨#[]⟩ : ByteArray)]) ?_ 1 _ rfl; (with_reducible repeat (first | refine blk_drewN ?_ _ | refine blk_drew ?_ | refine blk_alloc ?_ _)); refine blk_put (cs := #[.int .i64 0, .int .i64 0, .string (⟨#[]⟩ : ByteArray)]) ?_ 0 _ rfl; (with_reducible repeat (first | refine blk_drewN ?_ _ | refine blk_drew ?_ | refine blk_alloc ?_ _)); exact BK148.out) k_ hk)); (case aO => exact (by (with_reducible repeat (first | apply R_alloc | apply R_drewN | apply R_drew)); exact R_mono (R_far (p := ⟨gb148, 2, none⟩) (R_far (p := ⟨gb148, 1, none⟩) (R_far (p := ⟨gb148, 0, none⟩) (R_mono HO_4.out (fun k_ hk => (⟨hk, hk.2⟩ : _ ∧ k_ ≠ gb148))) (fun _ hk => hk.2) (.int .i64 t143)) (fun _ hk => hk.2) (.int .i64 t144)) (fun _ hk => hk.2) (.string t145)) (fun _ hk => hk.1.2))); (case aS => exact (below_size (Short.hB HB))); (case aL => have := LMc9.out; omega); intro v150 w13 ho hb hg hat; rw [← Ny149.out] at ho; have n0_ := mk_ (blk_grown (g := gb148) (o := .cells #[.int .i64 t143, .int .i64 t144, .string t145] 84 (0, 0)) (by (with_reducible repeat (first | refine blk_drewN ?_ _ | refine blk_drew ?_ | refine blk_alloc ?_ _)); refine blk_put (cs := #[.int .i64 t143, .int .i64 t144, .string (⟨#[]⟩ : ByteArray)]) ?_ 2 _ rfl; (with_reducible repeat (first | refine blk_drewN ?_ _ | refine blk_drew ?_ | refine blk_alloc ?_ _)); refine blk_put (cs := #[.int .i64 t143, .int .i64 0, .string (⟨#[]⟩ : ByteArray)]) ?_ 1 _ rfl; (with_reducible repeat (first | refine blk_drewN ?_ _ | refine blk_drew ?_ | refine blk_alloc ?_ _)); refine blk_put (cs := #[.int .i64 0, .int .i64 0, .string (⟨#[]⟩ : ByteArray)]) ?_ 0 _ rfl; (with_reducible repeat (first | refine blk_drewN ?_ _ | refine blk_drew ?_ | refine blk_alloc ?_ _)); exact BK148.out) hg (R_away HO_4.out (fun _ hk => hk.2))); have n1_ := mk_ (hb); have n2_ := mk_ (ho); clear BK148 HB HO_4; revert n0_ n1_ n2_; intro BK148 HB HO151; clear ho hb hg hat))
   go_roundg k1
   case measure => have := HK1.out; omega
   case rel => exact ⟨(y149), (t146), (wrap64 (x24_1 + 1)), z4_, z4_, H', ⟨by have := HK1.out; omega⟩, ⟨by (with_reducible repeat (first | apply R_alloc | apply R_drewN | apply R_drew)); exact R_mono HO151.out (fun _ hk => trivial)⟩, ⟨Short.hB HB⟩⟩
def raddlekeep_Dot.f (a0_0 : Int) (a0_1 : Int) (a1_0 : Int) (a1_1 : Int) : Option (Bool) := if a0_0 = a1_0 then (some (a0_1 == a1_1)) else (some false)
theorem raddlekeep_Dot.calls (a0_0 : Int) (a0_1 : Int) (a1_0 : Int) (a1_1 : Int) (r : Bool) (w : World) (h : raddlekeep_Dot.f a0_0 a0_1 a1_0 a1_1 = some r) :
  Calls Try.prog 29 #[.agg #[.int .i64 a0_0, .int .i64 a0_1], .agg #[.int .i64 a1_0, .int .i64 a1_1]] w fun e w' => e = .returned (.bool r) ∧ Below w.heap.size w w' := by
 have hu25 := Try.underlying25
 have HB := mk_ (Below.refl w.heap.size w)
 have H : (if a0_0 = a1_0 then (some (a0_1 == a1_1)) else (some false)) = some r := h
 clear h
 by_cases c3 : a0_0 = a1_0
 rotate_left
 ·
  rw [if_neg c3] at H
  have c3b0 : (a0_0 == a1_0) = false := beq_eq_false_iff_ne.mpr c3
  have c3b1 : (a0_0 != a1_0) = true := bne_iff_ne.mpr c3
  obtain rfl := Option.some.inj H
  go_enter Try.func29, Try.ntmps29
  go_wp2_with (first | ((with_reducible refine gate_dst (N := 2) rfl ?_); refine box_event ?hg (N := 2) ?hd (cs := #[.int .i64 a0_0, .int .i64 a0_1]) (t := 25) ?hr ?_; (case hd => rfl); (case hg => rfl); (case hr => first | (go_simp; done) | (go_simp; rfl)); intro gb153 hg w9 hbox hb; have n0_ := mk_ (below_step (Short.hB HB) hb); have n1_ := mk_ (hbox); have n2_ := mk_ ((by rw [hg]; exact (below_size (Short.hB HB)) : w.heap.size ≤ gb153)); have n3_ := mk_ ((by rw [hg]; exact (below_size (Short.hB HB)) : w.heap.size ≤ gb153)); clear HB; revert n0_ n1_ n2_ n3_; intro HB BK153 GW153 GE153; clear hb hbox hg) | ((with_reducible refine gate_dst (N := 3) rfl ?_); refine box_event ?hg (N := 3) ?hd (cs := #[.int .i64 a1_0, .int .i64 a1_1]) (t := 25) ?hr ?_; (case hd => rfl); (case hg => rfl); (case hr => first | (go_simp; done) | (go_simp; rfl)); intro gb154 hg w10 hbox hb; have n0_ := mk_ (bB_ BK153 hb); have n1_ := mk_ (below_step (Short.hB HB) hb); have n2_ := mk_ (hbox); have n3_ := mk_ ((by rw [hg]; exact (below_size (Short.hB HB)) : w.heap.size ≤ gb154)); have n4_ := mk_ ((by rw [hg]; exact (below_size (Short.hB HB)) : w.heap.size ≤ gb154)); have n5_ := mk_ ((by rw [hg]; exact Nat.ne_of_lt (blk_lt (Short.bK BK153)) : gb153 ≠ gb154)); have n6_ := mk_ ((by rw [hg]; exact Nat.ne_of_gt (blk_lt (Short.bK BK153)) : gb154 ≠ gb153)); clear BK153 HB; revert n0_ n1_ n2_ n3_ n4_ n5_ n6_; intro BK153 HB BK154 GW154 GE154 NB153_154 NB154_153; clear hb hbox hg; have hnb11 := NB153_154.out; have hnc11 := NB154_153.out; obtain ⟨hcz_0, hcz_1, hfz_0, hfz_1⟩ := Short.c2 BK153.out; obtain ⟨hcz_0, hcz_1, hfz_0, hfz_1⟩ := Short.c2 BK154.out))
  go_ret
  exact ⟨q0, Short.hB HB⟩
 rw [if_pos c3] at H
 have c3b0 : (a0_0 == a1_0) = true := beq_iff_eq.mpr c3
 have c3b1 : (a0_0 != a1_0) = false := bne_eq_false_iff_eq.mpr c3
 clear c3
 obtain rfl := Option.some.inj H
 go_enter Try.func29, Try.ntmps29
 go_wp2_with (first | ((with_reducible refine gate_dst (N := 2) rfl ?_); refine box_event ?hg (N := 2) ?hd (cs := #[.int .i64 a0_0, .int .i64 a0_1]) (t := 25) ?hr ?_; (case hd => rfl); (case hg => rfl); (case hr => first | (go_simp; done) | (go_simp; rfl)); intro gb153 hg w4 hbox hb; have n0_ := mk_ (below_step (Short.hB HB) hb); have n1_ := mk_ (hbox); have n2_ := mk_ ((by rw [hg]; exact (below_size (Short.hB HB)) : w.heap.size ≤ gb153)); have n3_ := mk_ ((by rw [hg]; exact (below_size (Short.hB HB)) : w.heap.size ≤ gb153)); clear HB; revert n0_ n1_ n2_ n3_; intro HB BK153 GW153 GE153; clear hb hbox hg) | ((with_reducible refine gate_dst (N := 3) rfl ?_); refine box_event ?hg (N := 3) ?hd (cs := #[.int .i64 a1_0, .int .i64 a1_1]) (t := 25) ?hr ?_; (case hd => rfl); (case hg => rfl); (case hr => first | (go_simp; done) | (go_simp; rfl)); intro gb154 hg w5 hbox hb; have n0_ := mk_ (bB_ BK153 hb); have n1_ := mk_ (below_step (Short.hB HB) hb); have n2_ := mk_ (hbox); have n3_ := mk_ ((by rw [hg]; exact (below_size (Short.hB HB)) : w.heap.size ≤ gb154)); have n4_ := mk_ ((by rw [hg]; exact (below_size (Short.hB HB)) : w.heap.size ≤ gb154)); have n5_ := mk_ ((by rw [hg]; exact Nat.ne_of_lt (blk_lt (Short.bK BK153)) : gb153 ≠ gb154)); have n6_ := mk_ ((by rw [hg]; exact Nat.ne_of_gt (blk_lt (Short.bK BK153)) : gb154 ≠ gb153)); clear BK153 HB; revert n0_ n1_ n2_ n3_ n4_ n5_ n6_; intro BK153 HB BK154 GW154 GE154 NB153_154 NB154_153; clear hb hbox hg; have hnb6 := NB153_154.out; have hnc6 := NB154_153.out; obtain ⟨hcz_0, hcz_1, hfz_0, hfz_1⟩ := Short.c2 BK153.out; obtain ⟨hcz_0, hcz_1, hfz_0, hfz_1⟩ := Short.c2 BK154.out))
 go_ret
 exact ⟨q0, Short.hB HB⟩
end Go.Proofs.Ytjnjfogfpmeacaa.PAll
end
section
namespace Go.Proofs.Ytjnjfogfpmeacaa.PAll
open Go.RowKit PrintWords PrintLast PrintMore ZipT PrintWords.Kd PrintMore.Kd
attribute [local go_sem] max2_int min2_int max_two min_two max_three min_three max_four min_four   -- for this text's walks alone
set_option linter.unusedVariables false
set_option linter.unusedSimpArgs false
def raddlekeep_Ints.l0 : Nat → List Int → List Int → Int → Option (Bool)
 | 0, _, _, _ => none
 | k + 1, x0, x1, x5 => if x5 < (x0.length : Int) then (if 0 ≤ x5 then (if x5 < (x1.length : Int) then (if (rd x0 x5) = (rd x1 x5) then (raddlekeep_Ints.l0 k x0 x1 (wrap64 (x5 + 1))) else (some false)) else (none)) else (none)) else (some true)
def raddlekeep_Ints.f (k : Nat) (l0 : List Int) (l1 : List Int) : Option (Bool) := if (l0.length : Int) = (l1.length : Int) then (raddlekeep_Ints.l0 k l0 l1 0) else (some false)
theorem raddlekeep_Ints.calls (k : Nat) (A0 : Option Addr) (c0 : Nat) (l0 : List Int) (A1 : Option Addr) (c1 : Nat) (l1 : List Int) (r : Bool) (w : World) (hr0 : Kd.C (Kd.int .i64) w A0 l0.length l0) (hc0 : l0.length ≤ c0) (hr1 : Kd.C (Kd.int .i64) w A1 l1.length l1) (hc1 : l1.length ≤ c1) (h : raddlekeep_Ints.f k l0 l1 = some r) :
  Calls Try.prog 30 #[.slice A0 l0.length c0, .slice A1 l1.length c1] w fun e w' => e = .returned (.bool r) ∧ Drawn0 w w' := by
 have HR0 := mk_ hr0
 have HC0 := mk_ hc0
 clear hr0 hc0
 have HR1 := mk_ hr1
 have HC1 := mk_ hc1
 clear hr1 hc1
 have H : (if (l0.length : Int) = (l1.length : Int) then (raddlekeep_Ints.l0 k l0 l1 0) else (some false)) = some r := h
 clear h
 by_cases c3 : (l0.length : Int) = (l1.length : Int)
 rotate_left
 ·
  rw [if_neg c3] at H
  have c3b0 : ((l0.length : Int) == (l1.length : Int)) = false := beq_eq_false_iff_ne.mpr c3
  have c3b1 : ((l0.length : Int) != (l1.length : Int)) = true := bne_iff_ne.mpr c3
  have c3b2 : (l0.length == l1.length) = false := by first | simpa using c3 | (simp at c3 ⊢; omega)
  obtain rfl := Option.some.inj H
  go_enter Try.func30, Try.ntmps30
  go_wp2
  repeat (go_quiet (fail); try go_wp2)
  go_ret
  exact ⟨z4_, by repeat (first | exact Drawn0.refl _ | apply Drawn0.step)⟩
 rw [if_pos c3] at H
 have c3b0 : ((l0.length : Int) == (l1.length : Int)) = true := beq_iff_eq.mpr c3
 have c3b1 : ((l0.length : Int) != (l1.length : Int)) = false := bne_eq_false_iff_eq.mpr c3
 have c3b2 : (l0.length == l1.length) = true := by first | simpa using c3 | (simp at c3 ⊢; omega)
 clear c3
 have H' := mk_ H
 clear H
 go_enter Try.func30, Try.ntmps30
 go_wp2
 repeat (go_quiet (fail); try go_wp2)
 go_loopg [5] k (fun kq v5 w' => ∃ (x5_1 : Int), v5 = .int .i64 x5_1 ∧ Aside0 (raddlekeep_Ints.l0 kq l0 l1 x5_1 = some r) ∧ Aside0 (kq ≤ k) ∧ Drawn0 w w')
 case atStart => exact ⟨(0), z4_, H', ⟨Nat.le_refl _⟩, by repeat (first | exact Drawn0.refl _ | apply Drawn0.step)⟩
 case round =>
  clear H'
  try clear c1
  try clear p2
  try clear c3
  try clear c3b0
  try clear c3b1
  try clear c3b2
  obtain ⟨x5_1, rfl, HA, HK1, ⟨m1, rfl⟩⟩ := hrel
  cases gk with
  | zero => exact absurd HA.out (by simp [raddlekeep_Ints.l0])
  | succ k1 =>
   have H := HA.out
   clear HA
   simp only [raddlekeep_Ints.l0] at H
   by_cases c4 : x5_1 < (l0.length : Int)
   rotate_left
   ·
    rw [if_neg c4] at H
    have c4b0 : decide (x5_1 < (l0.length : Int)) = false := decide_eq_false c4
    clear c4
    obtain rfl := Option.some.inj H
    go_wp2
    repeat (go_quiet (fail); try go_wp2)
    go_ret
    exact ⟨z4_, by repeat (first | exact Drawn0.refl _ | apply Drawn0.step)⟩
   rw [if_pos c4] at H
   have c4b0 : decide (x5_1 < (l0.length : Int)) = true := decide_eq_true c4
   clear c4
   by_cases c5 : 0 ≤ x5_1
   rotate_left
   ·
    rw [if_neg c5] at H
    exact absurd H (by simp)
   rw [if_pos c5] at H
   have c5b0 : decide (0 ≤ x5_1) = true := decide_eq_true c5
   clear c5
   by_cases c6 : x5_1 < (l1.length : Int)
   rotate_left
   ·
    rw [if_neg c6] at H
    exact absurd H (by simp)
   rw [if_pos c6] at H
   have c6b0 : decide (x5_1 < (l1.length : Int)) = true := decide_eq_true c6
   clear c6
   by_cases c7 : (rd l0 x5_1) = (rd l1 x5_1)
   rotate_left
   ·
    rw [if_neg c7] at H
    have c7b0 : ((rd l0 x5_1) == (rd l1 x5_1)) = false := beq_eq_false_iff_ne.mpr c7
    have c7b1 : ((rd l0 x5_1) != (rd l1 x5_1)) = true := bne_iff_ne.mpr c7
    obtain rfl := Option.some.inj H
    have p155 : 0 ≤ (x5_1 : Int) := of_decide_eq_true z1_
    have q155 : x5_1 < (l0.length : Int) := of_decide_eq_true z1_
    obtain ⟨ad155, e155, hx155_0⟩ := Kd.at_int HR0.out x5_1 p155 q155
    cases e155
    replace p155 := eq_true p155
    replace q155 := eq_true q155
    have p156 : 0 ≤ (x5_1 : Int) := of_decide_eq_true z1_
    have q156 : x5_1 < (l1.length : Int) := of_decide_eq_true z1_
    obtain ⟨ad156, e156, hx156_0⟩ := Kd.at_int HR1.out x5_1 p156 q156
    cases e156
    replace p156 := eq_true p156
    replace q156 := eq_true q156
    go_wp2
    repeat (go_quiet (fail); try go_wp2)
    go_ret
    exact ⟨z4_, by repeat (first | exact Drawn0.refl _ | apply Drawn0.step)⟩
   rw [if_pos c7] at H
   have c7b0 : ((rd l0 x5_1) == (rd l1 x5_1)) = true := beq_iff_eq.mpr c7
   have c7b1 : ((rd l0 x5_1) != (rd l1 x5_1)) = false := bne_eq_false_iff_eq.mpr c7
   clear c7
   have H' := mk_ H
   clear H
   have p155 : 0 ≤ (x5_1 : Int) := of_decide_eq_true z1_
   have q155 : x5_1 < (l0.length : Int) := of_decide_eq_true z1_
   obtain ⟨ad155, e155, hx155_0⟩ := Kd.at_int HR0.out x5_1 p155 q155
   cases e155
   replace p155 := eq_true p155
   replace q155 := eq_true q155
   have p156 : 0 ≤ (x5_1 : Int) := of_decide_eq_true z1_
   have q156 : x5_1 < (l1.length : Int) := of_decide_eq_true z1_
   obtain ⟨ad156, e156, hx156_0⟩ := Kd.at_int HR1.out x5_1 p156 q156
   cases e156
   replace p156 := eq_true p156
   replace q156 := eq_true q156
   go_wp2
   repeat (go_quiet (fail); try go_wp2)
   go_roundg k1
   case measure => have := HK1.out; omega
   case rel => exact ⟨(wrap64 (x5_1 + 1)), z4_, H', ⟨by have := HK1.out; omega⟩, by repeat (first | exact Drawn0.refl _ | apply Drawn0.step)⟩
def raddlekeep_Stamp.f (a0_0 : Int) (a0_1 : Int) (a0_2 : Int) (a1_0 : Int) (a1_1 : Int) (a1_2 : Int) : Option (Bool) := if a0_0 = a1_0 then (if a0_1 = a1_1 then (some (a0_2 == a1_2)) else (some false)) else (some false)
theorem raddlekeep_Stamp.calls (a0_0 : Int) (a0_1 : Int) (a0_2 : Int) (a1_0 : Int) (a1_1 : Int) (a1_2 : Int) (r : Bool) (w : World) (h : raddlekeep_Stamp.f a0_0 a0_1 a0_2 a1_0 a1_1 a1_2 = some r) :
  Calls Try.prog 31 #[.agg #[.int .i64 a0_0, .int .i64 a0_1, .int .i64 a0_2], .agg #[.int .i64 a1_0, .int .i64 a1_1, .int .i64 a1_2]] w fun e w' => e = .returned (.bool r) ∧ Below w.heap.size w w' := by
 have hu28 := Try.underlying28
 have HB := mk_ (Below.refl w.heap.size w)
 have H : (if a0_0 = a1_0 then (if a0_1 = a1_1 then (some (a0_2 == a1_2)) else (some false)) else (some false)) = some r := h
 clear h
 by_cases c3 : a0_0 = a1_0
 rotate_left
 rw [if_neg c3] at H
 have c3b0 : (a0_0 == a1_0) = false := beq_eq_false_iff_ne.mpr c3
 have c3b1 : (a0_0 != a1_0) = true := bne_iff_ne.mpr c3
 obtain rfl := Option.some.inj H
 rotate_right
 rw [if_pos c3] at H
 have c3b0 : (a0_0 == a1_0) = true := beq_iff_eq.mpr c3
 have c3b1 : (a0_0 != a1_0) = false := bne_eq_false_iff_eq.mpr c3
 clear c3
 by_cases c4 : a0_1 = a1_1
 rotate_left
 rw [if_neg c4] at H
 have c4b0 : (a0_1 == a1_1) = false := beq_eq_false_iff_ne.mpr c4
 have c4b1 : (a0_1 != a1_1) = true := bne_iff_ne.mpr c4
 obtain rfl := Option.some.inj H
 rotate_right
 rw [if_pos c4] at H
 have c4b0 : (a0_1 == a1_1) = true := beq_iff_eq.mpr c4
 have c4b1 : (a0_1 != a1_1) = false := bne_eq_false_iff_eq.mpr c4
 clear c4
 obtain rfl := Option.some.inj H
 all_goals
  go_enter Try.func31, Try.ntmps31
  go_wp2_with (first | ((with_reducible refine gate_dst (N := 2) rfl ?_); refine box_event ?hg (N := 2) ?hd (cs := #[.int .i64 a0_0, .int .i64 a0_1, .int .i64 a0_2]) (t := 28) ?hr ?_; (case hd => rfl); (case hg => rfl); (case hr => first | (go_simp; done) | (go_simp; rfl)); intro gb157 hg w_2 hbox hb; have n0_ := mk_ (below_step (Short.hB HB) hb); have n1_ := mk_ (hbox); have n2_ := mk_ ((by rw [hg]; exact (below_size (Short.hB HB)) : w.heap.size ≤ gb157)); have n3_ := mk_ ((by rw [hg]; exact (below_size (Short.hB HB)) : w.heap.size ≤ gb157)); clear HB; revert n0_ n1_ n2_ n3_; intro HB BK157 GW157 GE157; clear hb hbox hg) | ((with_reducible refine gate_dst (N := 3) rfl ?_); refine box_event ?hg (N := 3) ?hd (cs := #[.int .i64 a1_0, .int .i64 a1_1, .int .i64 a1_2]) (t := 28) ?hr ?_; (case hd => rfl); (case hg => rfl); (case hr => first | (go_simp; done) | (go_simp; rfl)); intro gb158 hg w_3 hbox hb; have n0_ := mk_ (bB_ BK157 hb); have n1_ := mk_ (below_step (Short.hB HB) hb); have n2_ := mk_ (hbox); have n3_ := mk_ ((by rw [hg]; exact (below_size (Short.hB HB)) : w.heap.size ≤ gb158)); have n4_ := mk_ ((by rw [hg]; exact (below_size (Short.hB HB)) : w.heap.size ≤ gb158)); have n5_ := mk_ ((by rw [hg]; exact Nat.ne_of_lt (blk_lt (Short.bK BK157)) : gb157 ≠ gb158)); have n6_ := mk_ ((by rw [hg]; exact Nat.ne_of_gt (blk_lt (Short.bK BK157)) : gb158 ≠ gb157)); clear BK157 HB; revert n0_ n1_ n2_ n3_ n4_ n5_ n6_; intro BK157 HB BK158 GW158 GE158 NB157_158 NB158_157; clear hb hbox hg; have hnb_3 := NB157_158.out; have hnc_3 := NB158_157.out; obtain ⟨hcz_0, hcz_1, hcz_2, hfz_0, hfz_1, hfz_2⟩ := Short.c3 BK157.out; obtain ⟨hcz_0, hcz_1, hcz_2, hfz_0, hfz_1, hfz_2⟩ := Short.c3 BK158.out))
  go_ret
  exact ⟨q0, Short.hB HB⟩
def raddlekeep_Value.f (a0_0 : Int) (a0_1 : Int) (a0_2 : ByteArray) (a1_0 : Int) (a1_1 : Int) (a1_2 : ByteArray) : Option (Bool) := if a0_0 = a1_0 then (if a0_1 = a1_1 then (some (a0_2.toList == a1_2.toList)) else (some false)) else (some false)
theorem raddlekeep_Value.calls (a0_0 : Int) (a0_1 : Int) (a0_2 : ByteArray) (a1_0 : Int) (a1_1 : Int) (a1_2 : ByteArray) (r : Bool) (w : World) (h : raddlekeep_Value.f a0_0 a0_1 a0_2 a1_0 a1_1 a1_2 = some r) :
  Calls Try.prog 65 #[.agg #[.int .i64 a0_0, .int .i64 a0_1, .string a0_2], .agg #[.int .i64 a1_0, .int .i64 a1_1, .string a1_2]] w fun e w' => e = .returned (.bool r) ∧ Below w.heap.size w w' := by
 have hu84 := Try.underlying84
 have HB := mk_ (Below.refl w.heap.size w)
 have H : (if a0_0 = a1_0 then (if a0_1 = a1_1 then (some (a0_2.toList == a1_2.toList)) else (some false)) else (some false)) = some r := h
 clear h
 by_cases c3 : a0_0 = a1_0
 rotate_left
 rw [if_neg c3] at H
 have c3b0 : (a0_0 == a1_0) = false := beq_eq_false_iff_ne.mpr c3
 have c3b1 : (a0_0 != a1_0) = true := bne_iff_ne.mpr c3
 obtain rfl := Option.some.inj H
 rotate_right
 rw [if_pos c3] at H
 have c3b0 : (a0_0 == a1_0) = true := beq_iff_eq.mpr c3
 have c3b1 : (a0_0 != a1_0) = false := bne_eq_false_iff_eq.mpr c3
 clear c3
 by_cases c4 : a0_1 = a1_1
 rotate_left
 rw [if_neg c4] at H
 have c4b0 : (a0_1 == a1_1) = false := beq_eq_false_iff_ne.mpr c4
 have c4b1 : (a0_1 != a1_1) = true := bne_iff_ne.mpr c4
 obtain rfl := Option.some.inj H
 rotate_right
 rw [if_pos c4] at H
 have c4b0 : (a0_1 == a1_1) = true := beq_iff_eq.mpr c4
 have c4b1 : (a0_1 != a1_1) = false := bne_eq_false_iff_eq.mpr c4
 clear c4
 obtain rfl := Option.some.inj H
 all_goals
  go_enter Try.func65, Try.ntmps65
  go_wp2_with (first | ((with_reducible refine gate_dst (N := 2) rfl ?_); refine box_event ?hg (N := 2) ?hd (cs := #[.int .i64 a0_0, .int .i64 a0_1, .string a0_2]) (t := 84) ?hr ?_; (case hd => rfl); (case hg => rfl); (case hr => first | (go_simp; done) | (go_simp; rfl)); intro gb159 hg w_2 hbox hb; have n0_ := mk_ (below_step (Short.hB HB) hb); have n1_ := mk_ (hbox); have n2_ := mk_ ((by rw [hg]; exact (below_size (Short.hB HB)) : w.heap.size ≤ gb159)); have n3_ := mk_ ((by rw [hg]; exact (below_size (Short.hB HB)) : w.heap.size ≤ gb159)); clear HB; revert n0_ n1_ n2_ n3_; intro HB BK159 GW159 GE159; clear hb hbox hg) | ((with_reducible refine gate_dst (N := 3) rfl ?_); refine box_event ?hg (N := 3) ?hd (cs := #[.int .i64 a1_0, .int .i64 a1_1, .string a1_2]) (t := 84) ?hr ?_; (case hd => rfl); (case hg => rfl); (case hr => first | (go_simp; done) | (go_simp; rfl)); intro gb160 hg w_3 hbox hb; have n0_ := mk_ (bB_ BK159 hb); have n1_ := mk_ (below_step (Short.hB HB) hb); have n2_ := mk_ (hbox); have n3_ := mk_ ((by rw [hg]; exact (below_size (Short.hB HB)) : w.heap.size ≤ gb160)); have n4_ := mk_ ((by rw [hg]; exact (below_size (Short.hB HB)) : w.heap.size ≤ gb160)); have n5_ := mk_ ((by rw [hg]; exact Nat.ne_of_lt (blk_lt (Short.bK BK159)) : gb159 ≠ gb160)); have n6_ := mk_ ((by rw [hg]; exact Nat.ne_of_gt (blk_lt (Short.bK BK159)) : gb160 ≠ gb159)); clear BK159 HB; revert n0_ n1_ n2_ n3_ n4_ n5_ n6_; intro BK159 HB BK160 GW160 GE160 NB159_160 NB160_159; clear hb hbox hg; have hnb_3 := NB159_160.out; have hnc_3 := NB160_159.out; obtain ⟨hcz_0, hcz_1, hcz_2, hfz_0, hfz_1, hfz_2⟩ := Short.c3 BK159.out; obtain ⟨hcz_0, hcz_1, hcz_2, hfz_0, hfz_1, hfz_2⟩ := Short.c3 BK160.out))
  go_ret
  exact ⟨q0, Short.hB HB⟩
def raddlekeep_Row.l0 : Nat → List (S84) → List (S84) → Int → Option (Bool)
 | 0, _, _, _ => none
 | k + 1, x0, x1, x5 => if x5 < (x0.length : Int) then (if 0 ≤ x5 then (if x5 < (x1.length : Int) then ((raddlekeep_Value.f ((rd_T84 x0 x5).f0) ((rd_T84 x0 x5).f1) ((rd_T84 x0 x5).f2) ((rd_T84 x1 x5).f0) ((rd_T84 x1 x5).f1) ((rd_T84 x1 x5).f2)).bind fun t163 => (if t163 = true then (raddlekeep_Row.l0 k x0 x1 (wrap64 (x5 + 1))) else (some false))) else (none)) else (none)) else (some true)
def raddlekeep_Row.f (k : Nat) (l0 : List (S84)) (l1 : List (S84)) : Option (Bool) := if (l0.length : Int) = (l1.length : Int) then (raddlekeep_Row.l0 k l0 l1 0) else (some false)
def raddlekeep_Row.T6 : Bool × List (List Nat × List Nat) := (true, [([], []), ([], []), ([0, 1], [0, 1]), ([2], [2]), ([], []), ([], []), ([4, 5], [4, 5]), ([6], [6]), ([3, 7], [3, 7]), ([8], [8])])
def raddlekeep_Row.B6 : List Nat := [0, 0, 3, 7, 0, 0, 48, 112, 255, 511]
theorem raddlekeep_Row.tab6 : rtab .any (opsOf Try.f32 6) = raddlekeep_Row.T6 := by kernel_rfl
theorem raddlekeep_Row.bits6 : waitsOk raddlekeep_Row.T6.2 raddlekeep_Row.B6 = true := by kernel_rfl
theorem raddlekeep_Row.calls (k : Nat) (A0 : Option Addr) (c0 : Nat) (l0 : List (S84)) (A1 : Option Addr) (c1 : Nat) (l1 : List (S84)) (r : Bool) (w : World) (hr0 : Kd.C k84 w A0 l0.length l0) (hc0 : l0.length ≤ c0) (hr1 : Kd.C k84 w A1 l1.length l1) (hc1 : l1.length ≤ c1) (h : raddlekeep_Row.f k l0 l1 = some r) :
  Calls Try.prog 32 #[.slice A0 l0.length c0, .slice A1 l1.length c1] w fun e w' => e = .returned (.bool r) ∧ Below w.heap.size w w' := by
 have hu84 := Try.underlying84
 have HR0 := mk_ hr0
 have HC0 := mk_ hc0
 clear hr0 hc0
 have HR1 := mk_ hr1
 have HC1 := mk_ hc1
 clear hr1 hc1
 have HB := mk_ (Below.refl w.heap.size w)
 have H : (if (l0.length : Int) = (l1.length : Int) then (raddlekeep_Row.l0 k l0 l1 0) else (some false)) = some r := h
 clear h
 by_cases c3 : (l0.length : Int) = (l1.length : Int)
 rotate_left
 ·
  rw [if_neg c3] at H
  have c3b0 : ((l0.length : Int) == (l1.length : Int)) = false := beq_eq_false_iff_ne.mpr c3
  have c3b1 : ((l0.length : Int) != (l1.length : Int)) = true := bne_iff_ne.mpr c3
  have c3b2 : (l0.length == l1.length) = false := by first | simpa using c3 | (simp at c3 ⊢; omega)
  obtain rfl := Option.some.inj H
  go_enter Try.func32, Try.ntmps32
  go_wp2
  go_ret
  exact ⟨q0, Short.hB HB⟩
 rw [if_pos c3] at H
 have c3b0 : ((l0.length : Int) == (l1.length : Int)) = true := beq_iff_eq.mpr c3
 have c3b1 : ((l0.length : Int) != (l1.length : Int)) = false := bne_eq_false_iff_eq.mpr c3
 have c3b2 : (l0.length == l1.length) = true := by first | simpa using c3 | (simp at c3 ⊢; omega)
 clear c3
 have H' := mk_ H
 clear H
 go_enter Try.func32, Try.ntmps32
 go_wp2
 go_loopg [5] k (fun kq v5 w' => ∃ (x5_1 : Int), v5 = .int .i64 x5_1 ∧ Aside0 (raddlekeep_Row.l0 kq l0 l1 x5_1 = some r) ∧ Aside0 (kq ≤ k) ∧ Aside0 (Below w.heap.size w w'))
 case atStart => exact ⟨(0), z4_, H', ⟨Nat.le_refl _⟩, ⟨Short.hB HB⟩⟩
 case round =>
  clear H'
  try clear c1
  try clear p2
  try clear c3
  try clear c3b0
  try clear c3b1
  try clear c3b2
  obtain ⟨x5_1, rfl, HA, HK1, HB⟩ := hrel
  cases gk with
  | zero => exact absurd HA.out (by simp [raddlekeep_Row.l0])
  | succ k1 =>
   have H := HA.out
   clear HA
   simp only [raddlekeep_Row.l0] at H
   by_cases c4 : x5_1 < (l0.length : Int)
   rotate_left
   ·
    rw [if_neg c4] at H
    have c4b0 : decide (x5_1 < (l0.length : Int)) = false := decide_eq_false c4
    clear c4
    obtain rfl := Option.some.inj H
    go_wp2
    go_ret
    exact ⟨q0, Short.hB HB⟩
   rw [if_pos c4] at H
   have c4b0 : decide (x5_1 < (l0.length : Int)) = true := decide_eq_true c4
   clear c4
   by_cases c5 : 0 ≤ x5_1
   rotate_left
   ·
    rw [if_neg c5] at H
    exact absurd H (by simp)
   rw [if_pos c5] at H
   have c5b0 : decide (0 ≤ x5_1) = true := decide_eq_true c5
   clear c5
   by_cases c6 : x5_1 < (l1.length : Int)
   rotate_left
   ·
    rw [if_neg c6] at H
    exact absurd H (by simp)
   rw [if_pos c6] at H
   have c6b0 : decide (x5_1 < (l1.length : Int)) = true := decide_eq_true c6
   clear c6
   obtain ⟨t163, A7, H⟩ := Option.bind_eq_some_iff.mp H
   replace A7 := mk_ A7
   by_cases c8 : t163 = true
   rotate_left
   ·
    replace c8 := Bool.eq_false_iff.mpr c8
    subst c8
    rw [if_neg (show ¬ (false = true) by decide)] at H
    obtain rfl := Option.some.inj H
    try go_wp2
    have n0_ := mk_ (below_drew1 HB.out)
    clear HB
    revert n0_
    intro HB
    have p161 : 0 ≤ (x5_1 : Int) := of_decide_eq_true z1_
    have q161 : x5_1 < (l0.length : Int) := of_decide_eq_true z1_
    obtain ⟨ad161, e161, hx161_0, hx161_1, hx161_2⟩ := at_T84 HR0.out x5_1 p161 q161
    have hw161_2 := hx161_2
    have hw161_1 := hx161_1
    have hw161_0 := hx161_0
    cases e161
    replace hx161_0 := up_ HB hx161_0
    replace hx161_1 := up_ HB hx161_1
    replace hx161_2 := up_ HB hx161_2
    replace p161 := eq_true p161
    replace q161 := eq_true q161
    have p162 : 0 ≤ (x5_1 : Int) := of_decide_eq_true z1_
    have q162 : x5_1 < (l1.length : Int) := of_decide_eq_true z1_
    obtain ⟨ad162, e162, hx162_0, hx162_1, hx162_2⟩ := at_T84 HR1.out x5_1 p162 q162
    have hw162_2 := hx162_2
    have hw162_1 := hx162_1
    have hw162_0 := hx162_0
    cases e162
    replace hx162_0 := up_ HB hx162_0
    replace hx162_1 := up_ HB hx162_1
    replace hx162_2 := up_ HB hx162_2
    replace p162 := eq_true p162
    replace q162 := eq_true q162
    refine start_ (n := 10) (S := fun w' => w'.cell? (ad161.add ((x5_1).toNat * 3)) = some (.int .i64 ((rd_T84 l0 x5_1).f0)) ∧ w'.cell? ⟨(ad161.add ((x5_1).toNat * 3)).block, (ad161.add ((x5_1).toNat * 3)).off + 1, none⟩ = some (.int .i64 ((rd_T84 l0 x5_1).f1)) ∧ w'.cell? ⟨(ad161.add ((x5_1).toNat * 3)).block, (ad161.add ((x5_1).toNat * 3)).off + 2, none⟩ = some (.string ((rd_T84 l0 x5_1).f2)) ∧ w'.cell? (ad162.add ((x5_1).toNat * 3)) = some (.int .i64 ((rd_T84 l1 x5_1).f0)) ∧ w'.cell? ⟨(ad162.add ((x5_1).toNat * 3)).block, (ad162.add ((x5_1).toNat * 3)).off + 1, none⟩ = some (.int .i64 ((rd_T84 l1 x5_1).f1)) ∧ w'.cell? ⟨(ad162.add ((x5_1).toNat * 3)).block, (ad162.add ((x5_1).toNat * 3)).off + 2, none⟩ = some (.string ((rd_T84 l1 x5_1).f2))) (ds := []) (Steps.Bs 10 0) z0_ rfl rfl ⟨((HB.out.cell (World.block_lt_of_cell? w _ hw161_0)).trans hw161_0), ((HB.out.cell (World.block_lt_of_cell? w _ hw161_1)).trans hw161_1), ((HB.out.cell (World.block_lt_of_cell? w _ hw161_2)).trans hw161_2), ((HB.out.cell (World.block_lt_of_cell? w _ hw162_0)).trans hw162_0), ((HB.out.cell (World.block_lt_of_cell? w _ hw162_1)).trans hw162_1), ((HB.out.cell (World.block_lt_of_cell? w _ hw162_2)).trans hw162_2)⟩ (fun hHeld => ?_); refine with_tabW raddlekeep_Row.tab6 raddlekeep_Row.bits6 (fun HT_ HW_ => ?_)
    generalize wr.drew = w11 at HB hx161_0 hx161_1 hx161_2 hx162_0 hx162_1 hx162_2 hHeld ⊢
    refine tI HT_ 0 17 10 1 ?_
    refine tI HT_ 1 18 10 3 ?_
    refine tI HT_ 2 19 10 7 ?_
    refine tI HT_ 4 21 10 23 ?_
    refine tI HT_ 5 22 10 55 ?_
    refine tI HT_ 6 23 10 119 ?_
    refine tT HT_ HW_ hHeld 3 20 10 127 ?_
    refine tT HT_ HW_ hHeld 7 24 10 255 ?_
    refine one_ (i := 8) (N := some 25) (Steps.Bs 10 511) rfl rfl (one_of HT_.out z0_) z5_ (fun K hK => ?_)
    refine goes_ Try.func65 z0_ rfl #[.agg #[.int .i64 ((rd_T84 l0 x5_1).f0), .int .i64 ((rd_T84 l0 x5_1).f1), .string ((rd_T84 l0 x5_1).f2)], .agg #[.int .i64 ((rd_T84 l1 x5_1).f0), .int .i64 ((rd_T84 l1 x5_1).f1), .string ((rd_T84 l1 x5_1).f2)]] (by rfl) rfl rfl z2_ ?_
    with_reducible refine (raddlekeep_Value.calls ((rd_T84 l0 x5_1).f0) ((rd_T84 l0 x5_1).f1) ((rd_T84 l0 x5_1).f2) ((rd_T84 l1 x5_1).f0) ((rd_T84 l1 x5_1).f1) ((rd_T84 l1 x5_1).f2) false _ A7.out).mono ?_
    rintro e w12 ⟨rfl, hb⟩
    refine ⟨_, rfl, ?_⟩
    have n0_ := mk_ (below_step (Short.hB HB) hb)
    clear HB
    revert n0_
    intro HB
    (try clear hb)
    (try clear hb2)
    (try clear hk)
    (try clear hi)
    refine hK.out _ _ ⟨((HB.out.cell (World.block_lt_of_cell? w _ hw161_0)).trans hw161_0), ((HB.out.cell (World.block_lt_of_cell? w _ hw161_1)).trans hw161_1), ((HB.out.cell (World.block_lt_of_cell? w _ hw161_2)).trans hw161_2), ((HB.out.cell (World.block_lt_of_cell? w _ hw162_0)).trans hw162_0), ((HB.out.cell (World.block_lt_of_cell? w _ hw162_1)).trans hw162_1), ((HB.out.cell (World.block_lt_of_cell? w _ hw162_2)).trans hw162_2)⟩ (fun hHeld => ?_)
    clear hK K
    refine nrm 25 ?_
    refine tI HT_ 9 26 10 1023 ?_
    refine done_ (done_of HT_.out z0_) ?_
    try go_wp2
    go_ret
    exact ⟨q0, Short.hB HB⟩
   subst c8
   rw [if_pos rfl] at H
   have H' := mk_ H
   clear H
   try go_wp2
   have n0_ := mk_ (below_drew1 HB.out)
   clear HB
   revert n0_
   intro HB
   have p161 : 0 ≤ (x5_1 : Int) := of_decide_eq_true z1_
   have q161 : x5_1 < (l0.length : Int) := of_decide_eq_true z1_
   obtain ⟨ad161, e161, hx161_0, hx161_1, hx161_2⟩ := at_T84 HR0.out x5_1 p161 q161
   have hw161_2 := hx161_2
   have hw161_1 := hx161_1
   have hw161_0 := hx161_0
   cases e161
   replace hx161_0 := up_ HB hx161_0
   replace hx161_1 := up_ HB hx161_1
   replace hx161_2 := up_ HB hx161_2
   replace p161 := eq_true p161
   replace q161 := eq_true q161
   have p162 : 0 ≤ (x5_1 : Int) := of_decide_eq_true z1_
   have q162 : x5_1 < (l1.length : Int) := of_decide_eq_true z1_
   obtain ⟨ad162, e162, hx162_0, hx162_1, hx162_2⟩ := at_T84 HR1.out x5_1 p162 q162
   have hw162_2 := hx162_2
   have hw162_1 := hx162_1
   have hw162_0 := hx162_0
   cases e162
   replace hx162_0 := up_ HB hx162_0
   replace hx162_1 := up_ HB hx162_1
   replace hx162_2 := up_ HB hx162_2
   replace p162 := eq_true p162
   replace q162 := eq_true q162
   refine start_ (n := 10) (S := fun w' => w'.cell? (ad161.add ((x5_1).toNat * 3)) = some (.int .i64 ((rd_T84 l0 x5_1).f0)) ∧ w'.cell? ⟨(ad161.add ((x5_1).toNat * 3)).block, (ad161.add ((x5_1).toNat * 3)).off + 1, none⟩ = some (.int .i64 ((rd_T84 l0 x5_1).f1)) ∧ w'.cell? ⟨(ad161.add ((x5_1).toNat * 3)).block, (ad161.add ((x5_1).toNat * 3)).off + 2, none⟩ = some (.string ((rd_T84 l0 x5_1).f2)) ∧ w'.cell? (ad162.add ((x5_1).toNat * 3)) = some (.int .i64 ((rd_T84 l1 x5_1).f0)) ∧ w'.cell? ⟨(ad162.add ((x5_1).toNat * 3)).block, (ad162.add ((x5_1).toNat * 3)).off + 1, none⟩ = some (.int .i64 ((rd_T84 l1 x5_1).f1)) ∧ w'.cell? ⟨(ad162.add ((x5_1).toNat * 3)).block, (ad162.add ((x5_1).toNat * 3)).off + 2, none⟩ = some (.string ((rd_T84 l1 x5_1).f2))) (ds := []) (Steps.Bs 10 0) z0_ rfl rfl ⟨((HB.out.cell (World.block_lt_of_cell? w _ hw161_0)).trans hw161_0), ((HB.out.cell (World.block_lt_of_cell? w _ hw161_1)).trans hw161_1), ((HB.out.cell (World.block_lt_of_cell? w _ hw161_2)).trans hw161_2), ((HB.out.cell (World.block_lt_of_cell? w _ hw162_0)).trans hw162_0), ((HB.out.cell (World.block_lt_of_cell? w _ hw162_1)).trans hw162_1), ((HB.out.cell (World.block_lt_of_cell? w _ hw162_2)).trans hw162_2)⟩ (fun hHeld => ?_); refine with_tabW raddlekeep_Row.tab6 raddlekeep_Row.bits6 (fun HT_ HW_ => ?_)
   generalize wr.drew = w9 at HB hx161_0 hx161_1 hx161_2 hx162_0 hx162_1 hx162_2 hHeld ⊢
   refine tI HT_ 0 17 10 1 ?_
   refine tI HT_ 1 18 10 3 ?_
   refine tI HT_ 2 19 10 7 ?_
   refine tI HT_ 4 21 10 23 ?_
   refine tI HT_ 5 22 10 55 ?_
   refine tI HT_ 6 23 10 119 ?_
   refine tT HT_ HW_ hHeld 3 20 10 127 ?_
   refine tT HT_ HW_ hHeld 7 24 10 255 ?_
   refine one_ (i := 8) (N := some 25) (Steps.Bs 10 511) rfl rfl (one_of HT_.out z0_) z5_ (fun K hK => ?_)
   refine goes_ Try.func65 z0_ rfl #[.agg #[.int .i64 ((rd_T84 l0 x5_1).f0), .int .i64 ((rd_T84 l0 x5_1).f1), .string ((rd_T84 l0 x5_1).f2)], .agg #[.int .i64 ((rd_T84 l1 x5_1).f0), .int .i64 ((rd_T84 l1 x5_1).f1), .string ((rd_T84 l1 x5_1).f2)]] (by rfl) rfl rfl z2_ ?_
   with_reducible refine (raddlekeep_Value.calls ((rd_T84 l0 x5_1).f0) ((rd_T84 l0 x5_1).f1) ((rd_T84 l0 x5_1).f2) ((rd_T84 l1 x5_1).f0) ((rd_T84 l1 x5_1).f1) ((rd_T84 l1 x5_1).f2) true _ A7.out).mono ?_
   rintro e w10 ⟨rfl, hb⟩
   refine ⟨_, rfl, ?_⟩
   have n0_ := mk_ (below_step (Short.hB HB) hb)
   clear HB
   revert n0_
   intro HB
   (try clear hb)
   (try clear hb2)
   (try clear hk)
   (try clear hi)
   refine hK.out _ _ ⟨((HB.out.cell (World.block_lt_of_cell? w _ hw161_0)).trans hw161_0), ((HB.out.cell (World.block_lt_of_cell? w _ hw161_1)).trans hw161_1), ((HB.out.cell (World.block_lt_of_cell? w _ hw161_2)).trans hw161_2), ((HB.out.cell (World.block_lt_of_cell? w _ hw162_0)).trans hw162_0), ((HB.out.cell (World.block_lt_of_cell? w _ hw162_1)).trans hw162_1), ((HB.out.cell (World.block_lt_of_cell? w _ hw162_2)).trans hw162_2)⟩ (fun hHeld => ?_)
   clear hK K
   refine nrm 25 ?_
   refine tI HT_ 9 26 10 1023 ?_
   refine done_ (done_of HT_.out z0_) ?_
   try go_wp2
   go_roundg k1
   case measure => have := HK1.out; omega
   case rel => exact ⟨(wrap64 (x5_1 + 1)), z4_, H', ⟨by have := HK1.out; omega⟩, ⟨Short.hB HB⟩⟩
end Go.Proofs.Ytjnjfogfpmeacaa.PAll
end
section
namespace Go.Proofs.Ytjnjfogfpmeacaa.PAll
open Go.RowKit PrintWords PrintLast PrintMore ZipT PrintWords.Kd PrintMore.Kd
attribute [local go_sem] max2_int min2_int max_two min_two max_three min_three max_four min_four   -- for this text's walks alone
set_option linter.unusedVariables false
set_option linter.unusedSimpArgs false
def raddlekeep_Dots.l0 : Nat → List (S25) → List (S25) → Int → Option (Bool)
 | 0, _, _, _ => none
 | k + 1, x0, x1, x5 => if x5 < (x0.length : Int) then (if 0 ≤ x5 then (if x5 < (x1.length : Int) then ((raddlekeep_Dot.f ((rd_T25 x0 x5).f0) ((rd_T25 x0 x5).f1) ((rd_T25 x1 x5).f0) ((rd_T25 x1 x5).f1)).bind fun t166 => (if t166 = true then (raddlekeep_Dots.l0 k x0 x1 (wrap64 (x5 + 1))) else (some false))) else (none)) else (none)) else (some true)
def raddlekeep_Dots.f (k : Nat) (l0 : List (S25)) (l1 : List (S25)) : Option (Bool) := if (l0.length : Int) = (l1.length : Int) then (raddlekeep_Dots.l0 k l0 l1 0) else (some false)
def raddlekeep_Dots.T6 : Bool × List (List Nat × List Nat) := (true, [([], []), ([], []), ([0, 1], [0, 1]), ([2], [2]), ([], []), ([], []), ([4, 5], [4, 5]), ([6], [6]), ([3, 7], [3, 7]), ([8], [8])])
def raddlekeep_Dots.B6 : List Nat := [0, 0, 3, 7, 0, 0, 48, 112, 255, 511]
theorem raddlekeep_Dots.tab6 : rtab .any (opsOf Try.f33 6) = raddlekeep_Dots.T6 := by kernel_rfl
theorem raddlekeep_Dots.bits6 : waitsOk raddlekeep_Dots.T6.2 raddlekeep_Dots.B6 = true := by kernel_rfl
theorem raddlekeep_Dots.calls (k : Nat) (A0 : Option Addr) (c0 : Nat) (l0 : List (S25)) (A1 : Option Addr) (c1 : Nat) (l1 : List (S25)) (r : Bool) (w : World) (hr0 : Kd.C k25 w A0 l0.length l0) (hc0 : l0.length ≤ c0) (hr1 : Kd.C k25 w A1 l1.length l1) (hc1 : l1.length ≤ c1) (h : raddlekeep_Dots.f k l0 l1 = some r) :
  Calls Try.prog 33 #[.slice A0 l0.length c0, .slice A1 l1.length c1] w fun e w' => e = .returned (.bool r) ∧ Below w.heap.size w w' := by
 have hu25 := Try.underlying25
 have HR0 := mk_ hr0
 have HC0 := mk_ hc0
 clear hr0 hc0
 have HR1 := mk_ hr1
 have HC1 := mk_ hc1
 clear hr1 hc1
 have HB := mk_ (Below.refl w.heap.size w)
 have H : (if (l0.length : Int) = (l1.length : Int) then (raddlekeep_Dots.l0 k l0 l1 0) else (some false)) = some r := h
 clear h
 by_cases c3 : (l0.length : Int) = (l1.length : Int)
 rotate_left
 ·
  rw [if_neg c3] at H
  have c3b0 : ((l0.length : Int) == (l1.length : Int)) = false := beq_eq_false_iff_ne.mpr c3
  have c3b1 : ((l0.length : Int) != (l1.length : Int)) = true := bne_iff_ne.mpr c3
  have c3b2 : (l0.length == l1.length) = false := by first | simpa using c3 | (simp at c3 ⊢; omega)
  obtain rfl := Option.some.inj H
  go_enter Try.func33, Try.ntmps33
  go_wp2
  go_ret
  exact ⟨q0, Short.hB HB⟩
 rw [if_pos c3] at H
 have c3b0 : ((l0.length : Int) == (l1.length : Int)) = true := beq_iff_eq.mpr c3
 have c3b1 : ((l0.length : Int) != (l1.length : Int)) = false := bne_eq_false_iff_eq.mpr c3
 have c3b2 : (l0.length == l1.length) = true := by first | simpa using c3 | (simp at c3 ⊢; omega)
 clear c3
 have H' := mk_ H
 clear H
 go_enter Try.func33, Try.ntmps33
 go_wp2
 go_loopg [5] k (fun kq v5 w' => ∃ (x5_1 : Int), v5 = .int .i64 x5_1 ∧ Aside0 (raddlekeep_Dots.l0 kq l0 l1 x5_1 = some r) ∧ Aside0 (kq ≤ k) ∧ Aside0 (Below w.heap.size w w'))
 case atStart => exact ⟨(0), z4_, H', ⟨Nat.le_refl _⟩, ⟨Short.hB HB⟩⟩
 case round =>
  clear H'
  try clear c1
  try clear p2
  try clear c3
  try clear c3b0
  try clear c3b1
  try clear c3b2
  obtain ⟨x5_1, rfl, HA, HK1, HB⟩ := hrel
  cases gk with
  | zero => exact absurd HA.out (by simp [raddlekeep_Dots.l0])
  | succ k1 =>
   have H := HA.out
   clear HA
   simp only [raddlekeep_Dots.l0] at H
   by_cases c4 : x5_1 < (l0.length : Int)
   rotate_left
   ·
    rw [if_neg c4] at H
    have c4b0 : decide (x5_1 < (l0.length : Int)) = false := decide_eq_false c4
    clear c4
    obtain rfl := Option.some.inj H
    go_wp2
    go_ret
    exact ⟨q0, Short.hB HB⟩
   rw [if_pos c4] at H
   have c4b0 : decide (x5_1 < (l0.length : Int)) = true := decide_eq_true c4
   clear c4
   by_cases c5 : 0 ≤ x5_1
   rotate_left
   ·
    rw [if_neg c5] at H
    exact absurd H (by simp)
   rw [if_pos c5] at H
   have c5b0 : decide (0 ≤ x5_1) = true := decide_eq_true c5
   clear c5
   by_cases c6 : x5_1 < (l1.length : Int)
   rotate_left
   ·
    rw [if_neg c6] at H
    exact absurd H (by simp)
   rw [if_pos c6] at H
   have c6b0 : decide (x5_1 < (l1.length : Int)) = true := decide_eq_true c6
   clear c6
   obtain ⟨t166, A7, H⟩ := Option.bind_eq_some_iff.mp H
   replace A7 := mk_ A7
   by_cases c8 : t166 = true
   rotate_left
   ·
    replace c8 := Bool.eq_false_iff.mpr c8
    subst c8
    rw [if_neg (show ¬ (false = true) by decide)] at H
    obtain rfl := Option.some.inj H
    try go_wp2
    have n0_ := mk_ (below_drew1 HB.out)
    clear HB
    revert n0_
    intro HB
    have p164 : 0 ≤ (x5_1 : Int) := of_decide_eq_true z1_
    have q164 : x5_1 < (l0.length : Int) := of_decide_eq_true z1_
    obtain ⟨ad164, e164, hx164_0, hx164_1⟩ := at_T25 HR0.out x5_1 p164 q164
    have hw164_1 := hx164_1
    have hw164_0 := hx164_0
    cases e164
    replace hx164_0 := up_ HB hx164_0
    replace hx164_1 := up_ HB hx164_1
    replace p164 := eq_true p164
    replace q164 := eq_true q164
    have p165 : 0 ≤ (x5_1 : Int) := of_decide_eq_true z1_
    have q165 : x5_1 < (l1.length : Int) := of_decide_eq_true z1_
    obtain ⟨ad165, e165, hx165_0, hx165_1⟩ := at_T25 HR1.out x5_1 p165 q165
    have hw165_1 := hx165_1
    have hw165_0 := hx165_0
    cases e165
    replace hx165_0 := up_ HB hx165_0
    replace hx165_1 := up_ HB hx165_1
    replace p165 := eq_true p165
    replace q165 := eq_true q165
    refine start_ (n := 10) (S := fun w' => w'.cell? (ad164.add ((x5_1).toNat * 2)) = some (.int .i64 ((rd_T25 l0 x5_1).f0)) ∧ w'.cell? ⟨(ad164.add ((x5_1).toNat * 2)).block, (ad164.add ((x5_1).toNat * 2)).off + 1, none⟩ = some (.int .i64 ((rd_T25 l0 x5_1).f1)) ∧ w'.cell? (ad165.add ((x5_1).toNat * 2)) = some (.int .i64 ((rd_T25 l1 x5_1).f0)) ∧ w'.cell? ⟨(ad165.add ((x5_1).toNat * 2)).block, (ad165.add ((x5_1).toNat * 2)).off + 1, none⟩ = some (.int .i64 ((rd_T25 l1 x5_1).f1))) (ds := []) (Steps.Bs 10 0) z0_ rfl rfl ⟨((HB.out.cell (World.block_lt_of_cell? w _ hw164_0)).trans hw164_0), ((HB.out.cell (World.block_lt_of_cell? w _ hw164_1)).trans hw164_1), ((HB.out.cell (World.block_lt_of_cell? w _ hw165_0)).trans hw165_0), ((HB.out.cell (World.block_lt_of_cell? w _ hw165_1)).trans hw165_1)⟩ (fun hHeld => ?_); refine with_tabW raddlekeep_Dots.tab6 raddlekeep_Dots.bits6 (fun HT_ HW_ => ?_)
    generalize wr.drew = w11 at HB hx164_0 hx164_1 hx165_0 hx165_1 hHeld ⊢
    refine tI HT_ 0 17 10 1 ?_
    refine tI HT_ 1 18 10 3 ?_
    refine tI HT_ 2 19 10 7 ?_
    refine tI HT_ 4 21 10 23 ?_
    refine tI HT_ 5 22 10 55 ?_
    refine tI HT_ 6 23 10 119 ?_
    refine tT HT_ HW_ hHeld 3 20 10 127 ?_
    refine tT HT_ HW_ hHeld 7 24 10 255 ?_
    refine one_ (i := 8) (N := some 25) (Steps.Bs 10 511) rfl rfl (one_of HT_.out z0_) z5_ (fun K hK => ?_)
    refine goes_ Try.func29 z0_ rfl #[.agg #[.int .i64 ((rd_T25 l0 x5_1).f0), .int .i64 ((rd_T25 l0 x5_1).f1)], .agg #[.int .i64 ((rd_T25 l1 x5_1).f0), .int .i64 ((rd_T25 l1 x5_1).f1)]] (by rfl) rfl rfl z2_ ?_
    with_reducible refine (raddlekeep_Dot.calls ((rd_T25 l0 x5_1).f0) ((rd_T25 l0 x5_1).f1) ((rd_T25 l1 x5_1).f0) ((rd_T25 l1 x5_1).f1) false _ A7.out).mono ?_
    rintro e w12 ⟨rfl, hb⟩
    refine ⟨_, rfl, ?_⟩
    have n0_ := mk_ (below_step (Short.hB HB) hb)
    clear HB
    revert n0_
    intro HB
    (try clear hb)
    (try clear hb2)
    (try clear hk)
    (try clear hi)
    refine hK.out _ _ ⟨((HB.out.cell (World.block_lt_of_cell? w _ hw164_0)).trans hw164_0), ((HB.out.cell (World.block_lt_of_cell? w _ hw164_1)).trans hw164_1), ((HB.out.cell (World.block_lt_of_cell? w _ hw165_0)).trans hw165_0), ((HB.out.cell (World.block_lt_of_cell? w _ hw165_1)).trans hw165_1)⟩ (fun hHeld => ?_)
    clear hK K
    refine nrm 25 ?_
    refine tI HT_ 9 26 10 1023 ?_
    refine done_ (done_of HT_.out z0_) ?_
    try go_wp2
    go_ret
    exact ⟨q0, Short.hB HB⟩
   subst c8
   rw [if_pos rfl] at H
   have H' := mk_ H
   clear H
   try go_wp2
   have n0_ := mk_ (below_drew1 HB.out)
   clear HB
   revert n0_
   intro HB
   have p164 : 0 ≤ (x5_1 : Int) := of_decide_eq_true z1_
   have q164 : x5_1 < (l0.length : Int) := of_decide_eq_true z1_
   obtain ⟨ad164, e164, hx164_0, hx164_1⟩ := at_T25 HR0.out x5_1 p164 q164
   have hw164_1 := hx164_1
   have hw164_0 := hx164_0
   cases e164
   replace hx164_0 := up_ HB hx164_0
   replace hx164_1 := up_ HB hx164_1
   replace p164 := eq_true p164
   replace q164 := eq_true q164
   have p165 : 0 ≤ (x5_1 : Int) := of_decide_eq_true z1_
   have q165 : x5_1 < (l1.length : Int) := of_decide_eq_true z1_
   obtain ⟨ad165, e165, hx165_0, hx165_1⟩ := at_T25 HR1.out x5_1 p165 q165
   have hw165_1 := hx165_1
   have hw165_0 := hx165_0
   cases e165
   replace hx165_0 := up_ HB hx165_0
   replace hx165_1 := up_ HB hx165_1
   replace p165 := eq_true p165
   replace q165 := eq_true q165
   refine start_ (n := 10) (S := fun w' => w'.cell? (ad164.add ((x5_1).toNat * 2)) = some (.int .i64 ((rd_T25 l0 x5_1).f0)) ∧ w'.cell? ⟨(ad164.add ((x5_1).toNat * 2)).block, (ad164.add ((x5_1).toNat * 2)).off + 1, none⟩ = some (.int .i64 ((rd_T25 l0 x5_1).f1)) ∧ w'.cell? (ad165.add ((x5_1).toNat * 2)) = some (.int .i64 ((rd_T25 l1 x5_1).f0)) ∧ w'.cell? ⟨(ad165.add ((x5_1).toNat * 2)).block, (ad165.add ((x5_1).toNat * 2)).off + 1, none⟩ = some (.int .i64 ((rd_T25 l1 x5_1).f1))) (ds := []) (Steps.Bs 10 0) z0_ rfl rfl ⟨((HB.out.cell (World.block_lt_of_cell? w _ hw164_0)).trans hw164_0), ((HB.out.cell (World.block_lt_of_cell? w _ hw164_1)).trans hw164_1), ((HB.out.cell (World.block_lt_of_cell? w _ hw165_0)).trans hw165_0), ((HB.out.cell (World.block_lt_of_cell? w _ hw165_1)).trans hw165_1)⟩ (fun hHeld => ?_); refine with_tabW raddlekeep_Dots.tab6 raddlekeep_Dots.bits6 (fun HT_ HW_ => ?_)
   generalize wr.drew = w9 at HB hx164_0 hx164_1 hx165_0 hx165_1 hHeld ⊢
   refine tI HT_ 0 17 10 1 ?_
   refine tI HT_ 1 18 10 3 ?_
   refine tI HT_ 2 19 10 7 ?_
   refine tI HT_ 4 21 10 23 ?_
   refine tI HT_ 5 22 10 55 ?_
   refine tI HT_ 6 23 10 119 ?_
   refine tT HT_ HW_ hHeld 3 20 10 127 ?_
   refine tT HT_ HW_ hHeld 7 24 10 255 ?_
   refine one_ (i := 8) (N := some 25) (Steps.Bs 10 511) rfl rfl (one_of HT_.out z0_) z5_ (fun K hK => ?_)
   refine goes_ Try.func29 z0_ rfl #[.agg #[.int .i64 ((rd_T25 l0 x5_1).f0), .int .i64 ((rd_T25 l0 x5_1).f1)], .agg #[.int .i64 ((rd_T25 l1 x5_1).f0), .int .i64 ((rd_T25 l1 x5_1).f1)]] (by rfl) rfl rfl z2_ ?_
   with_reducible refine (raddlekeep_Dot.calls ((rd_T25 l0 x5_1).f0) ((rd_T25 l0 x5_1).f1) ((rd_T25 l1 x5_1).f0) ((rd_T25 l1 x5_1).f1) true _ A7.out).mono ?_
   rintro e w10 ⟨rfl, hb⟩
   refine ⟨_, rfl, ?_⟩
   have n0_ := mk_ (below_step (Short.hB HB) hb)
   clear HB
   revert n0_
   intro HB
   (try clear hb)
   (try clear hb2)
   (try clear hk)
   (try clear hi)
   refine hK.out _ _ ⟨((HB.out.cell (World.block_lt_of_cell? w _ hw164_0)).trans hw164_0), ((HB.out.cell (World.block_lt_of_cell? w _ hw164_1)).trans hw164_1), ((HB.out.cell (World.block_lt_of_cell? w _ hw165_0)).trans hw165_0), ((HB.out.cell (World.block_lt_of_cell? w _ hw165_1)).trans hw165_1)⟩ (fun hHeld => ?_)
   clear hK K
   refine nrm 25 ?_
   refine tI HT_ 9 26 10 1023 ?_
   refine done_ (done_of HT_.out z0_) ?_
   try go_wp2
   go_roundg k1
   case measure => have := HK1.out; omega
   case rel => exact ⟨(wrap64 (x5_1 + 1)), z4_, H', ⟨by have := HK1.out; omega⟩, ⟨Short.hB HB⟩⟩
def raddlekeep_Op.f (k : Nat) (a0_0 : Int) (a0_1 : Int) (l0_2 : List Int) (a0_3 : Int) (a0_4 : Int) (a0_5 : Int) (a0_6 : Int) (a0_7 : Int) (a0_8 : ByteArray) (a0_9 : Int) (l0_10 : List (S84)) (l0_11 : List (S25)) (a1_0 : Int) (a1_1 : Int) (l1_2 : List Int) (a1_3 : Int) (a1_4 : Int) (a1_5 : Int) (a1_6 : Int) (a1_7 : Int) (a1_8 : ByteArray) (a1_9 : Int) (l1_10 : List (S84)) (l1_11 : List (S25)) : Option (Bool) := (raddlekeep_Dot.f a0_0 a0_1 a1_0 a1_1).bind fun t169 => (if t169 = true then ((raddlekeep_Ints.f k l0_2 l1_2).bind fun t170 => (if t170 = true then ((raddlekeep_Stamp.f a0_3 a0_4 a0_5 a1_3 a1_4 a1_5).bind fun t171 => (if t171 = true then (if a0_6 = a1_6 then (if a0_7 = a1_7 then (if a0_8.toList = a1_8.toList then (if a0_9 = a1_9 then ((raddlekeep_Row.f k l0_10 l1_10).bind fun t172 => (if t172 = true then ((raddlekeep_Dots.f k l0_11 l1_11).bind fun t173 => (some t173)) else (some false))) else (some false)) else (some false)) else (some false)) else (some false)) else (some false))) else (some false))) else (some false))
theorem raddlekeep_Op.calls (k : Nat) (a0_0 : Int) (a0_1 : Int) (A0_2 : Option Addr) (c0_2 : Nat) (l0_2 : List Int) (a0_3 : Int) (a0_4 : Int) (a0_5 : Int) (a0_6 : Int) (a0_7 : Int) (a0_8 : ByteArray) (a0_9 : Int) (A0_10 : Option Addr) (c0_10 : Nat) (l0_10 : List (S84)) (A0_11 : Option Addr) (c0_11 : Nat) (l0_11 : List (S25)) (a1_0 : Int) (a1_1 : Int) (A1_2 : Option Addr) (c1_2 : Nat) (l1_2 : List Int) (a1_3 : Int) (a1_4 : Int) (a1_5 : Int) (a1_6 : Int) (a1_7 : Int) (a1_8 : ByteArray) (a1_9 : Int) (A1_10 : Option Addr) (c1_10 : Nat) (l1_10 : List (S84)) (A1_11 : Option Addr) (c1_11 : Nat) (l1_11 : List (S25)) (r : Bool) (w : World) (hr0_2 : Kd.C (Kd.int .i64) w A0_2 l0_2.length l0_2) (hc0_2 : l0_2.length ≤ c0_2) (hr0_10 : Kd.C k84 w A0_10 l0_10.length l0_10) (hc0_10 : l0_10.length ≤ c0_10) (hr0_11 : Kd.C k25 w A0_11 l0_11.length l0_11) (hc0_11 : l0_11.length ≤ c0_11) (hr1_2 : Kd.C (Kd.int .i64) w A1_2 l1_2.length l1_2) (hc1_2 : l1_2.length ≤ c1_2) (hr1_10 : Kd.C k84 w A1_10 l1_10.length l1_10) (hc1_10 : l1_10.length ≤ c1_10) (hr1_11 : Kd.C k25 w A1_11 l1_11.length l1_11) (hc1_11 : l1_11.length ≤ c1_11) (h : raddlekeep_Op.f k a0_0 a0_1 l0_2 a0_3 a0_4 a0_5 a0_6 a0_7 a0_8 a0_9 l0_10 l0_11 a1_0 a1_1 l1_2 a1_3 a1_4 a1_5 a1_6 a1_7 a1_8 a1_9 l1_10 l1_11 = some r) :
  Calls Try.prog 13 #[.agg #[.int .i64 a0_0, .int .i64 a0_1, .slice A0_2 l0_2.length c0_2, .int .i64 a0_3, .int .i64 a0_4, .int .i64 a0_5, .int .i64 a0_6, .int .i64 a0_7, .string a0_8, .int .i64 a0_9, .slice A0_10 l0_10.length c0_10, .slice A0_11 l0_11.length c0_11], .agg #[.int .i64 a1_0, .int .i64 a1_1, .slice A1_2 l1_2.length c1_2, .int .i64 a1_3, .int .i64 a1_4, .int .i64 a1_5, .int .i64 a1_6, .int .i64 a1_7, .string a1_8, .int .i64 a1_9, .slice A1_10 l1_10.length c1_10, .slice A1_11 l1_11.length c1_11]] w fun e w' => e = .returned (.bool r) ∧ Below w.heap.size w w' := by
 have hu32 := Try.underlying32
 have hu25 := Try.underlying25
 have hu28 := Try.underlying28
 have HR0_2 := mk_ hr0_2
 have HC0_2 := mk_ hc0_2
 clear hr0_2 hc0_2
 have HR0_10 := mk_ hr0_10
 have HC0_10 := mk_ hc0_10
 clear hr0_10 hc0_10
 have HR0_11 := mk_ hr0_11
 have HC0_11 := mk_ hc0_11
 clear hr0_11 hc0_11
 have HR1_2 := mk_ hr1_2
 have HC1_2 := mk_ hc1_2
 clear hr1_2 hc1_2
 have HR1_10 := mk_ hr1_10
 have HC1_10 := mk_ hc1_10
 clear hr1_10 hc1_10
 have HR1_11 := mk_ hr1_11
 have HC1_11 := mk_ hc1_11
 clear hr1_11 hc1_11
 have HB := mk_ (Below.refl w.heap.size w)
 have H : ((raddlekeep_Dot.f a0_0 a0_1 a1_0 a1_1).bind fun t169 => (if t169 = true then ((raddlekeep_Ints.f k l0_2 l1_2).bind fun t170 => (if t170 = true then ((raddlekeep_Stamp.f a0_3 a0_4 a0_5 a1_3 a1_4 a1_5).bind fun t171 => (if t171 = true then (if a0_6 = a1_6 then (if a0_7 = a1_7 then (if a0_8.toList = a1_8.toList then (if a0_9 = a1_9 then ((raddlekeep_Row.f k l0_10 l1_10).bind fun t172 => (if t172 = true then ((raddlekeep_Dots.f k l0_11 l1_11).bind fun t173 => (some t173)) else (some false))) else (some false)) else (some false)) else (some false)) else (some false)) else (some false))) else (some false))) else (some false))) = some r := h
 clear h
 obtain ⟨t169, A3, H⟩ := Option.bind_eq_some_iff.mp H
 replace A3 := mk_ A3
 by_cases c4 : t169 = true
 rotate_left
 replace c4 := Bool.eq_false_iff.mpr c4
 subst c4
 rw [if_neg (show ¬ (false = true) by decide)] at H
 obtain rfl := Option.some.inj H
 rotate_right
 subst c4
 rw [if_pos rfl] at H
 obtain ⟨t170, A5, H⟩ := Option.bind_eq_some_iff.mp H
 replace A5 := mk_ A5
 by_cases c6 : t170 = true
 rotate_left
 replace c6 := Bool.eq_false_iff.mpr c6
 subst c6
 rw [if_neg (show ¬ (false = true) by decide)] at H
 obtain rfl := Option.some.inj H
 rotate_right
 subst c6
 rw [if_pos rfl] at H
 obtain ⟨t171, A7, H⟩ := Option.bind_eq_some_iff.mp H
 replace A7 := mk_ A7
 by_cases c8 : t171 = true
 rotate_left
 replace c8 := Bool.eq_false_iff.mpr c8
 subst c8
 rw [if_neg (show ¬ (false = true) by decide)] at H
 obtain rfl := Option.some.inj H
 rotate_right
 subst c8
 rw [if_pos rfl] at H
 by_cases c9 : a0_6 = a1_6
 rotate_left
 rw [if_neg c9] at H
 have c9b0 : (a0_6 == a1_6) = false := beq_eq_false_iff_ne.mpr c9
 have c9b1 : (a0_6 != a1_6) = true := bne_iff_ne.mpr c9
 obtain rfl := Option.some.inj H
 rotate_right
 rw [if_pos c9] at H
 have c9b0 : (a0_6 == a1_6) = true := beq_iff_eq.mpr c9
 have c9b1 : (a0_6 != a1_6) = false := bne_eq_false_iff_eq.mpr c9
 clear c9
 by_cases c10 : a0_7 = a1_7
 rotate_left
 rw [if_neg c10] at H
 have c10b0 : (a0_7 == a1_7) = false := beq_eq_false_iff_ne.mpr c10
 have c10b1 : (a0_7 != a1_7) = true := bne_iff_ne.mpr c10
 obtain rfl := Option.some.inj H
 rotate_right
 rw [if_pos c10] at H
 have c10b0 : (a0_7 == a1_7) = true := beq_iff_eq.mpr c10
 have c10b1 : (a0_7 != a1_7) = false := bne_eq_false_iff_eq.mpr c10
 clear c10
 by_cases c11 : a0_8.toList = a1_8.toList
 rotate_left
 rw [if_neg c11] at H
 have c11b0 : (a0_8.toList == a1_8.toList) = false := beq_eq_false_iff_ne.mpr c11
 have c11b1 : (a0_8.toList != a1_8.toList) = true := bne_iff_ne.mpr c11
 obtain rfl := Option.some.inj H
 rotate_right
 rw [if_pos c11] at H
 have c11b0 : (a0_8.toList == a1_8.toList) = true := beq_iff_eq.mpr c11
 have c11b1 : (a0_8.toList != a1_8.toList) = false := bne_eq_false_iff_eq.mpr c11
 clear c11
 by_cases c12 : a0_9 = a1_9
 rotate_left
 rw [if_neg c12] at H
 have c12b0 : (a0_9 == a1_9) = false := beq_eq_false_iff_ne.mpr c12
 have c12b1 : (a0_9 != a1_9) = true := bne_iff_ne.mpr c12
 obtain rfl := Option.some.inj H
 rotate_right
 rw [if_pos c12] at H
 have c12b0 : (a0_9 == a1_9) = true := beq_iff_eq.mpr c12
 have c12b1 : (a0_9 != a1_9) = false := bne_eq_false_iff_eq.mpr c12
 clear c12
 obtain ⟨t172, A13, H⟩ := Option.bind_eq_some_iff.mp H
 replace A13 := mk_ A13
 by_cases c14 : t172 = true
 rotate_left
 replace c14 := Bool.eq_false_iff.mpr c14
 subst c14
 rw [if_neg (show ¬ (false = true) by decide)] at H
 obtain rfl := Option.some.inj H
 rotate_right
 subst c14
 rw [if_pos rfl] at H
 obtain ⟨t173, A15, H⟩ := Option.bind_eq_some_iff.mp H
 replace A15 := mk_ A15
 obtain rfl := Option.some.inj H
 all_goals
  go_enter Try.func13, Try.ntmps13
  go_wp2_with (first | ((with_reducible refine gate_dst (N := 2) rfl ?_); refine box_event ?hg (N := 2) ?hd (cs := #[.int .i64 a0_0, .int .i64 a0_1, .slice A0_2 l0_2.length c0_2, .int .i64 a0_3, .int .i64 a0_4, .int .i64 a0_5, .int .i64 a0_6, .int .i64 a0_7, .string a0_8, .int .i64 a0_9, .slice A0_10 l0_10.length c0_10, .slice A0_11 l0_11.length c0_11]) (t := 32) ?hr ?_; (case hd => rfl); (case hg => rfl); (case hr => first | (go_simp; done) | (go_simp; rfl)); intro gb167 hg w_2 hbox hb; have n0_ := mk_ (below_step (Short.hB HB) hb); have n1_ := mk_ (hbox); have n2_ := mk_ ((by rw [hg]; exact (below_size (Short.hB HB)) : w.heap.size ≤ gb167)); have n3_ := mk_ ((by rw [hg]; exact (below_size (Short.hB HB)) : w.heap.size ≤ gb167)); clear HB; revert n0_ n1_ n2_ n3_; intro HB BK167 GW167 GE167; clear hb hbox hg) | ((with_reducible refine gate_dst (N := 3) rfl ?_); refine box_event ?hg (N := 3) ?hd (cs := #[.int .i64 a1_0, .int .i64 a1_1, .slice A1_2 l1_2.length c1_2, .int .i64 a1_3, .int .i64 a1_4, .int .i64 a1_5, .int .i64 a1_6, .int .i64 a1_7, .string a1_8, .int .i64 a1_9, .slice A1_10 l1_10.length c1_10, .slice A1_11 l1_11.length c1_11]) (t := 32) ?hr ?_; (case hd => rfl); (case hg => rfl); (case hr => first | (go_simp; done) | (go_simp; rfl)); intro gb168 hg w_3 hbox hb; have n0_ := mk_ (bB_ BK167 hb); have n1_ := mk_ (below_step (Short.hB HB) hb); have n2_ := mk_ (hbox); have n3_ := mk_ ((by rw [hg]; exact (below_size (Short.hB HB)) : w.heap.size ≤ gb168)); have n4_ := mk_ ((by rw [hg]; exact (below_size (Short.hB HB)) : w.heap.size ≤ gb168)); have n5_ := mk_ ((by rw [hg]; exact Nat.ne_of_lt (blk_lt (Short.bK BK167)) : gb167 ≠ gb168)); have n6_ := mk_ ((by rw [hg]; exact Nat.ne_of_gt (blk_lt (Short.bK BK167)) : gb168 ≠ gb167)); clear BK167 HB; revert n0_ n1_ n2_ n3_ n4_ n5_ n6_; intro BK167 HB BK168 GW168 GE168 NB167_168 NB168_167; clear hb hbox hg; have hnb_3 := NB167_168.out; have hnc_3 := NB168_167.out; have hcz_0 := blk_cell BK167.out; have hfz_0 := blk_frozen BK167.out; have hcz_0 := blk_cell BK168.out; have hfz_0 := blk_frozen BK168.out) | ((with_reducible refine gate_callee (f := 29) rfl ?_); refine Short.gL (some 9) Try.func29 #[.agg #[.int .i64 a0_0, .int .i64 a0_1], .agg #[.int .i64 a1_0, .int .i64 a1_1]] (h := ?_); (with_reducible refine (raddlekeep_Dot.calls a0_0 a0_1 a1_0 a1_1 false _ A3.out).mono ?_); rintro e w_9 ⟨rfl, hb⟩; refine ⟨_, rfl, ?_⟩; have n0_ := mk_ (bB_ BK167 hb); have n1_ := mk_ (bB_ BK168 hb); have n2_ := mk_ (below_step (Short.hB HB) hb); clear BK167 BK168 HB; revert n0_ n1_ n2_; intro BK167 BK168 HB; (try clear hb)) | ((with_reducible refine gate_callee (f := 29) rfl ?_); refine Short.gL (some 9) Try.func29 #[.agg #[.int .i64 a0_0, .int .i64 a0_1], .agg #[.int .i64 a1_0, .int .i64 a1_1]] (h := ?_); (with_reducible refine (raddlekeep_Dot.calls a0_0 a0_1 a1_0 a1_1 true _ A3.out).mono ?_); rintro e w_9 ⟨rfl, hb⟩; refine ⟨_, rfl, ?_⟩; have n0_ := mk_ (bB_ BK167 hb); have n1_ := mk_ (bB_ BK168 hb); have n2_ := mk_ (below_step (Short.hB HB) hb); clear BK167 BK168 HB; revert n0_ n1_ n2_; intro BK167 BK168 HB; (try clear hb); have hcz_0 := blk_cell BK167.out; have hfz_0 := blk_frozen BK167.out; have hcz_0 := blk_cell BK168.out; have hfz_0 := blk_frozen BK168.out) | (go_at_call 30; (with_reducible refine (raddlekeep_Ints.calls k _ _ l0_2 _ _ l1_2 _ _ ?side1 ?side2 ?side3 ?side4 A5.out).mono ?_); (case side1 => exact cX_ (C_below HR0_2.out HB.out)); (case side2 => exact HC0_2.out); (case side3 => exact cX_ (C_below HR1_2.out HB.out)); (case side4 => exact HC1_2.out); rintro e w' ⟨rfl, ⟨nd, rfl⟩⟩) | (go_at_call 31; (with_reducible refine (raddlekeep_Stamp.calls a0_3 a0_4 a0_5 a1_3 a1_4 a1_5 false _ A7.out).mono ?_); rintro e w_x4 ⟨rfl, hb⟩; have n0_ := mk_ (bB_ BK167 hb); have n1_ := mk_ (bB_ BK168 hb); have n2_ := mk_ (below_step (Short.hB HB) hb); clear BK167 BK168 HB; revert n0_ n1_ n2_; intro BK167 BK168 HB; (try clear hb); (try clear hb2); (try clear hk); (try clear hi)) | (go_at_call 31; (with_reducible refine (raddlekeep_Stamp.calls a0_3 a0_4 a0_5 a1_3 a1_4 a1_5 true _ A7.out).mono ?_); rintro e w_x4 ⟨rfl, hb⟩; have n0_ := mk_ (bB_ BK167 hb); have n1_ := mk_ (bB_ BK168 hb); have n2_ := mk_ (below_step (Short.hB HB) hb); clear BK167 BK168 HB; revert n0_ n1_ n2_; intro BK167 BK168 HB; (try clear hb); (try clear hb2); (try clear hk); (try clear hi); have hcz_0 := blk_cell BK167.out; have hfz_0 := blk_frozen BK167.out; have hcz_0 := blk_cell BK168.out; have hfz_0 := blk_frozen BK168.out) | (go_at_call 32; (with_reducible refine (raddlekeep_Row.calls k _ _ l0_10 _ _ l1_10 false _ ?side1 ?side2 ?side3 ?side4 A13.out).mono ?_); (case side1 => exact cX_ (C_below HR0_10.out HB.out)); (case side2 => exact HC0_10.out); (case side3 => exact cX_ (C_below HR1_10.out HB.out)); (case side4 => exact HC1_10.out); rintro e w_x5 ⟨rfl, hb⟩; have n0_ := mk_ (bB_ BK167 hb); have n1_ := mk_ (bB_ BK168 hb); have n2_ := mk_ (below_step (Short.hB HB) hb); clear BK167 BK168 HB; revert n0_ n1_ n2_; intro BK167 BK168 HB; (try clear hb); (try clear hb2); (try clear hk); (try clear hi)) | (go_at_call 32; (with_reducible refine (raddlekeep_Row.calls k _ _ l0_10 _ _ l1_10 true _ ?side1 ?side2 ?side3 ?side4 A13.out).mono ?_); (case side1 => exact cX_ (C_below HR0_10.out HB.out)); (case side2 => exact HC0_10.out); (case side3 => exact cX_ (C_below HR1_10.out HB.out)); (case side4 => exact HC1_10.out); rintro e w_x5 ⟨rfl, hb⟩; have n0_ := mk_ (bB_ BK167 hb); have n1_ := mk_ (bB_ BK168 hb); have n2_ := mk_ (below_step (Short.hB HB) hb); clear BK167 BK168 HB; revert n0_ n1_ n2_; intro BK167 BK168 HB; (try clear hb); (try clear hb2); (try clear hk); (try clear hi); have hcz_0 := blk_cell BK167.out; have hfz_0 := blk_frozen BK167.out; have hcz_0 := blk_cell BK168.out; have hfz_0 := blk_frozen BK168.out) | (go_at_call 33; (with_reducible refine (raddlekeep_Dots.calls k _ _ l0_11 _ _ l1_11 t173 _ ?side1 ?side2 ?side3 ?side4 A15.out).mono ?_); (case side1 => exact cX_ (C_below HR0_11.out HB.out)); (case side2 => exact HC0_11.out); (case side3 => exact cX_ (C_below HR1_11.out HB.out)); (case side4 => exact HC1_11.out); rintro e w_x6 ⟨rfl, hb⟩; have n0_ := mk_ (bB_ BK167 hb); have n1_ := mk_ (bB_ BK168 hb); have n2_ := mk_ (below_step (Short.hB HB) hb); clear BK167 BK168 HB; revert n0_ n1_ n2_; intro BK167 BK168 HB; (try clear hb); (try clear hb2); (try clear hk); (try clear hi)))
  go_ret
  exact ⟨q0, Short.hB HB⟩
def row_wrong.f (a0_0 : Int) (a0_1 : Int) (a0_2 : ByteArray) : Option (Bool) := (value_Check.f a0_0 a0_1 a0_2).bind fun t175 => (some (t175 != 0))
theorem row_wrong.calls (a0_0 : Int) (a0_1 : Int) (a0_2 : ByteArray) (r : Bool) (w : World) (h : row_wrong.f a0_0 a0_1 a0_2 = some r) :
  Calls Try.prog 86 #[.agg #[.int .i64 a0_0, .int .i64 a0_1, .string a0_2]] w fun e w' => e = .returned (.bool r) ∧ Below w.heap.size w w' := by
 have hu84 := Try.underlying84
 have HB := mk_ (Below.refl w.heap.size w)
 have H : ((value_Check.f a0_0 a0_1 a0_2).bind fun t175 => (some (t175 != 0))) = some r := h
 clear h
 obtain ⟨t175, A2, H⟩ := Option.bind_eq_some_iff.mp H
 replace A2 := mk_ A2
 obtain rfl := Option.some.inj H
 go_enter Try.func86, Try.ntmps86
 go_wp2_with (first | ((with_reducible refine gate_dst (N := 1) rfl ?_); refine box_event ?hg (N := 1) ?hd (cs := #[.int .i64 a0_0, .int .i64 a0_1, .string a0_2]) (t := 84) ?hr ?_; (case hd => rfl); (case hg => rfl); (case hr => first | (go_simp; done) | (go_simp; rfl)); intro gb174 hg w3 hbox hb; have n0_ := mk_ (below_step (Short.hB HB) hb); have n1_ := mk_ (hbox); have n2_ := mk_ ((by rw [hg]; exact (below_size (Short.hB HB)) : w.heap.size ≤ gb174)); have n3_ := mk_ ((by rw [hg]; exact (below_size (Short.hB HB)) : w.heap.size ≤ gb174)); clear HB; revert n0_ n1_ n2_ n3_; intro HB BK174 GW174 GE174; clear hb hbox hg; obtain ⟨hcz_0, hcz_1, hcz_2, hfz_0, hfz_1, hfz_2⟩ := Short.c3 BK174.out) | ((with_reducible refine gate_callee (f := 87) rfl ?_); refine Short.gL (some 4) Try.func87 #[.agg #[.int .i64 a0_0, .int .i64 a0_1, .string a0_2]] (h := ?_); (with_reducible refine (value_Check.calls a0_0 a0_1 a0_2 t175 _ A2.out).mono ?_); rintro e w5 ⟨rfl, hb⟩; refine ⟨_, rfl, ?_⟩; have n0_ := mk_ (bB_ BK174 hb); have n1_ := mk_ (below_step (Short.hB HB) hb); clear BK174 HB; revert n0_ n1_; intro BK174 HB; (try clear hb)))
 go_ret
 exact ⟨q0, Short.hB HB⟩
def slices_IndexFunc_at_row_wrong.l0 : Nat → List (S84) → Int → Int → Option (Int)
 | 0, _, _, _ => none
 | k + 1, x0, x7, x8 => if x8 < x7 then (if 0 ≤ x8 then (if x8 < (x0.length : Int) then ((row_wrong.f ((rd_T84 x0 x8).f0) ((rd_T84 x0 x8).f1) ((rd_T84 x0 x8).f2)).bind fun t177 => (if t177 = true then (some x8) else (slices_IndexFunc_at_row_wrong.l0 k x0 x7 (wrap64 (x8 + 1))))) else (none)) else (none)) else (some (-1))
def slices_IndexFunc_at_row_wrong.f (k : Nat) (l0 : List (S84)) (a1 : Unit) : Option (Int) := slices_IndexFunc_at_row_wrong.l0 k l0 (l0.length : Int) 0
theorem slices_IndexFunc_at_row_wrong.calls (k : Nat) (A0 : Option Addr) (c0 : Nat) (l0 : List (S84)) (a1 : Unit) (r : Int) (w : World) (hr0 : Kd.C k84 w A0 l0.length l0) (hc0 : l0.length ≤ c0) (h : slices_IndexFunc_at_row_wrong.f k l0 a1 = some r) :
  Calls Try.prog 106 #[.slice A0 l0.length c0, .func (.func 86) #[] #[]] w fun e w' => e = .returned (.int .i64 r) ∧ Below w.heap.size w w' := by
 have hu84 := Try.underlying84
 have HR0 := mk_ hr0
 have HC0 := mk_ hc0
 clear hr0 hc0
 have HB := mk_ (Below.refl w.heap.size w)
 have H : (slices_IndexFunc_at_row_wrong.l0 k l0 (l0.length : Int) 0) = some r := h
 clear h
 have H' := mk_ H
 clear H
 go_enter Try.func106, Try.ntmps106
 go_wp2
 go_loopg [8] k (fun kq v8 w' => ∃ (x8_1 : Int), v8 = .int .i64 x8_1 ∧ Aside0 (slices_IndexFunc_at_row_wrong.l0 kq l0 (l0.length : Int) x8_1 = some r) ∧ Aside0 (kq ≤ k) ∧ Aside0 (Below w.heap.size w w'))
 case atStart => exact ⟨(0), z4_, H', ⟨Nat.le_refl _⟩, ⟨Short.hB HB⟩⟩
 case round =>
  clear H'
  try clear p2
  obtain ⟨x8_1, rfl, HA, HK1, HB⟩ := hrel
  cases gk with
  | zero => exact absurd HA.out (by simp [slices_IndexFunc_at_row_wrong.l0])
  | succ k1 =>
   have H := HA.out
   clear HA
   simp only [slices_IndexFunc_at_row_wrong.l0] at H
   by_cases c3 : x8_1 < (l0.length : Int)
   rotate_left
   ·
    rw [if_neg c3] at H
    have c3b0 : decide (x8_1 < (l0.length : Int)) = false := decide_eq_false c3
    clear c3
    obtain rfl := Option.some.inj H
    go_wp2
    go_ret
    exact ⟨q0, Short.hB HB⟩
   rw [if_pos c3] at H
   have c3b0 : decide (x8_1 < (l0.length : Int)) = true := decide_eq_true c3
   clear c3
   by_cases c4 : 0 ≤ x8_1
   rotate_left
   ·
    rw [if_neg c4] at H
    exact absurd H (by simp)
   rw [if_pos c4] at H
   have c4b0 : decide (0 ≤ x8_1) = true := decide_eq_true c4
   clear c4
   by_cases c5 : x8_1 < (l0.length : Int)
   rotate_left
   ·
    rw [if_neg c5] at H
    exact absurd H (by simp)
   rw [if_pos c5] at H
   have c5b0 : decide (x8_1 < (l0.length : Int)) = true := decide_eq_true c5
   clear c5
   obtain ⟨t177, A6, H⟩ := Option.bind_eq_some_iff.mp H
   replace A6 := mk_ A6
   by_cases c7 : t177 = true
   ·
    subst c7
    rw [if_pos rfl] at H
    obtain rfl := Option.some.inj H
    have p176 : 0 ≤ (x8_1 : Int) := of_decide_eq_true z1_
    have q176 : x8_1 < (l0.length : Int) := of_decide_eq_true z1_
    obtain ⟨ad176, e176, hx176_0, hx176_1, hx176_2⟩ := at_T84 HR0.out x8_1 p176 q176
    cases e176
    replace hx176_0 := up_ HB hx176_0
    replace hx176_1 := up_ HB hx176_1
    replace hx176_2 := up_ HB hx176_2
    replace p176 := eq_true p176
    replace q176 := eq_true q176
    go_wp2_with (first | ((first | ((with_reducible refine gate_callee (f := 86) rfl ?_); refine Short.gL (some 16) Try.func86 #[.agg #[.int .i64 ((rd_T84 l0 x8_1).f0), .int .i64 ((rd_T84 l0 x8_1).f1), .string ((rd_T84 l0 x8_1).f2)]] (h := ?_)) | ((with_reducible refine Go.Proofs.Ytjnjfogfpmeacaa.Steps.gate_any rfl ?_); refine Go.Proofs.Ytjnjfogfpmeacaa.Steps.goesV_ (some 16) rfl rfl Try.func86 z0_ rfl #[.agg #[.int .i64 ((rd_T84 l0 x8_1).f0), .int .i64 ((rd_T84 l0 x8_1).f1), .string ((rd_T84 l0 x8_1).f2)]] rfl (by first | rfl | go_simp) z2_ ?_)); (with_reducible refine (row_wrong.calls ((rd_T84 l0 x8_1).f0) ((rd_T84 l0 x8_1).f1) ((rd_T84 l0 x8_1).f2) true _ A6.out).mono ?_); rintro e w8 ⟨rfl, hb⟩; refine ⟨_, rfl, ?_⟩; have n0_ := mk_ (below_step (Short.hB HB) hb); clear HB; revert n0_; intro HB; (try clear hb)))
    go_ret
    exact ⟨q0, Short.hB HB⟩
   replace c7 := Bool.eq_false_iff.mpr c7
   subst c7
   rw [if_neg (show ¬ (false = true) by decide)] at H
   have H' := mk_ H
   clear H
   have p176 : 0 ≤ (x8_1 : Int) := of_decide_eq_true z1_
   have q176 : x8_1 < (l0.length : Int) := of_decide_eq_true z1_
   obtain ⟨ad176, e176, hx176_0, hx176_1, hx176_2⟩ := at_T84 HR0.out x8_1 p176 q176
   cases e176
   replace hx176_0 := up_ HB hx176_0
   replace hx176_1 := up_ HB hx176_1
   replace hx176_2 := up_ HB hx176_2
   replace p176 := eq_true p176
   replace q176 := eq_true q176
   go_wp2_with (first | ((first | ((with_reducible refine gate_callee (f := 86) rfl ?_); refine Short.gL (some 16) Try.func86 #[.agg #[.int .i64 ((rd_T84 l0 x8_1).f0), .int .i64 ((rd_T84 l0 x8_1).f1), .string ((rd_T84 l0 x8_1).f2)]] (h := ?_)) | ((with_reducible refine Go.Proofs.Ytjnjfogfpmeacaa.Steps.gate_any rfl ?_); refine Go.Proofs.Ytjnjfogfpmeacaa.Steps.goesV_ (some 16) rfl rfl Try.func86 z0_ rfl #[.agg #[.int .i64 ((rd_T84 l0 x8_1).f0), .int .i64 ((rd_T84 l0 x8_1).f1), .string ((rd_T84 l0 x8_1).f2)]] rfl (by first | rfl | go_simp) z2_ ?_)); (with_reducible refine (row_wrong.calls ((rd_T84 l0 x8_1).f0) ((rd_T84 l0 x8_1).f1) ((rd_T84 l0 x8_1).f2) false _ A6.out).mono ?_); rintro e w9 ⟨rfl, hb⟩; refine ⟨_, rfl, ?_⟩; have n0_ := mk_ (below_step (Short.hB HB) hb); clear HB; revert n0_; intro HB; (try clear hb)))
   go_roundg k1
   case measure => have := HK1.out; omega
   case rel => exact ⟨(wrap64 (x8_1 + 1)), z4_, H', ⟨by have := HK1.out; omega⟩, ⟨Short.hB HB⟩⟩
def slices_ContainsFunc_at_row_wrong.f (k : Nat) (l0 : List (S84)) (a1 : Unit) : Option (Bool) := (slices_IndexFunc_at_row_wrong.f k l0 a1).bind fun t178 => (some (decide (t178 ≥ 0)))
theorem slices_ContainsFunc_at_row_wrong.calls (k : Nat) (A0 : Option Addr) (c0 : Nat) (l0 : List (S84)) (a1 : Unit) (r : Bool) (w : World) (hr0 : Kd.C k84 w A0 l0.length l0) (hc0 : l0.length ≤ c0) (h : slices_ContainsFunc_at_row_wrong.f k l0 a1 = some r) :
  Calls Try.prog 85 #[.slice A0 l0.length c0, .func (.func 86) #[] #[]] w fun e w' => e = .returned (.bool r) ∧ Below w.heap.size w w' := by
 have HR0 := mk_ hr0
 have HC0 := mk_ hc0
 clear hr0 hc0
 have HB := mk_ (Below.refl w.heap.size w)
 have H : ((slices_IndexFunc_at_row_wrong.f k l0 a1).bind fun t178 => (some (decide (t178 ≥ 0)))) = some r := h
 clear h
 obtain ⟨t178, A3, H⟩ := Option.bind_eq_some_iff.mp H
 replace A3 := mk_ A3
 obtain rfl := Option.some.inj H
 go_enter Try.func85, Try.ntmps85
 go_wp2_with (first | ((first | ((with_reducible refine gate_callee (f := 106) rfl ?_); refine Short.gL (some 7) Try.func106 #[.slice A0 l0.length c0, .func (.func 86) #[] #[]] (h := ?_)) | ((with_reducible refine Go.Proofs.Ytjnjfogfpmeacaa.Steps.gate_any rfl ?_); refine Go.Proofs.Ytjnjfogfpmeacaa.Steps.goesV_ (some 7) rfl rfl Try.func106 z0_ rfl #[.slice A0 l0.length c0, .func (.func 86) #[] #[]] rfl (by first | rfl | go_simp) z2_ ?_)); (with_reducible refine (slices_IndexFunc_at_row_wrong.calls k _ _ l0 a1 t178 _ ?side1 ?side2 A3.out).mono ?_); (case side1 => repeat (first | exact HR0.out | (with_reducible refine C_alloc ?_ _) | (with_reducible refine C_drewN ?_ _) | (with_reducible refine C_drew ?_))); (case side2 => exact HC0.out); rintro e w4 ⟨rfl, hb⟩; refine ⟨_, rfl, ?_⟩; have n0_ := mk_ (below_step (Short.hB HB) hb); clear HB; revert n0_; intro HB; (try clear hb)))
 go_ret
 exact ⟨q0, Short.hB HB⟩
def row_Check.f (k : Nat) (l0 : List (S84)) : Option (Int) := if (l0.length : Int) > 12 then (some 2) else ((slices_ContainsFunc_at_row_wrong.f k l0 ()).bind fun t179 => (if t179 = true then (some 1) else (some 0)))
theorem row_Check.calls (k : Nat) (A0 : Option Addr) (c0 : Nat) (l0 : List (S84)) (r : Int) (w : World) (hr0 : Kd.C k84 w A0 l0.length l0) (hc0 : l0.length ≤ c0) (h : row_Check.f k l0 = some r) :
  Calls Try.prog 46 #[.slice A0 l0.length c0] w fun e w' => e = .returned (.int .i64 r) ∧ Below w.heap.size w w' := by
 have HR0 := mk_ hr0
 have HC0 := mk_ hc0
 clear hr0 hc0
 have HB := mk_ (Below.refl w.heap.size w)
 have H : (if (l0.length : Int) > 12 then (some 2) else ((slices_ContainsFunc_at_row_wrong.f k l0 ()).bind fun t179 => (if t179 = true then (some 1) else (some 0)))) = some r := h
 clear h
 by_cases c2 : (l0.length : Int) > 12
 ·
  rw [if_pos c2] at H
  have c2b0 : decide (12 < (l0.length : Int)) = true := decide_eq_true c2
  have c2b1 : decide (12 < l0.length) = true := decide_eq_true z3_
  clear c2
  obtain rfl := Option.some.inj H
  go_enter Try.func46, Try.ntmps46
  go_wp2
  go_ret
  exact ⟨q0, Short.hB HB⟩
 rw [if_neg c2] at H
 have c2b0 : decide (12 < (l0.length : Int)) = false := decide_eq_false c2
 have c2b1 : decide (12 < l0.length) = false := decide_eq_false z3_
 clear c2
 obtain ⟨t179, A3, H⟩ := Option.bind_eq_some_iff.mp H
 replace A3 := mk_ A3
 by_cases c4 : t179 = true
 ·
  subst c4
  rw [if_pos rfl] at H
  obtain rfl := Option.some.inj H
  go_enter Try.func46, Try.ntmps46
  go_wp2_with (first | ((with_reducible refine gate_callee (f := 85) rfl ?_); refine Short.gL (some 9) Try.func85 #[.slice A0 l0.length c0, .func (.func 86) #[] #[]] (h := ?_); (with_reducible refine (slices_ContainsFunc_at_row_wrong.calls k _ _ l0 () true _ ?side1 ?side2 A3.out).mono ?_); (case side1 => repeat (first | exact HR0.out | (with_reducible refine C_alloc ?_ _) | (with_reducible refine C_drewN ?_ _) | (with_reducible refine C_drew ?_))); (case side2 => exact HC0.out); rintro e w5 ⟨rfl, hb⟩; refine ⟨_, rfl, ?_⟩; have n0_ := mk_ (below_step (Short.hB HB) hb); clear HB; revert n0_; intro HB; (try clear hb)))
  go_ret
  exact ⟨q0, Short.hB HB⟩
 replace c4 := Bool.eq_false_iff.mpr c4
 subst c4
 rw [if_neg (show ¬ (false = true) by decide)] at H
 obtain rfl := Option.some.inj H
 go_enter Try.func46, Try.ntmps46
 go_wp2_with (first | ((with_reducible refine gate_callee (f := 85) rfl ?_); refine Short.gL (some 9) Try.func85 #[.slice A0 l0.length c0, .func (.func 86) #[] #[]] (h := ?_); (with_reducible refine (slices_ContainsFunc_at_row_wrong.calls k _ _ l0 () false _ ?side1 ?side2 A3.out).mono ?_); (case side1 => repeat (first | exact HR0.out | (with_reducible refine C_alloc ?_ _) | (with_reducible refine C_drewN ?_ _) | (with_reducible refine C_drew ?_))); (case side2 => exact HC0.out); rintro e w6 ⟨rfl, hb⟩; refine ⟨_, rfl, ?_⟩; have n0_ := mk_ (below_step (Short.hB HB) hb); clear HB; revert n0_; intro HB; (try clear hb)))
 go_ret
 exact ⟨q0, Short.hB HB⟩
def slices_Clone_byte_byte.f (l0 : List Int) : Option (List Int) := (some (([] : List Int) : List Int)).bind fun y180 => (if y180.length + l0.length < 140737488355328 then (some (y180 ++ l0)) else (none))
theorem slices_Clone_byte_byte.calls (A0 : Option Addr) (c0 : Nat) (l0 : List Int) (r : List Int) (w : World) (hr0 : Kd.C (Kd.int .u8) w A0 l0.length l0) (hc0 : l0.length ≤ c0) (h : slices_Clone_byte_byte.f l0 = some r) :
  Calls Try.prog 109 #[.slice A0 l0.length c0] w fun e w' => ∃ v0_ : Value, e = .returned (v0_) ∧ Kd.R (Kd.int .u8) 5 w' w.heap.size (fun _ => True) v0_ r ∧ Below w.heap.size w w' := by
 have HR0 := mk_ hr0
 have HC0 := mk_ hc0
 clear hr0 hc0
 cases A0 with
 | none =>
  have hl_ : l0 = [] := by
   rcases l0 with _ | ⟨x_, xs_⟩
   ·
    rfl
   ·
    obtain ⟨ad_, e_, _⟩ := HR0.out.2.2 (by simp)
    exact absurd e_ (by simp)
  subst hl_
  have hr_ : r = [] := by simpa [slices_Clone_byte_byte.f] using h.symm
  subst hr_
  have hnil_ := fun W : World => Lib.run_eql_slice_nil (P := Try.prog) W 22 5 none 0 c0 0 0 Try.underlying22
  go_enter Try.func109, Try.ntmps109
  go_wp2
  go_ret
  exact ⟨_, rfl, R_nil _ _ _ _ _, Below.refl _ _⟩
 | some a0_ =>
 have hnil_ := fun W : World => Lib.run_eql_slice_nil (P := Try.prog) W 22 5 (some a0_) l0.length c0 0 0 Try.underlying22
 have HB := mk_ (Below.refl w.heap.size w)
 have H : ((some (([] : List Int) : List Int)).bind fun y180 => (if y180.length + l0.length < 140737488355328 then (some (y180 ++ l0)) else (none))) = some r := h
 clear h
 obtain ⟨y180, hy180⟩ : ∃ y_ : List Int, y_ = (([] : List Int)) := ⟨_, rfl⟩
 replace H : (if y180.length + l0.length < 140737488355328 then (some (y180 ++ l0)) else (none)) = some r := by first | (rw [hy180]; with_reducible exact H) | (have H2_ := (Option.bind_some _ _).symm.trans H; rw [hy180]; with_reducible exact H2_) | (have H2_ := (Option.bind_some _ _).symm.trans H; with_reducible exact H2_) | with_reducible exact H | (rw [hy180]; exact H) | exact H
 have Ny180 := mk_ hy180
 clear hy180
 by_cases c2 : y180.length + l0.length < 140737488355328
 rotate_left
 ·
  rw [if_neg c2] at H
  exact absurd H (by simp)
 rw [if_pos c2] at H
 have LMc2 := mk_ c2
 clear c2
 obtain ⟨y183, hy183⟩ : ∃ y_ : List Int, y_ = (y180 ++ l0) := ⟨_, rfl⟩
 replace H : (some y183) = some r := by first | (rw [hy183]; with_reducible exact H) | (have H2_ := (Option.bind_some _ _).symm.trans H; rw [hy183]; with_reducible exact H2_) | (have H2_ := (Option.bind_some _ _).symm.trans H; with_reducible exact H2_) | with_reducible exact H | (rw [hy183]; exact H) | exact H
 have Ny183 := mk_ hy183
 clear hy183
 obtain rfl := Option.some.inj H
 go_enter Try.func109, Try.ntmps109
 go_wp2_with (first | ((with_reducible refine gate_dst (N := 5) rfl ?_); refine R_lit (Kd.int .u8) _ 5 ?hg (N := 5) ?hd (xs := ([] : List Int)) (inner := []) (ok := fun _ => True) (okp := fun _ => True) ?hr ?hp (fun _ hk => hk) trivial (Below.refl _ _) (Nat.le_refl _) (by simp) ?_; (case hd => rfl); (case hg => rfl); (case hr => first | (go_simp; done) | (go_simp; rfl)); (case hp => exact (Reps.none _ _)); intro v181 w3 ho4 hb hg_ hnew_; clear hg_ hnew_; (first | rw [← Ny180.out] at ho4 | (simp only [Int.reduceToNat] at ho4; rw [← Ny180.out] at ho4)); have n0_ := mk_ (R_lower ho4 (below_size (Short.hB HB))); have n1_ := mk_ (below_step (Short.hB HB) hb); clear HB; revert n0_ n1_; intro HO182 HB; clear hb ho4) | ((with_reducible refine gate_builtin (b := .append) (xs := #[.tmp 5, .tmp 6]) rfl ?_); at_builtin; refine R_append_rows (Kd.int .u8) (w0 := w) w.heap.size rfl (.tmp 5) (.tmp 6) 22 5 (.int .u8 0) 1 rfl Try.underlying22 info5 rfl z5_ z3_ v181 y180 l0 _ _ _ (fun _ => True) (fun _ => False) rfl rfl ?aO ?aR (fun _ _ h => h) (fun _ h => h.elim) ?aF ?aB ?aS ?aL ?_; (case aR => exact cX_ (C_below HR0.out HB.out)); (case aB => exact (Short.hB HB)); (case aF => exact (fun _ _ => trivial)); (case aO => exact (ZKR HO182)); (case aS => exact (below_size (Short.hB HB))); (case aL => have := LMc2.out; omega); intro v184 w5 ho hb hg hat; rw [← Ny183.out] at ho; have n0_ := mk_ (hb); have n1_ := mk_ (ho); clear HB HO182; revert n0_ n1_; intro HB HO185; clear ho hb hg hat))
 go_ret
 exact ⟨_, by first | rfl | (simp [errW_none, errW_some] <;> rfl) | (simp [*, errW_none, errW_some] <;> rfl), by (with_reducible repeat (first | apply R_alloc | apply R_drewN | apply R_drew)); exact HO185.out, Short.hB HB⟩
end Go.Proofs.Ytjnjfogfpmeacaa.PAll
end
