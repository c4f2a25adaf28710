-- Put together by a program of this session (wip/slice2.py) out of the seat's texts.
import Derived.Test.YtcbfliajgopdaaaZSUT
import Derived.Laws.StructEq
import Derived.Test.YtcbfliajgopdaaaProg
import Derived.WalkSpells
import Derived.Lib.SliceRun
import Derived.Laws.Cover1
set_option maxHeartbeats 8000000
set_option maxRecDepth 100000
open Go.Proofs.YtcbfliajgopdaaaW Go.Proofs.Ytcbfliajgopdaaa
section
namespace Go.Proofs.Ytcbfliajgopdaaa.PAll
open Go.RowKit PrintWords PrintLast PrintMore ZipT PrintWords.Kd PrintMore.Kd
attribute [local go_sem] eC eA eN eR dR dP eD eB   -- for this text's walks alone
set_option linter.unusedVariables false
set_option linter.unusedSimpArgs false
def errW : Option Int → Value
 | none => .nilIface
 | some c => .iface 0 (.int .i64 c)
theorem bD : errW none = .nilIface := rfl
theorem bC (c : Int) : errW (some c) = .iface 0 (.int .i64 c) := rfl
theorem info5 : (Try.prog.info? 5).map (fun i => (i.zero, i.size, i.bytes)) = some (some (.int .u8 0), 1, 1) := by kernel_rfl
theorem info89 : (Try.prog.info? 89).map (fun i => (i.zero, i.size, i.bytes)) = some (some (.agg #[(.int .i64 0), (.int .i64 0), (.string ⟨#[]⟩)]), 3, 32) := by kernel_rfl
structure S89 where
 f0 : Int
 f1 : Int
 f2 : ByteArray
def z89 : S89 := ⟨(0 : Int), (0 : Int), (⟨#[]⟩ : ByteArray)⟩
def k89 : Kd S89 := Kd.iso (Kd.pair (Kd.int .i64) (Kd.pair (Kd.int .i64) Kd.string)) (fun x : S89 => (x.f0, x.f1, x.f2))
theorem k89_open {w : World} {x : S89} {cs : List Value} (h : k89.K w x cs) : cs = [.int .i64 x.f0, .int .i64 x.f1, .string x.f2] := by
 obtain ⟨_, _, rfl, rfl, ⟨_, _, rfl, rfl, rfl⟩⟩ := h
 exact rfl
theorem k89_mkM (w : World) (base : Nat) (ok : Nat → Prop) (x : S89)  : k89.M w base ok x [.int .i64 x.f0, .int .i64 x.f1, .string x.f2] := ⟨[.int .i64 x.f0], [.int .i64 x.f1, .string x.f2], rfl, rfl, ⟨[.int .i64 x.f1], [.string x.f2], rfl, rfl, rfl⟩⟩
def bF (xs : List S89) (i : Int) : S89 := xs.getD i.toNat z89
theorem gS {w : World} {A : Option Addr} {n : Nat} {xs : List S89} (h : Kd.C k89 w A n xs) (i : Int) (h0 : 0 ≤ i) (h1 : i < n) : ∃ ad , A = some ad ∧ w.cell? (ad.add (i.toNat * 3)) = some (.int .i64 (bF xs i).f0) ∧ w.cell? ⟨(ad.add (i.toNat * 3)).block, (ad.add (i.toNat * 3)).off + 1, none⟩ = some (.int .i64 (bF xs i).f1) ∧ w.cell? ⟨(ad.add (i.toNat * 3)).block, (ad.add (i.toNat * 3)).off + 2, none⟩ = some (.string (bF xs i).f2) := by
 obtain ⟨ad, c, e, _, hK, hc0⟩ := C_get h z89 i h0 h1
 have hc : ∀ j u, c[j]? = some u → w.cell? (ad.add (i.toNat * 3 + j)) = some u := hc0
 obtain rfl := k89_open hK
 exact ⟨ad, e, hc 0 _ rfl, by rw [← cZ _ _ 1 z2_]; exact hc 1 _ rfl, by rw [← cZ _ _ 2 z2_]; exact hc 2 _ rfl⟩
structure S26 where
 f0 : Int
 f1 : Int
 f2 : Int
def z26 : S26 := ⟨(0 : Int), (0 : Int), (0 : Int)⟩
def k26 : Kd S26 := Kd.iso (Kd.pair (Kd.int .i64) (Kd.pair (Kd.int .i64) (Kd.int .i64))) (fun x : S26 => (x.f0, x.f1, x.f2))
theorem k26_open {w : World} {x : S26} {cs : List Value} (h : k26.K w x cs) : cs = [.int .i64 x.f0, .int .i64 x.f1, .int .i64 x.f2] := by
 obtain ⟨_, _, rfl, rfl, ⟨_, _, rfl, rfl, rfl⟩⟩ := h
 exact rfl
theorem k26_openM {w : World} {base : Nat} {ok : Nat → Prop} {x : S26} {cs : List Value} (h : k26.M w base ok x cs) : cs = [.int .i64 x.f0, .int .i64 x.f1, .int .i64 x.f2] := by
 obtain ⟨_, _, rfl, rfl, ⟨_, _, rfl, rfl, rfl⟩⟩ := h
 exact rfl
theorem k26_mkM (w : World) (base : Nat) (ok : Nat → Prop) (x : S26)  : k26.M w base ok x [.int .i64 x.f0, .int .i64 x.f1, .int .i64 x.f2] := ⟨[.int .i64 x.f0], [.int .i64 x.f1, .int .i64 x.f2], rfl, rfl, ⟨[.int .i64 x.f1], [.int .i64 x.f2], rfl, rfl, rfl⟩⟩
structure S50 where
 f0 : Int
 f1 : Int
def z50 : S50 := ⟨(0 : Int), (0 : Int)⟩
def k50 : Kd S50 := Kd.iso (Kd.pair (Kd.int .i64) (Kd.int .i64)) (fun x : S50 => (x.f0, x.f1))
theorem k50_open {w : World} {x : S50} {cs : List Value} (h : k50.K w x cs) : cs = [.int .i64 x.f0, .int .i64 x.f1] := by
 obtain ⟨_, _, rfl, rfl, rfl⟩ := h
 exact rfl
theorem k50_openM {w : World} {base : Nat} {ok : Nat → Prop} {x : S50} {cs : List Value} (h : k50.M w base ok x cs) : cs = [.int .i64 x.f0, .int .i64 x.f1] := by
 obtain ⟨_, _, rfl, rfl, rfl⟩ := h
 exact rfl
theorem k50_mkM (w : World) (base : Nat) (ok : Nat → Prop) (x : S50)  : k50.M w base ok x [.int .i64 x.f0, .int .i64 x.f1] := ⟨[.int .i64 x.f0], [.int .i64 x.f1], rfl, rfl, rfl⟩
def cL (xs : List S50) (i : Int) : S50 := xs.getD i.toNat z50
theorem gQ {w : World} {A : Option Addr} {n : Nat} {xs : List S50} (h : Kd.C k50 w A n xs) (i : Int) (h0 : 0 ≤ i) (h1 : i < n) : ∃ ad , A = some ad ∧ w.cell? (ad.add (i.toNat * 2)) = some (.int .i64 (cL xs i).f0) ∧ w.cell? ⟨(ad.add (i.toNat * 2)).block, (ad.add (i.toNat * 2)).off + 1, none⟩ = some (.int .i64 (cL xs i).f1) := by
 obtain ⟨ad, c, e, _, hK, hc0⟩ := C_get h z50 i h0 h1
 have hc : ∀ j u, c[j]? = some u → w.cell? (ad.add (i.toNat * 2 + j)) = some u := hc0
 obtain rfl := k50_open hK
 exact ⟨ad, e, hc 0 _ rfl, by rw [← cZ _ _ 1 z2_]; exact hc 1 _ rfl⟩
structure S91 where
 f0 : S89
 f1 : S26
 f2 : S50
def z91 : S91 := ⟨z89, z26, z50⟩
def k91 : Kd S91 := Kd.iso (Kd.pair k89 (Kd.pair k26 k50)) (fun x : S91 => (x.f0, x.f1, x.f2))
theorem k91_open {w : World} {x : S91} {cs : List Value} (h : k91.K w x cs) : cs = [.int .i64 x.f0.f0, .int .i64 x.f0.f1, .string x.f0.f2, .int .i64 x.f1.f0, .int .i64 x.f1.f1, .int .i64 x.f1.f2, .int .i64 x.f2.f0, .int .i64 x.f2.f1] := by
 obtain ⟨_, _, rfl, s0, ⟨_, _, rfl, s3, s6⟩⟩ := h
 obtain rfl := k89_open s0
 obtain rfl := k26_open s3
 obtain rfl := k50_open s6
 exact rfl
theorem k91_mkM (w : World) (base : Nat) (ok : Nat → Prop) (x : S91)  : k91.M w base ok x [.int .i64 x.f0.f0, .int .i64 x.f0.f1, .string x.f0.f2, .int .i64 x.f1.f0, .int .i64 x.f1.f1, .int .i64 x.f1.f2, .int .i64 x.f2.f0, .int .i64 x.f2.f1] := ⟨[.int .i64 x.f0.f0, .int .i64 x.f0.f1, .string x.f0.f2], [.int .i64 x.f1.f0, .int .i64 x.f1.f1, .int .i64 x.f1.f2, .int .i64 x.f2.f0, .int .i64 x.f2.f1], rfl, (k89_mkM w base ok x.f0 ), ⟨[.int .i64 x.f1.f0, .int .i64 x.f1.f1, .int .i64 x.f1.f2], [.int .i64 x.f2.f0, .int .i64 x.f2.f1], rfl, (k26_mkM w base ok x.f1 ), (k50_mkM w base ok x.f2 )⟩⟩
def aZ (xs : List S91) (i : Int) : S91 := xs.getD i.toNat z91
theorem gA {w : World} {A : Option Addr} {n : Nat} {xs : List S91} (h : Kd.C k91 w A n xs) (i : Int) (h0 : 0 ≤ i) (h1 : i < n) : ∃ ad , A = some ad ∧ w.cell? (ad.add (i.toNat * 8)) = some (.int .i64 (aZ xs i).f0.f0) ∧ w.cell? ⟨(ad.add (i.toNat * 8)).block, (ad.add (i.toNat * 8)).off + 1, none⟩ = some (.int .i64 (aZ xs i).f0.f1) ∧ w.cell? ⟨(ad.add (i.toNat * 8)).block, (ad.add (i.toNat * 8)).off + 2, none⟩ = some (.string (aZ xs i).f0.f2) ∧ w.cell? ⟨(ad.add (i.toNat * 8)).block, (ad.add (i.toNat * 8)).off + 3, none⟩ = some (.int .i64 (aZ xs i).f1.f0) ∧ w.cell? ⟨(ad.add (i.toNat * 8)).block, (ad.add (i.toNat * 8)).off + 4, none⟩ = some (.int .i64 (aZ xs i).f1.f1) ∧ w.cell? ⟨(ad.add (i.toNat * 8)).block, (ad.add (i.toNat * 8)).off + 5, none⟩ = some (.int .i64 (aZ xs i).f1.f2) ∧ w.cell? ⟨(ad.add (i.toNat * 8)).block, (ad.add (i.toNat * 8)).off + 6, none⟩ = some (.int .i64 (aZ xs i).f2.f0) ∧ w.cell? ⟨(ad.add (i.toNat * 8)).block, (ad.add (i.toNat * 8)).off + 7, none⟩ = some (.int .i64 (aZ xs i).f2.f1) := by
 obtain ⟨ad, c, e, _, hK, hc0⟩ := C_get h z91 i h0 h1
 have hc : ∀ j u, c[j]? = some u → w.cell? (ad.add (i.toNat * 8 + j)) = some u := hc0
 obtain rfl := k91_open hK
 exact ⟨ad, e, hc 0 _ rfl, by rw [← cZ _ _ 1 z2_]; exact hc 1 _ rfl, by rw [← cZ _ _ 2 z2_]; exact hc 2 _ rfl, by rw [← cZ _ _ 3 z2_]; exact hc 3 _ rfl, by rw [← cZ _ _ 4 z2_]; exact hc 4 _ rfl, by rw [← cZ _ _ 5 z2_]; exact hc 5 _ rfl, by rw [← cZ _ _ 6 z2_]; exact hc 6 _ rfl, by rw [← cZ _ _ 7 z2_]; exact hc 7 _ rfl⟩
structure S80 where
 f0 : ByteArray
 f1 : (List S50)
 f2 : (List S91)
def z80 : S80 := ⟨(⟨#[]⟩ : ByteArray), ([] : List S50), ([] : List S91)⟩
def k80 : Kd S80 := Kd.iso (Kd.pair Kd.string (Kd.pair (Kd.slice 50 k50) (Kd.slice 91 k91))) (fun x : S80 => (x.f0, x.f1, x.f2))
theorem k80_open {w : World} {x : S80} {cs : List Value} (h : k80.K w x cs) : ∃ A1 c1 A2 c2, cs = [.string x.f0, .slice A1 x.f1.length c1, .slice A2 x.f2.length c2] ∧ x.f1.length ≤ c1 ∧ k50.C w A1 x.f1.length x.f1 ∧ x.f2.length ≤ c2 ∧ k91.C w A2 x.f2.length x.f2 := by
 obtain ⟨_, _, rfl, rfl, ⟨_, _, rfl, ⟨A1, c1, rfl, l1, g1⟩, ⟨A2, c2, rfl, l2, g2⟩⟩⟩ := h
 exact ⟨A1, c1, A2, c2, rfl, l1, g1, l2, g2⟩
theorem k80_openM {w : World} {base : Nat} {ok : Nat → Prop} {x : S80} {cs : List Value} (h : k80.M w base ok x cs) : ∃ v1 v2, cs = [.string x.f0, v1, v2] ∧ k50.R 50 w base ok v1 x.f1 ∧ k91.R 91 w base ok v2 x.f2 := by
 obtain ⟨_, _, rfl, rfl, ⟨_, _, rfl, ⟨v1, rfl, g1⟩, ⟨v2, rfl, g2⟩⟩⟩ := h
 exact ⟨v1, v2, rfl, g1, g2⟩
theorem k80_mkM (w : World) (base : Nat) (ok : Nat → Prop) (x : S80) {v1 : Value} (g1 : k50.R 50 w base ok v1 x.f1) {v2 : Value} (g2 : k91.R 91 w base ok v2 x.f2) : k80.M w base ok x [.string x.f0, v1, v2] := ⟨[.string x.f0], [v1, v2], rfl, rfl, ⟨[v1], [v2], rfl, ⟨v1, rfl, g1⟩, ⟨v2, rfl, g2⟩⟩⟩
def aU (xs : List S80) (i : Int) : S80 := xs.getD i.toNat z80
theorem fD {w : World} {A : Option Addr} {n : Nat} {xs : List S80} (h : Kd.C k80 w A n xs) (i : Int) (h0 : 0 ≤ i) (h1 : i < n) : ∃ ad A1 c1 A2 c2, A = some ad ∧ w.cell? (ad.add (i.toNat * 3)) = some (.string (aU xs i).f0) ∧ w.cell? ⟨(ad.add (i.toNat * 3)).block, (ad.add (i.toNat * 3)).off + 1, none⟩ = some (.slice A1 (aU xs i).f1.length c1) ∧ w.cell? ⟨(ad.add (i.toNat * 3)).block, (ad.add (i.toNat * 3)).off + 2, none⟩ = some (.slice A2 (aU xs i).f2.length c2) ∧ (aU xs i).f1.length ≤ c1 ∧ k50.C w A1 (aU xs i).f1.length (aU xs i).f1 ∧ (aU xs i).f2.length ≤ c2 ∧ k91.C w A2 (aU xs i).f2.length (aU xs i).f2 := by
 obtain ⟨ad, c, e, _, hK, hc0⟩ := C_get h z80 i h0 h1
 have hc : ∀ j u, c[j]? = some u → w.cell? (ad.add (i.toNat * 3 + j)) = some u := hc0
 obtain ⟨A1, c1, A2, c2, rfl, l1, g1, l2, g2⟩ := k80_open hK
 exact ⟨ad, A1, c1, A2, c2, e, hc 0 _ rfl, by rw [← cZ _ _ 1 z2_]; exact hc 1 _ rfl, by rw [← cZ _ _ 2 z2_]; exact hc 2 _ rfl, l1, g1, l2, g2⟩
def dS (xs : List (List Int)) (i : Int) : (List Int) := xs.getD i.toNat ([] : List Int)
theorem iZ {w : World} {A : Option Addr} {n : Nat} {xs : List (List Int)} (h : Kd.C (Kd.slice 3 (Kd.int .i64)) w A n xs) (i : Int) (h0 : 0 ≤ i) (h1 : i < n) : ∃ ad A0 c0, A = some ad ∧ w.cell? (ad.add i.toNat) = some (.slice A0 (dS xs i).length c0) ∧ (dS xs i).length ≤ c0 ∧ (Kd.int .i64).C w A0 (dS xs i).length (dS xs i) := by
 obtain ⟨ad, c, e, _, hK, hc0⟩ := C_get h ([] : List Int) i h0 h1
 have hc : ∀ j u, c[j]? = some u → w.cell? (ad.add (i.toNat * 1 + j)) = some u := hc0
 obtain ⟨A0, c0, rfl, l0, g0⟩ := hK
 exact ⟨ad, A0, c0, e, by have hq := hc 0 _ rfl; rwa [Nat.mul_one, Nat.add_zero] at hq, l0, g0⟩
structure S54 where
 f0 : S50
 f1 : (List Int)
 f2 : S26
 f3 : Int
 f4 : Int
 f5 : ByteArray
 f6 : Int
 f7 : (List S89)
 f8 : (List S50)
def z54 : S54 := ⟨z50, ([] : List Int), z26, (0 : Int), (0 : Int), (⟨#[]⟩ : ByteArray), (0 : Int), ([] : List S89), ([] : List S50)⟩
def k54 : Kd S54 := Kd.iso (Kd.pair k50 (Kd.pair (Kd.slice 3 (Kd.int .i64)) (Kd.pair k26 (Kd.pair (Kd.int .i64) (Kd.pair (Kd.int .i64) (Kd.pair Kd.string (Kd.pair (Kd.int .i64) (Kd.pair (Kd.slice 89 k89) (Kd.slice 50 k50))))))))) (fun x : S54 => (x.f0, x.f1, x.f2, x.f3, x.f4, x.f5, x.f6, x.f7, x.f8))
theorem k54_open {w : World} {x : S54} {cs : List Value} (h : k54.K w x cs) : ∃ A2 c2 A10 c10 A11 c11, cs = [.int .i64 x.f0.f0, .int .i64 x.f0.f1, .slice A2 x.f1.length c2, .int .i64 x.f2.f0, .int .i64 x.f2.f1, .int .i64 x.f2.f2, .int .i64 x.f3, .int .i64 x.f4, .string x.f5, .int .i64 x.f6, .slice A10 x.f7.length c10, .slice A11 x.f8.length c11] ∧ x.f1.length ≤ c2 ∧ (Kd.int .i64).C w A2 x.f1.length x.f1 ∧ x.f7.length ≤ c10 ∧ k89.C w A10 x.f7.length x.f7 ∧ x.f8.length ≤ c11 ∧ k50.C w A11 x.f8.length x.f8 := by
 obtain ⟨_, _, rfl, s0, ⟨_, _, rfl, ⟨A2, c2, rfl, l2, g2⟩, ⟨_, _, rfl, s3, ⟨_, _, rfl, rfl, ⟨_, _, rfl, rfl, ⟨_, _, rfl, rfl, ⟨_, _, rfl, rfl, ⟨_, _, rfl, ⟨A10, c10, rfl, l10, g10⟩, ⟨A11, c11, rfl, l11, g11⟩⟩⟩⟩⟩⟩⟩⟩⟩ := h
 obtain rfl := k50_open s0
 obtain rfl := k26_open s3
 exact ⟨A2, c2, A10, c10, A11, c11, rfl, l2, g2, l10, g10, l11, g11⟩
theorem k54_openM {w : World} {base : Nat} {ok : Nat → Prop} {x : S54} {cs : List Value} (h : k54.M w base ok x cs) : ∃ v2 v10 v11, cs = [.int .i64 x.f0.f0, .int .i64 x.f0.f1, v2, .int .i64 x.f2.f0, .int .i64 x.f2.f1, .int .i64 x.f2.f2, .int .i64 x.f3, .int .i64 x.f4, .string x.f5, .int .i64 x.f6, v10, v11] ∧ (Kd.int .i64).R 3 w base ok v2 x.f1 ∧ k89.R 89 w base ok v10 x.f7 ∧ k50.R 50 w base ok v11 x.f8 := by
 obtain ⟨_, _, rfl, s0, ⟨_, _, rfl, ⟨v2, rfl, g2⟩, ⟨_, _, rfl, s3, ⟨_, _, rfl, rfl, ⟨_, _, rfl, rfl, ⟨_, _, rfl, rfl, ⟨_, _, rfl, rfl, ⟨_, _, rfl, ⟨v10, rfl, g10⟩, ⟨v11, rfl, g11⟩⟩⟩⟩⟩⟩⟩⟩⟩ := h
 obtain rfl := k50_openM s0
 obtain rfl := k26_openM s3
 exact ⟨v2, v10, v11, rfl, g2, g10, g11⟩
theorem k54_mkM (w : World) (base : Nat) (ok : Nat → Prop) (x : S54) {v2 : Value} (g2 : (Kd.int .i64).R 3 w base ok v2 x.f1) {v10 : Value} (g10 : k89.R 89 w base ok v10 x.f7) {v11 : Value} (g11 : k50.R 50 w base ok v11 x.f8) : k54.M w base ok x [.int .i64 x.f0.f0, .int .i64 x.f0.f1, v2, .int .i64 x.f2.f0, .int .i64 x.f2.f1, .int .i64 x.f2.f2, .int .i64 x.f3, .int .i64 x.f4, .string x.f5, .int .i64 x.f6, v10, v11] := ⟨[.int .i64 x.f0.f0, .int .i64 x.f0.f1], [v2, .int .i64 x.f2.f0, .int .i64 x.f2.f1, .int .i64 x.f2.f2, .int .i64 x.f3, .int .i64 x.f4, .string x.f5, .int .i64 x.f6, v10, v11], rfl, (k50_mkM w base ok x.f0 ), ⟨[v2], [.int .i64 x.f2.f0, .int .i64 x.f2.f1, .int .i64 x.f2.f2, .int .i64 x.f3, .int .i64 x.f4, .string x.f5, .int .i64 x.f6, v10, v11], rfl, ⟨v2, rfl, g2⟩, ⟨[.int .i64 x.f2.f0, .int .i64 x.f2.f1, .int .i64 x.f2.f2], [.int .i64 x.f3, .int .i64 x.f4, .string x.f5, .int .i64 x.f6, v10, v11], rfl, (k26_mkM w base ok x.f2 ), ⟨[.int .i64 x.f3], [.int .i64 x.f4, .string x.f5, .int .i64 x.f6, v10, v11], rfl, rfl, ⟨[.int .i64 x.f4], [.string x.f5, .int .i64 x.f6, v10, v11], rfl, rfl, ⟨[.string x.f5], [.int .i64 x.f6, v10, v11], rfl, rfl, ⟨[.int .i64 x.f6], [v10, v11], rfl, rfl, ⟨[v10], [v11], rfl, ⟨v10, rfl, g10⟩, ⟨v11, rfl, g11⟩⟩⟩⟩⟩⟩⟩⟩⟩
def aK (xs : List S54) (i : Int) : S54 := xs.getD i.toNat z54
theorem eS {w : World} {A : Option Addr} {n : Nat} {xs : List S54} (h : Kd.C k54 w A n xs) (i : Int) (h0 : 0 ≤ i) (h1 : i < n) : ∃ ad A2 c2 A10 c10 A11 c11, A = some ad ∧ w.cell? (ad.add (i.toNat * 12)) = some (.int .i64 (aK xs i).f0.f0) ∧ w.cell? ⟨(ad.add (i.toNat * 12)).block, (ad.add (i.toNat * 12)).off + 1, none⟩ = some (.int .i64 (aK xs i).f0.f1) ∧ w.cell? ⟨(ad.add (i.toNat * 12)).block, (ad.add (i.toNat * 12)).off + 2, none⟩ = some (.slice A2 (aK xs i).f1.length c2) ∧ w.cell? ⟨(ad.add (i.toNat * 12)).block, (ad.add (i.toNat * 12)).off + 3, none⟩ = some (.int .i64 (aK xs i).f2.f0) ∧ w.cell? ⟨(ad.add (i.toNat * 12)).block, (ad.add (i.toNat * 12)).off + 4, none⟩ = some (.int .i64 (aK xs i).f2.f1) ∧ w.cell? ⟨(ad.add (i.toNat * 12)).block, (ad.add (i.toNat * 12)).off + 5, none⟩ = some (.int .i64 (aK xs i).f2.f2) ∧ w.cell? ⟨(ad.add (i.toNat * 12)).block, (ad.add (i.toNat * 12)).off + 6, none⟩ = some (.int .i64 (aK xs i).f3) ∧ w.cell? ⟨(ad.add (i.toNat * 12)).block, (ad.add (i.toNat * 12)).off + 7, none⟩ = some (.int .i64 (aK xs i).f4) ∧ w.cell? ⟨(ad.add (i.toNat * 12)).block, (ad.add (i.toNat * 12)).off + 8, none⟩ = some (.string (aK xs i).f5) ∧ w.cell? ⟨(ad.add (i.toNat * 12)).block, (ad.add (i.toNat * 12)).off + 9, none⟩ = some (.int .i64 (aK xs i).f6) ∧ w.cell? ⟨(ad.add (i.toNat * 12)).block, (ad.add (i.toNat * 12)).off + 10, none⟩ = some (.slice A10 (aK xs i).f7.length c10) ∧ w.cell? ⟨(ad.add (i.toNat * 12)).block, (ad.add (i.toNat * 12)).off + 11, none⟩ = some (.slice A11 (aK xs i).f8.length c11) ∧ (aK xs i).f1.length ≤ c2 ∧ (Kd.int .i64).C w A2 (aK xs i).f1.length (aK xs i).f1 ∧ (aK xs i).f7.length ≤ c10 ∧ k89.C w A10 (aK xs i).f7.length (aK xs i).f7 ∧ (aK xs i).f8.length ≤ c11 ∧ k50.C w A11 (aK xs i).f8.length (aK xs i).f8 := by
 obtain ⟨ad, c, e, _, hK, hc0⟩ := C_get h z54 i h0 h1
 have hc : ∀ j u, c[j]? = some u → w.cell? (ad.add (i.toNat * 12 + j)) = some u := hc0
 obtain ⟨A2, c2, A10, c10, A11, c11, rfl, l2, g2, l10, g10, l11, g11⟩ := k54_open hK
 exact ⟨ad, A2, c2, A10, c10, A11, c11, e, hc 0 _ rfl, by rw [← cZ _ _ 1 z2_]; exact hc 1 _ rfl, by rw [← cZ _ _ 2 z2_]; exact hc 2 _ rfl, by rw [← cZ _ _ 3 z2_]; exact hc 3 _ rfl, by rw [← cZ _ _ 4 z2_]; exact hc 4 _ rfl, by rw [← cZ _ _ 5 z2_]; exact hc 5 _ rfl, by rw [← cZ _ _ 6 z2_]; exact hc 6 _ rfl, by rw [← cZ _ _ 7 z2_]; exact hc 7 _ rfl, by rw [← cZ _ _ 8 z2_]; exact hc 8 _ rfl, by rw [← cZ _ _ 9 z2_]; exact hc 9 _ rfl, by rw [← cZ _ _ 10 z2_]; exact hc 10 _ rfl, by rw [← cZ _ _ 11 z2_]; exact hc 11 _ rfl, l2, g2, l10, g10, l11, g11⟩
def aX (xs : List (List S80)) (i : Int) : (List S80) := xs.getD i.toNat ([] : List S80)
theorem gP {w : World} {A : Option Addr} {n : Nat} {xs : List (List S80)} (h : Kd.C (Kd.slice 80 k80) w A n xs) (i : Int) (h0 : 0 ≤ i) (h1 : i < n) : ∃ ad A0 c0, A = some ad ∧ w.cell? (ad.add i.toNat) = some (.slice A0 (aX xs i).length c0) ∧ (aX xs i).length ≤ c0 ∧ k80.C w A0 (aX xs i).length (aX xs i) := by
 obtain ⟨ad, c, e, _, hK, hc0⟩ := C_get h ([] : List S80) i h0 h1
 have hc : ∀ j u, c[j]? = some u → w.cell? (ad.add (i.toNat * 1 + j)) = some u := hc0
 obtain ⟨A0, c0, rfl, l0, g0⟩ := hK
 exact ⟨ad, A0, c0, e, by have hq := hc 0 _ rfl; rwa [Nat.mul_one, Nat.add_zero] at hq, l0, g0⟩
structure S31 where
 f0 : (List Int)
 f1 : S26
 f2 : (List (List S80))
 f3 : (List (List Int))
 f4 : (List S54)
def k31 : Kd S31 := Kd.iso (Kd.pair (Kd.slice 3 (Kd.int .i64)) (Kd.pair k26 (Kd.pair (Kd.slice 77 (Kd.slice 80 k80)) (Kd.pair (Kd.slice 24 (Kd.slice 3 (Kd.int .i64))) (Kd.slice 54 k54))))) (fun x : S31 => (x.f0, x.f1, x.f2, x.f3, x.f4))
theorem k31_open {w : World} {x : S31} {cs : List Value} (h : k31.K w x cs) : ∃ A0 c0 A4 c4 A5 c5 A6 c6, cs = [.slice A0 x.f0.length c0, .int .i64 x.f1.f0, .int .i64 x.f1.f1, .int .i64 x.f1.f2, .slice A4 x.f2.length c4, .slice A5 x.f3.length c5, .slice A6 x.f4.length c6] ∧ x.f0.length ≤ c0 ∧ (Kd.int .i64).C w A0 x.f0.length x.f0 ∧ x.f2.length ≤ c4 ∧ (Kd.slice 80 k80).C w A4 x.f2.length x.f2 ∧ x.f3.length ≤ c5 ∧ (Kd.slice 3 (Kd.int .i64)).C w A5 x.f3.length x.f3 ∧ x.f4.length ≤ c6 ∧ k54.C w A6 x.f4.length x.f4 := by
 obtain ⟨_, _, rfl, ⟨A0, c0, rfl, l0, g0⟩, ⟨_, _, rfl, s1, ⟨_, _, rfl, ⟨A4, c4, rfl, l4, g4⟩, ⟨_, _, rfl, ⟨A5, c5, rfl, l5, g5⟩, ⟨A6, c6, rfl, l6, g6⟩⟩⟩⟩⟩ := h
 obtain rfl := k26_open s1
 exact ⟨A0, c0, A4, c4, A5, c5, A6, c6, rfl, l0, g0, l4, g4, l5, g5, l6, g6⟩
end Go.Proofs.Ytcbfliajgopdaaa.PAll
end
section
namespace Go.Proofs.Ytcbfliajgopdaaa.PAll
open Go.RowKit PrintWords PrintLast PrintMore ZipT PrintWords.Kd PrintMore.Kd
attribute [local go_sem] eC eA eN eR dR dP eD eB   -- for this text's walks alone
set_option linter.unusedVariables false
set_option linter.unusedSimpArgs false
def dM.f (l0 : List Int) : Option (List Int) := if ([] : List Int).length + l0.length < 140737488355328 then (some (([] : List Int) ++ l0)) else (none)
theorem dM.calls (A0 : Option Addr) (c0 : Nat) (l0 : List Int) (r : List Int) (w : World) (hr0 : Kd.C (Kd.int .u8) w A0 l0.length l0) (hc0 : l0.length ≤ c0) (h : dM.f l0 = some r) :
  Calls Try.prog 7 #[.slice A0 l0.length c0] w fun e w' => ∃ v0_ : Value, e = .returned (v0_) ∧ Kd.R (Kd.int .u8) 5 w' w.heap.size (fun _ => True) v0_ r ∧ Below w.heap.size w w' := by
 have HR0 := mk_ hr0
 have HC0 := mk_ hc0
 clear hr0 hc0
 have HB := mk_ (Below.refl w.heap.size w)
 have H : (if ([] : List Int).length + l0.length < 140737488355328 then (some (([] : List Int) ++ l0)) else (none)) = some r := h
 clear h
 by_cases c2 : ([] : List Int).length + l0.length < 140737488355328
 rotate_left
 ·
  rw [if_neg c2] at H
  exact absurd H (by simp)
 rw [if_pos c2] at H
 have LMc2 := mk_ c2
 clear c2
 obtain ⟨y101, hy101⟩ : ∃ y_ : List Int, y_ = (([] : List Int) ++ l0) := ⟨_, rfl⟩
 replace H : (some y101) = some r := by first | (rw [hy101]; with_reducible exact H) | (have H2_ := (Option.bind_some _ _).symm.trans H; rw [hy101]; with_reducible exact H2_) | (have H2_ := (Option.bind_some _ _).symm.trans H; with_reducible exact H2_) | with_reducible exact H | (rw [hy101]; exact H) | exact H
 have Ny101 := mk_ hy101
 clear hy101
 obtain rfl := Option.some.inj H
 go_enter Try.func7, Try.ntmps7
 go_wp2_with (first | ((with_reducible refine cJ (b := .append) (xs := #[.tmp 4, .tmp 5]) rfl ?_); at_builtin; refine fK (Kd.int .u8) (w0 := w) w.heap.size rfl (.tmp 4) (.tmp 5) 22 5 (.int .u8 0) 1 rfl Try.underlying22 info5 rfl z4_ z2_ (.slice none 0 0) ([] : List Int) l0 _ _ _ (fun _ => True) (fun _ => False) rfl rfl ?aO ?aR (fun _ _ h => h) (fun _ h => h.elim) ?aF ?aB ?aS ?aL ?_; (case aR => repeat (first | exact HR0.out | (with_reducible refine C_alloc ?_ _) | (with_reducible refine C_drewN ?_ _) | (with_reducible refine C_drew ?_))); (case aB => exact (Short.hB HB)); (case aF => exact (fun _ _ => trivial)); (case aO => exact ((R_nil _ _ _ _ (fun _ => True)))); (case aS => exact (aN (Short.hB HB))); (case aL => have := LMc2.out; omega); intro v102 w3 ho hb hg hat; rw [← Ny101.out] at ho; have n0_ := mk_ (hb); have n1_ := mk_ (ho); clear HB; revert n0_ n1_; intro HB HO103; clear ho hb hg hat))
 go_ret
 exact ⟨_, by first | rfl | (simp [bD, bC] <;> rfl) | (simp [*, bD, bC] <;> rfl), by (with_reducible repeat (first | apply R_alloc | apply R_drewN | apply R_drew)); exact HO103.out, Short.hB HB⟩
def slices_Clone_byte_byte.f (l0 : List Int) : Option (List Int) := (some (([] : List Int) : List Int)).bind fun y104 => (if y104.length + l0.length < 140737488355328 then (some (y104 ++ l0)) else (none))
theorem slices_Clone_byte_byte.calls (A0 : Option Addr) (c0 : Nat) (l0 : List Int) (r : List Int) (w : World) (hr0 : Kd.C (Kd.int .u8) w A0 l0.length l0) (hc0 : l0.length ≤ c0) (h : slices_Clone_byte_byte.f l0 = some r) :
  Calls Try.prog 58 #[.slice A0 l0.length c0] w fun e w' => ∃ v0_ : Value, e = .returned (v0_) ∧ Kd.R (Kd.int .u8) 5 w' w.heap.size (fun _ => True) v0_ r ∧ Below w.heap.size w w' := by
 have HR0 := mk_ hr0
 have HC0 := mk_ hc0
 clear hr0 hc0
 cases A0 with
 | none =>
  have hl_ : l0 = [] := by
   rcases l0 with _ | ⟨x_, xs_⟩
   ·
    rfl
   ·
    obtain ⟨ad_, e_, _⟩ := HR0.out.2.2 (by simp)
    exact absurd e_ (by simp)
  subst hl_
  have hr_ : r = [] := by simpa [slices_Clone_byte_byte.f] using h.symm
  subst hr_
  have hnil_ := fun W : World => Lib.run_eql_slice_nil (P := Try.prog) W 22 5 none 0 c0 0 0 Try.underlying22
  go_enter Try.func58, Try.ntmps58
  go_wp2
  go_ret
  exact ⟨_, rfl, R_nil _ _ _ _ _, Below.refl _ _⟩
 | some a0_ =>
 have hnil_ := fun W : World => Lib.run_eql_slice_nil (P := Try.prog) W 22 5 (some a0_) l0.length c0 0 0 Try.underlying22
 have HB := mk_ (Below.refl w.heap.size w)
 have H : ((some (([] : List Int) : List Int)).bind fun y104 => (if y104.length + l0.length < 140737488355328 then (some (y104 ++ l0)) else (none))) = some r := h
 clear h
 obtain ⟨y104, hy104⟩ : ∃ y_ : List Int, y_ = (([] : List Int)) := ⟨_, rfl⟩
 replace H : (if y104.length + l0.length < 140737488355328 then (some (y104 ++ l0)) else (none)) = some r := by first | (rw [hy104]; with_reducible exact H) | (have H2_ := (Option.bind_some _ _).symm.trans H; rw [hy104]; with_reducible exact H2_) | (have H2_ := (Option.bind_some _ _).symm.trans H; with_reducible exact H2_) | with_reducible exact H | (rw [hy104]; exact H) | exact H
 have Ny104 := mk_ hy104
 clear hy104
 by_cases c2 : y104.length + l0.length < 140737488355328
 rotate_left
 ·
  rw [if_neg c2] at H
  exact absurd H (by simp)
 rw [if_pos c2] at H
 have LMc2 := mk_ c2
 clear c2
 obtain ⟨y107, hy107⟩ : ∃ y_ : List Int, y_ = (y104 ++ l0) := ⟨_, rfl⟩
 replace H : (some y107) = some r := by first | (rw [hy107]; with_reducible exact H) | (have H2_ := (Option.bind_some _ _).symm.trans H; rw [hy107]; with_reducible exact H2_) | (have H2_ := (Option.bind_some _ _).symm.trans H; with_reducible exact H2_) | with_reducible exact H | (rw [hy107]; exact H) | exact H
 have Ny107 := mk_ hy107
 clear hy107
 obtain rfl := Option.some.inj H
 go_enter Try.func58, Try.ntmps58
 go_wp2_with (first | ((with_reducible refine bP (N := 5) rfl ?_); refine R_lit (Kd.int .u8) _ 5 ?hg (N := 5) ?hd (xs := ([] : List Int)) (inner := []) (ok := fun _ => True) (okp := fun _ => True) ?hr ?hp (fun _ hk => hk) trivial (Below.refl _ _) (Nat.le_refl _) (by simp) ?_; (case hd => rfl); (case hg => rfl); (case hr => first | (go_simp; done) | (go_simp; rfl)); (case hp => exact (Reps.none _ _)); intro v105 w3 ho4 hb hg_ hnew_; clear hg_ hnew_; (first | rw [← Ny104.out] at ho4 | (simp only [Int.reduceToNat] at ho4; rw [← Ny104.out] at ho4)); have n0_ := mk_ (dN ho4 (aN (Short.hB HB))); have n1_ := mk_ (aI (Short.hB HB) hb); clear HB; revert n0_ n1_; intro HO106 HB; clear hb ho4) | ((with_reducible refine cJ (b := .append) (xs := #[.tmp 5, .tmp 6]) rfl ?_); at_builtin; refine fK (Kd.int .u8) (w0 := w) w.heap.size rfl (.tmp 5) (.tmp 6) 22 5 (.int .u8 0) 1 rfl Try.underlying22 info5 rfl z4_ z2_ v105 y104 l0 _ _ _ (fun _ => True) (fun _ => False) rfl rfl ?aO ?aR (fun _ _ h => h) (fun _ h => h.elim) ?aF ?aB ?aS ?aL ?_; (case aR => exact cX_ (aV HR0.out HB.out)); (case aB => exact (Short.hB HB)); (case aF => exact (fun _ _ => trivial)); (case aO => exact (ZKR HO106)); (case aS => exact (aN (Short.hB HB))); (case aL => have := LMc2.out; omega); intro v108 w5 ho hb hg hat; rw [← Ny107.out] at ho; have n0_ := mk_ (hb); have n1_ := mk_ (ho); clear HB HO106; revert n0_ n1_; intro HB HO109; clear ho hb hg hat))
 go_ret
 exact ⟨_, by first | rfl | (simp [bD, bC] <;> rfl) | (simp [*, bD, bC] <;> rfl), by (with_reducible repeat (first | apply R_alloc | apply R_drewN | apply R_drew)); exact HO109.out, Short.hB HB⟩
def wire_PutText.f (l0 : List Int) (a1 : ByteArray) : Option (List Int × Int) := if (a1.size : Int) > 24 then (some (([] : List Int), 2)) else ((slices_Clone_byte_byte.f l0).bind fun t110 => (if t110.length < 140737488355328 then ((some (t110 ++ [((a1.size : Int)) % 256] : List Int)).bind fun y113 => (if y113.length + a1.size < 140737488355328 then (some ((y113 ++ bytesOf a1), 0)) else (none))) else (none)))
theorem wire_PutText.calls (A0 : Option Addr) (c0 : Nat) (l0 : List Int) (a1 : ByteArray) (r1 : List Int) (r2 : Int) (w : World) (hr0 : Kd.C (Kd.int .u8) w A0 l0.length l0) (hc0 : l0.length ≤ c0) (h : wire_PutText.f l0 a1 = some (r1, r2)) :
  Calls Try.prog 104 #[.slice A0 l0.length c0, .string a1] w fun e w' => ∃ v0_ : Value, e = .returned (.tuple #[v0_, .int .i64 r2]) ∧ Kd.R (Kd.int .u8) 5 w' w.heap.size (fun _ => True) v0_ r1 ∧ Below w.heap.size w w' := by
 have HR0 := mk_ hr0
 have HC0 := mk_ hc0
 clear hr0 hc0
 have HB := mk_ (Below.refl w.heap.size w)
 have H : (if (a1.size : Int) > 24 then (some (([] : List Int), 2)) else ((slices_Clone_byte_byte.f l0).bind fun t110 => (if t110.length < 140737488355328 then ((some (t110 ++ [((a1.size : Int)) % 256] : List Int)).bind fun y113 => (if y113.length + a1.size < 140737488355328 then (some ((y113 ++ bytesOf a1), 0)) else (none))) else (none)))) = some (r1, r2) := h
 clear h
 by_cases c3 : (a1.size : Int) > 24
 ·
  rw [if_pos c3] at H
  have c3b0 : decide (24 < (a1.size : Int)) = true := decide_eq_true c3
  have c3b1 : decide (24 < a1.size) = true := decide_eq_true z2_
  clear c3
  simp only [Option.some.injEq, Prod.mk.injEq] at H
  obtain ⟨rfl, rfl⟩ := H
  go_enter Try.func104, Try.ntmps104
  go_wp2
  go_ret2
  exact ⟨_, by first | rfl | (simp [bD, bC] <;> rfl) | (simp [*, bD, bC] <;> rfl), by first | exact R_nil _ _ _ _ _ | exact N_nil _ _ _ _ _ | exact V_nil _ _ _ _ _ | exact Q_nil _ _ _ _ _ | exact S_nil _ _ _ _ _, Short.hB HB⟩
 rw [if_neg c3] at H
 have c3b0 : decide (24 < (a1.size : Int)) = false := decide_eq_false c3
 have c3b1 : decide (24 < a1.size) = false := decide_eq_false z2_
 clear c3
 obtain ⟨t110, A4, H⟩ := Option.bind_eq_some_iff.mp H
 replace A4 := mk_ A4
 by_cases c5 : t110.length < 140737488355328
 rotate_left
 ·
  rw [if_neg c5] at H
  exact absurd H (by simp)
 rw [if_pos c5] at H
 have LMc5 := mk_ c5
 clear c5
 obtain ⟨y113, hy113⟩ : ∃ y_ : List Int, y_ = (t110 ++ [((a1.size : Int)) % 256]) := ⟨_, rfl⟩
 replace H : (if y113.length + a1.size < 140737488355328 then (some ((y113 ++ bytesOf a1), 0)) else (none)) = some (r1, r2) := by first | (rw [hy113]; with_reducible exact H) | (have H2_ := (Option.bind_some _ _).symm.trans H; rw [hy113]; with_reducible exact H2_) | (have H2_ := (Option.bind_some _ _).symm.trans H; with_reducible exact H2_) | with_reducible exact H | (rw [hy113]; exact H) | exact H
 have Ny113 := mk_ hy113
 clear hy113
 by_cases c6 : y113.length + a1.size < 140737488355328
 rotate_left
 ·
  rw [if_neg c6] at H
  exact absurd H (by simp)
 rw [if_pos c6] at H
 have LMc6 := mk_ c6
 clear c6
 obtain ⟨y116, hy116⟩ : ∃ y_ : List Int, y_ = (y113 ++ bytesOf a1) := ⟨_, rfl⟩
 replace H : (some (y116, 0)) = some (r1, r2) := by first | (rw [hy116]; with_reducible exact H) | (have H2_ := (Option.bind_some _ _).symm.trans H; rw [hy116]; with_reducible exact H2_) | (have H2_ := (Option.bind_some _ _).symm.trans H; with_reducible exact H2_) | with_reducible exact H | (rw [hy116]; exact H) | exact H
 have Ny116 := mk_ hy116
 clear hy116
 simp only [Option.some.injEq, Prod.mk.injEq] at H
 obtain ⟨rfl, rfl⟩ := H
 go_enter Try.func104, Try.ntmps104
 go_wp2_with (first | ((with_reducible refine aT (f := 58) rfl ?_); refine Short.gL (some 10) Try.func58 #[.slice A0 l0.length c0] (h := ?_); (with_reducible refine (slices_Clone_byte_byte.calls _ _ l0 t110 _ ?side1 ?side2 A4.out).mono ?_); (case side1 => repeat (first | exact HR0.out | (with_reducible refine C_alloc ?_ _) | (with_reducible refine C_drewN ?_ _) | (with_reducible refine C_drew ?_))); (case side2 => exact HC0.out); rintro e w7 ⟨v111, rfl, ho0, hb⟩; refine ⟨_, rfl, ?_⟩; have n0_ := mk_ (dN ho0 (aN (Short.hB HB))); have n1_ := mk_ (aI (Short.hB HB) hb); clear HB; revert n0_ n1_; intro HO112 HB; (try clear hb ho0)) | ((with_reducible refine cJ (b := .append) (xs := #[.tmp 10, .tmp 14]) rfl ?_); at_builtin; refine fV (Kd.int .u8) (w0 := w) w.heap.size rfl (.tmp 10) (.tmp 14) 22 5 (.int .u8 0) 1 rfl Try.underlying22 info5 rfl z4_ z2_ v111 t110 (((a1.size : Int)) % 256) [.int .u8 (((a1.size : Int)) % 256)] (fun _ => True) (fun _ => False) rfl rfl ?aP (fun _ hk => hk.elim) ?aF ?aO ?aB ?aS ?aL ?_; (case aP => exact rfl); (case aB => exact (Short.hB HB)); (case aF => exact (fun _ _ => trivial)); (case aO => exact (ZKR HO112)); (case aS => exact (aN (Short.hB HB))); (case aL => have := LMc5.out; omega); intro v114 w8 ho hb hg hat; rw [← Ny113.out] at ho; have n0_ := mk_ (hb); have n1_ := mk_ (ho); clear HB HO112; revert n0_ n1_; intro HB HO115; clear ho hb hg hat) | (at_builtin; refine kM (w0 := w) w.heap.size rfl (.tmp 15) _ 22 9 5 rfl Try.underlying22 Try.underlying9 info5 v114 y113 a1 rfl rfl ?aO ?aB ?aS ?aL ?_; (case aB => exact (Short.hB HB)); (case aO => exact (Kd.own_of_R (ZKR HO115))); (case aS => exact (aN (Short.hB HB))); (case aL => have := LMc6.out; omega); intro v117 w9 ho0 hb hg; have ho := R_of_own (h1 := fun _ => rfl) (ok := fun _ => True) ho0 (fun _ _ => trivial); clear ho0; have hat := True.intro; rw [← Ny116.out] at ho; change Kd.R (Kd.int .u8) 5 w9 w.heap.size (fun _ => True) v117 y116 at ho; have n0_ := mk_ (hb); have n1_ := mk_ (ho); clear HB HO115; revert n0_ n1_; intro HB HO118; clear ho hb hg hat))
 go_ret2
 exact ⟨_, by first | rfl | (simp [bD, bC] <;> rfl) | (simp [*, bD, bC] <;> rfl), by (with_reducible repeat (first | apply R_alloc | apply R_drewN | apply R_drew)); exact HO118.out, Short.hB HB⟩
def eY.f (a0 : Int) (a1 : Int) : Option (Bool) := if a0 ≥ (wrap64 (-a1)) then (some (decide (a0 ≤ a1))) else (some false)
theorem eY.calls (a0 : Int) (a1 : Int) (r : Bool) (w : World) (h : eY.f a0 a1 = some r) :
  Calls Try.prog 112 #[.int .i64 a0, .int .i64 a1] w fun e w' => e = .returned (.bool r) ∧ Drawn0 w w' := by
 have H : (if a0 ≥ (wrap64 (-a1)) then (some (decide (a0 ≤ a1))) else (some false)) = some r := h
 clear h
 by_cases c3 : a0 ≥ (wrap64 (-a1))
 rotate_left
 rw [if_neg c3] at H
 have c3b0 : decide ((wrap64 (-a1)) ≤ a0) = false := decide_eq_false c3
 clear c3
 obtain rfl := Option.some.inj H
 rotate_right
 rw [if_pos c3] at H
 have c3b0 : decide ((wrap64 (-a1)) ≤ a0) = true := decide_eq_true c3
 clear c3
 obtain rfl := Option.some.inj H
 all_goals
  go_enter Try.func112, Try.ntmps112
  go_wp2
  go_ret
  exact ⟨z3_, by repeat (first | exact Drawn0.refl _ | apply Drawn0.step)⟩
def bX.f (a0_0 : Int) (a0_1 : Int) (a0_2 : ByteArray) : Option (Int) := if a0_0 = 1 then (if a0_1 = 0 then (if (a0_2.toList = ([] : List UInt8)) then (some 0) else (some 1)) else (some 1)) else (if a0_0 = 2 then (if a0_1 = 0 then (if (a0_2.toList = ([] : List UInt8)) then (some 0) else (some 1)) else (if a0_1 = 1 then (if (a0_2.toList = ([] : List UInt8)) then (some 0) else (some 1)) else (some 1))) else (if a0_0 = 3 then ((eY.f a0_1 1152921504606846976).bind fun t120 => (if t120 = true then (if (a0_2.toList = ([] : List UInt8)) then (some 0) else (some 1)) else (some 1))) else (if a0_0 = 4 then (if a0_1 = 0 then (if ((a0_2.size : Int) ≤ 24) then (some 0) else (some 1)) else (some 1)) else (some 1))))
theorem bX.calls (a0_0 : Int) (a0_1 : Int) (a0_2 : ByteArray) (r : Int) (w : World) (h : bX.f a0_0 a0_1 a0_2 = some r) :
  Calls Try.prog 108 #[.agg #[.int .i64 a0_0, .int .i64 a0_1, .string a0_2]] w fun e w' => e = .returned (.int .i64 r) ∧ Below w.heap.size w w' := by
 have hu89 := Try.underlying89
 have HB := mk_ (Below.refl w.heap.size w)
 have H : (if a0_0 = 1 then (if a0_1 = 0 then (if (a0_2.toList = ([] : List UInt8)) then (some 0) else (some 1)) else (some 1)) else (if a0_0 = 2 then (if a0_1 = 0 then (if (a0_2.toList = ([] : List UInt8)) then (some 0) else (some 1)) else (if a0_1 = 1 then (if (a0_2.toList = ([] : List UInt8)) then (some 0) else (some 1)) else (some 1))) else (if a0_0 = 3 then ((eY.f a0_1 1152921504606846976).bind fun t120 => (if t120 = true then (if (a0_2.toList = ([] : List UInt8)) then (some 0) else (some 1)) else (some 1))) else (if a0_0 = 4 then (if a0_1 = 0 then (if ((a0_2.size : Int) ≤ 24) then (some 0) else (some 1)) else (some 1)) else (some 1))))) = some r := h
 clear h
 by_cases c2 : a0_0 = 1
 rotate_left
 rw [if_neg c2] at H
 have c2b0 : (a0_0 == 1) = false := beq_eq_false_iff_ne.mpr c2
 have c2b1 : (a0_0 != 1) = true := bne_iff_ne.mpr c2
 by_cases c11 : a0_0 = 2
 rotate_left
 rw [if_neg c11] at H
 have c11b0 : (a0_0 == 2) = false := beq_eq_false_iff_ne.mpr c11
 have c11b1 : (a0_0 != 2) = true := bne_iff_ne.mpr c11
 by_cases c26 : a0_0 = 3
 rotate_left
 rw [if_neg c26] at H
 have c26b0 : (a0_0 == 3) = false := beq_eq_false_iff_ne.mpr c26
 have c26b1 : (a0_0 != 3) = true := bne_iff_ne.mpr c26
 by_cases c36 : a0_0 = 4
 rotate_left
 rw [if_neg c36] at H
 have c36b0 : (a0_0 == 4) = false := beq_eq_false_iff_ne.mpr c36
 have c36b1 : (a0_0 != 4) = true := bne_iff_ne.mpr c36
 obtain rfl := Option.some.inj H
 rotate_right
 rw [if_pos c36] at H
 have c36b0 : (a0_0 == 4) = true := beq_iff_eq.mpr c36
 have c36b1 : (a0_0 != 4) = false := bne_eq_false_iff_eq.mpr c36
 clear c36
 by_cases c37 : a0_1 = 0
 rotate_left
 rw [if_neg c37] at H
 have c37b0 : (a0_1 == 0) = false := beq_eq_false_iff_ne.mpr c37
 have c37b1 : (a0_1 != 0) = true := bne_iff_ne.mpr c37
 obtain rfl := Option.some.inj H
 rotate_right
 rw [if_pos c37] at H
 have c37b0 : (a0_1 == 0) = true := beq_iff_eq.mpr c37
 have c37b1 : (a0_1 != 0) = false := bne_eq_false_iff_eq.mpr c37
 clear c37
 by_cases c38 : ((a0_2.size : Int) ≤ 24)
 rotate_left
 rw [if_neg c38] at H
 have c38b0 : decide ((a0_2.size : Int) ≤ 24) = false := decide_eq_false c38
 have c38b1 : decide (a0_2.size ≤ 24) = false := decide_eq_false z2_
 clear c38
 obtain rfl := Option.some.inj H
 rotate_right
 rw [if_pos c38] at H
 have c38b0 : decide ((a0_2.size : Int) ≤ 24) = true := decide_eq_true c38
 have c38b1 : decide (a0_2.size ≤ 24) = true := decide_eq_true z2_
 clear c38
 obtain rfl := Option.some.inj H
 rotate_right
 rw [if_pos c26] at H
 have c26b0 : (a0_0 == 3) = true := beq_iff_eq.mpr c26
 have c26b1 : (a0_0 != 3) = false := bne_eq_false_iff_eq.mpr c26
 clear c26
 obtain ⟨t120, A27, H⟩ := Option.bind_eq_some_iff.mp H
 replace A27 := mk_ A27
 by_cases c28 : t120 = true
 rotate_left
 replace c28 := Bool.eq_false_iff.mpr c28
 subst c28
 rw [if_neg (show ¬ (false = true) by decide)] at H
 obtain rfl := Option.some.inj H
 rotate_right
 subst c28
 rw [if_pos rfl] at H
 by_cases c29 : (a0_2.toList = ([] : List UInt8))
 rotate_left
 rw [if_neg c29] at H
 have c29b0 : (a0_2.toList == ([] : List UInt8)) = false := beq_eq_false_iff_ne.mpr c29
 have c29b1 : (a0_2.toList != ([] : List UInt8)) = true := bne_iff_ne.mpr c29
 obtain rfl := Option.some.inj H
 rotate_right
 rw [if_pos c29] at H
 have c29b0 : (a0_2.toList == ([] : List UInt8)) = true := beq_iff_eq.mpr c29
 have c29b1 : (a0_2.toList != ([] : List UInt8)) = false := bne_eq_false_iff_eq.mpr c29
 clear c29
 obtain rfl := Option.some.inj H
 rotate_right
 rw [if_pos c11] at H
 have c11b0 : (a0_0 == 2) = true := beq_iff_eq.mpr c11
 have c11b1 : (a0_0 != 2) = false := bne_eq_false_iff_eq.mpr c11
 clear c11
 by_cases c12 : a0_1 = 0
 rotate_left
 rw [if_neg c12] at H
 have c12b0 : (a0_1 == 0) = false := beq_eq_false_iff_ne.mpr c12
 have c12b1 : (a0_1 != 0) = true := bne_iff_ne.mpr c12
 by_cases c18 : a0_1 = 1
 rotate_left
 rw [if_neg c18] at H
 have c18b0 : (a0_1 == 1) = false := beq_eq_false_iff_ne.mpr c18
 have c18b1 : (a0_1 != 1) = true := bne_iff_ne.mpr c18
 obtain rfl := Option.some.inj H
 rotate_right
 rw [if_pos c18] at H
 have c18b0 : (a0_1 == 1) = true := beq_iff_eq.mpr c18
 have c18b1 : (a0_1 != 1) = false := bne_eq_false_iff_eq.mpr c18
 clear c18
 by_cases c19 : (a0_2.toList = ([] : List UInt8))
 rotate_left
 rw [if_neg c19] at H
 have c19b0 : (a0_2.toList == ([] : List UInt8)) = false := beq_eq_false_iff_ne.mpr c19
 have c19b1 : (a0_2.toList != ([] : List UInt8)) = true := bne_iff_ne.mpr c19
 obtain rfl := Option.some.inj H
 rotate_right
 rw [if_pos c19] at H
 have c19b0 : (a0_2.toList == ([] : List UInt8)) = true := beq_iff_eq.mpr c19
 have c19b1 : (a0_2.toList != ([] : List UInt8)) = false := bne_eq_false_iff_eq.mpr c19
 clear c19
 obtain rfl := Option.some.inj H
 rotate_right
 rw [if_pos c12] at H
 have c12b0 : (a0_1 == 0) = true := beq_iff_eq.mpr c12
 have c12b1 : (a0_1 != 0) = false := bne_eq_false_iff_eq.mpr c12
 clear c12
 by_cases c13 : (a0_2.toList = ([] : List UInt8))
 rotate_left
 rw [if_neg c13] at H
 have c13b0 : (a0_2.toList == ([] : List UInt8)) = false := beq_eq_false_iff_ne.mpr c13
 have c13b1 : (a0_2.toList != ([] : List UInt8)) = true := bne_iff_ne.mpr c13
 obtain rfl := Option.some.inj H
 rotate_right
 rw [if_pos c13] at H
 have c13b0 : (a0_2.toList == ([] : List UInt8)) = true := beq_iff_eq.mpr c13
 have c13b1 : (a0_2.toList != ([] : List UInt8)) = false := bne_eq_false_iff_eq.mpr c13
 clear c13
 obtain rfl := Option.some.inj H
 rotate_right
 rw [if_pos c2] at H
 have c2b0 : (a0_0 == 1) = true := beq_iff_eq.mpr c2
 have c2b1 : (a0_0 != 1) = false := bne_eq_false_iff_eq.mpr c2
 clear c2
 by_cases c3 : a0_1 = 0
 rotate_left
 rw [if_neg c3] at H
 have c3b0 : (a0_1 == 0) = false := beq_eq_false_iff_ne.mpr c3
 have c3b1 : (a0_1 != 0) = true := bne_iff_ne.mpr c3
 obtain rfl := Option.some.inj H
 rotate_right
 rw [if_pos c3] at H
 have c3b0 : (a0_1 == 0) = true := beq_iff_eq.mpr c3
 have c3b1 : (a0_1 != 0) = false := bne_eq_false_iff_eq.mpr c3
 clear c3
 by_cases c4 : (a0_2.toList = ([] : List UInt8))
 rotate_left
 rw [if_neg c4] at H
 have c4b0 : (a0_2.toList == ([] : List UInt8)) = false := beq_eq_false_iff_ne.mpr c4
 have c4b1 : (a0_2.toList != ([] : List UInt8)) = true := bne_iff_ne.mpr c4
 obtain rfl := Option.some.inj H
 rotate_right
 rw [if_pos c4] at H
 have c4b0 : (a0_2.toList == ([] : List UInt8)) = true := beq_iff_eq.mpr c4
 have c4b1 : (a0_2.toList != ([] : List UInt8)) = false := bne_eq_false_iff_eq.mpr c4
 clear c4
 obtain rfl := Option.some.inj H
 all_goals
  go_enter Try.func108, Try.ntmps108
  go_wp2_with (first | ((with_reducible refine bP (N := 1) rfl ?_); (try (refine fP (by rfl) ?_; dsimp only)); refine bL ?hg (N := 1) ?hd (cs := #[.int .i64 a0_0, .int .i64 a0_1, .string a0_2]) (t := 89) ?hr ?_; (case hd => rfl); (case hg => rfl); (case hr => first | (go_simp; done) | (go_simp; rfl)); intro gb119 hg w_1 hbox hb; have n0_ := mk_ (aI (Short.hB HB) hb); have n1_ := mk_ (hbox); have n2_ := mk_ ((by rw [hg]; exact (aN (Short.hB HB)) : w.heap.size ≤ gb119)); have n3_ := mk_ ((by rw [hg]; exact (aN (Short.hB HB)) : w.heap.size ≤ gb119)); clear HB; revert n0_ n1_ n2_ n3_; intro HB BK119 GW119 GE119; clear hb hbox hg; obtain ⟨hcz_0, hcz_1, hcz_2, hfz_0, hfz_1, hfz_2⟩ := Short.c3 BK119.out) | ((with_reducible refine aT (f := 112) rfl ?_); refine Short.gL (some 35) Try.func112 #[.int .i64 a0_1, .int .i64 1152921504606846976] (h := ?_); (with_reducible refine (eY.calls a0_1 1152921504606846976 _ _ A27.out).mono ?_); rintro e w' ⟨rfl, ⟨nd, rfl⟩⟩; refine ⟨_, rfl, ?_⟩))
  go_ret
  exact ⟨q0, Short.hB HB⟩
def cW.l0 : Nat → Int → List Int → Int → Option (List Int)
 | 0, _, _, _ => none
 | k + 1, x1, x7, x8 => if x8 ≥ 0 then (if 0 ≤ (wrap64 (8 * x8)) then (if x7.length < 140737488355328 then (cW.l0 k x1 (x7 ++ [(shr .i64 x1 (wrap64 (8 * x8))) % 256]) (wrap64 (x8 - 1))) else (none)) else (none)) else (some x7)
def cW.f (k : Nat) (l0 : List Int) (a1 : Int) (a2 : Int) : Option (List Int) := (slices_Clone_byte_byte.f l0).bind fun t121 => (cW.l0 k a1 t121 (wrap64 (a2 - 1)))
theorem cW.calls (k : Nat) (A0 : Option Addr) (c0 : Nat) (l0 : List Int) (a1 : Int) (a2 : Int) (r : List Int) (w : World) (hr0 : Kd.C (Kd.int .u8) w A0 l0.length l0) (hc0 : l0.length ≤ c0) (h : cW.f k l0 a1 a2 = some r) :
  Calls Try.prog 103 #[.slice A0 l0.length c0, .int .i64 a1, .int .i64 a2] w fun e w' => ∃ v0_ : Value, e = .returned (v0_) ∧ Kd.R (Kd.int .u8) 5 w' w.heap.size (fun _ => True) v0_ r ∧ Below w.heap.size w w' := by
 have HR0 := mk_ hr0
 have HC0 := mk_ hc0
 clear hr0 hc0
 have HB := mk_ (Below.refl w.heap.size w)
 have H : ((slices_Clone_byte_byte.f l0).bind fun t121 => (cW.l0 k a1 t121 (wrap64 (a2 - 1)))) = some r := h
 clear h
 obtain ⟨t121, A4, H⟩ := Option.bind_eq_some_iff.mp H
 replace A4 := mk_ A4
 have H' := mk_ H
 clear H
 go_enter Try.func103, Try.ntmps103
 go_wp2_with (first | ((with_reducible refine aT (f := 58) rfl ?_); refine Short.gL (some 10) Try.func58 #[.slice A0 l0.length c0] (h := ?_); (with_reducible refine (slices_Clone_byte_byte.calls _ _ l0 t121 _ ?side1 ?side2 A4.out).mono ?_); (case side1 => repeat (first | exact HR0.out | (with_reducible refine C_alloc ?_ _) | (with_reducible refine C_drewN ?_ _) | (with_reducible refine C_drew ?_))); (case side2 => exact HC0.out); rintro e w5 ⟨v122, rfl, ho0, hb⟩; refine ⟨_, rfl, ?_⟩; have n0_ := mk_ (dN ho0 (aN (Short.hB HB))); have n1_ := mk_ (aI (Short.hB HB) hb); clear HB; revert n0_ n1_; intro HO123 HB; (try clear hb ho0)))
 go_loopg [7, 8] k (fun kq v7 v8 w' => ∃ (x7_1 : List Int) (x8_1 : Int), v8 = .int .i64 x8_1 ∧ Aside0 (cW.l0 kq a1 x7_1 x8_1 = some r) ∧ Aside0 (kq ≤ k) ∧ Aside0 (Kd.R (Kd.int .u8) 5 w' w.heap.size (fun _ => True) v7 x7_1) ∧ Aside0 (Below w.heap.size w w'))
 case atStart => exact ⟨(t121), (wrap64 (a2 - 1)), z3_, H', ⟨Nat.le_refl _⟩, ⟨by (with_reducible repeat (first | apply R_alloc | apply R_drewN | apply R_drew)); exact HO123.out⟩, ⟨Short.hB HB⟩⟩
 case round =>
  clear H'
  obtain ⟨x7_1, x8_1, rfl, HA, HK1, HO_7, HB⟩ := hrel
  cases gk with
  | zero => exact absurd HA.out (by simp [cW.l0])
  | succ k1 =>
   have H := HA.out
   clear HA
   simp only [cW.l0] at H
   by_cases c6 : x8_1 ≥ 0
   rotate_left
   ·
    rw [if_neg c6] at H
    have c6b0 : decide (0 ≤ x8_1) = false := decide_eq_false c6
    clear c6
    obtain rfl := Option.some.inj H
    go_wp2
    go_ret
    exact ⟨_, by first | rfl | (simp [bD, bC] <;> rfl) | (simp [*, bD, bC] <;> rfl), by (with_reducible repeat (first | apply R_alloc | apply R_drewN | apply R_drew)); exact HO_7.out, Short.hB HB⟩
   rw [if_pos c6] at H
   have c6b0 : decide (0 ≤ x8_1) = true := decide_eq_true c6
   clear c6
   obtain ⟨ji7, hji7⟩ : ∃ j_ : Int, (wrap64 (8 * x8_1)) = j_ := ⟨_, rfl⟩
   replace H : (if 0 ≤ (ji7) then (if x7_1.length < 140737488355328 then (cW.l0 k1 a1 (x7_1 ++ [(shr .i64 a1 (ji7)) % 256]) (wrap64 (x8_1 - 1))) else (none)) else (none)) = some r := by first | (rw [hji7] at H; exact H) | (simp only [hji7] at H ⊢; exact H)
   have hji7w : (IntKind.i64.wrap (8 * x8_1)) = ji7 := (i64_w _).trans hji7
   by_cases c8 : 0 ≤ (ji7)
   rotate_left
   ·
    rw [if_neg c8] at H
    exact absurd H (by simp)
   rw [if_pos c8] at H
   have c8b0 := eq_true c8
   have c8b1 : decide (0 ≤ (ji7)) = true := decide_eq_true c8
   clear c8
   obtain ⟨ji9, hji9⟩ : ∃ j_ : Int, (shr .i64 a1 (ji7)) = j_ := ⟨_, rfl⟩
   replace H : (if x7_1.length < 140737488355328 then (cW.l0 k1 a1 (x7_1 ++ [(ji9) % 256]) (wrap64 (x8_1 - 1))) else (none)) = some r := by first | (rw [hji9] at H; exact H) | (simp only [hji9] at H ⊢; exact H)
   have hji9_ : (a1 / 2 ^ min (ji7).toNat 64) = ji9 := hji9
   have hji9z : (ji7) ≤ 64 → (a1 / 2 ^ (ji7).toNat) = ji9 := shr_small hji9
   by_cases c10 : x7_1.length < 140737488355328
   rotate_left
   ·
    rw [if_neg c10] at H
    exact absurd H (by simp)
   rw [if_pos c10] at H
   have LMc10 := mk_ c10
   clear c10
   obtain ⟨y124, hy124⟩ : ∃ y_ : List Int, y_ = (x7_1 ++ [(ji9) % 256]) := ⟨_, rfl⟩
   replace H : (cW.l0 k1 a1 y124 (wrap64 (x8_1 - 1))) = some r := by first | (rw [hy124]; with_reducible exact H) | (have H2_ := (Option.bind_some _ _).symm.trans H; rw [hy124]; with_reducible exact H2_) | (have H2_ := (Option.bind_some _ _).symm.trans H; with_reducible exact H2_) | with_reducible exact H | (rw [hy124]; exact H) | exact H
   have Ny124 := mk_ hy124
   clear hy124
   have H' := mk_ H
   clear H
   go_wp2_with (first | ((with_reducible refine cJ (b := .append) (xs := #[.tmp 17, .tmp 23]) rfl ?_); at_builtin; refine fV (Kd.int .u8) (w0 := w) w.heap.size rfl (.tmp 17) (.tmp 23) 22 5 (.int .u8 0) 1 rfl Try.underlying22 info5 rfl z4_ z2_ u7 x7_1 ((ji9) % 256) [.int .u8 ((ji9) % 256)] (fun _ => True) (fun _ => False) rfl rfl ?aP (fun _ hk => hk.elim) ?aF ?aO ?aB ?aS ?aL ?_; (case aP => exact rfl); (case aB => exact (Short.hB HB)); (case aF => exact (fun _ _ => trivial)); (case aO => exact (ZKR HO_7)); (case aS => exact (aN (Short.hB HB))); (case aL => have := LMc10.out; omega); intro v125 w11 ho hb hg hat; rw [← Ny124.out] at ho; have n0_ := mk_ (hb); have n1_ := mk_ (ho); clear HB HO_7; revert n0_ n1_; intro HB HO126; clear ho hb hg hat))
   go_roundg k1
   case measure => have := HK1.out; omega
   case rel => exact ⟨(y124), (wrap64 (x8_1 - 1)), z3_, H', ⟨by have := HK1.out; omega⟩, ⟨by (with_reducible repeat (first | apply R_alloc | apply R_drewN | apply R_drew)); exact HO126.out⟩, ⟨Short.hB HB⟩⟩
def cT.j0 : Nat → List Int → Int → Bool → Option (List Int × Int)
 | 0, _, _, _ => none
 | k + 1, x0, x1, x12 => if x12 = true then (some (([] : List Int), 1)) else (if x1 < 0 then ((slices_Clone_byte_byte.f x0).bind fun t127 => (if t127.length < 140737488355328 then ((cW.f k (t127 ++ [1]) (wrap64 (-x1)) 8).bind fun t133 => (some (t133, 0))) else (none))) else ((slices_Clone_byte_byte.f x0).bind fun t136 => (if t136.length < 140737488355328 then ((cW.f k (t136 ++ [0]) x1 8).bind fun t142 => (some (t142, 0))) else (none))))
def cT.f (k : Nat) (l0 : List Int) (a1 : Int) : Option (List Int × Int) := if a1 < (-1152921504606846976) then (cT.j0 k l0 a1 true) else (cT.j0 k l0 a1 (decide (a1 > 1152921504606846976)))
theorem cT.calls (k : Nat) (A0 : Option Addr) (c0 : Nat) (l0 : List Int) (a1 : Int) (r1 : List Int) (r2 : Int) (w : World) (hr0 : Kd.C (Kd.int .u8) w A0 l0.length l0) (hc0 : l0.length ≤ c0) (h : cT.f k l0 a1 = some (r1, r2)) :
  Calls Try.prog 109 #[.slice A0 l0.length c0, .int .i64 a1] w fun e w' => ∃ v0_ : Value, e = .returned (.tuple #[v0_, .int .i64 r2]) ∧ Kd.R (Kd.int .u8) 5 w' w.heap.size (fun _ => True) v0_ r1 ∧ Below w.heap.size w w' := by
 have HR0 := mk_ hr0
 have HC0 := mk_ hc0
 clear hr0 hc0
 have HB := mk_ (Below.refl w.heap.size w)
 have H : (if a1 < (-1152921504606846976) then (cT.j0 k l0 a1 true) else (cT.j0 k l0 a1 (decide (a1 > 1152921504606846976)))) = some (r1, r2) := h
 clear h
 have HC3 := mk_ H
 clear H
 go_enter Try.func109, Try.ntmps109
 go_upto_region 1 with (fail)
 go_cut [12] (fun v12 wc => ∃ (kq : Nat) (x12_2 : Bool), v12 = .bool x12_2 ∧ Aside0 (cT.j0 kq l0 a1 x12_2 = some (r1, r2)) ∧ Aside0 (kq ≤ k) ∧ Aside0 (Below w.heap.size w wc))
 case first =>
  have H := HC3.out
  clear HC3
  by_cases c4 : a1 < (-1152921504606846976)
  ·
   rw [if_pos c4] at H
   have c4b0 : decide (a1 < (-1152921504606846976)) = true := decide_eq_true c4
   clear c4
   (first | rw [c4b0] | (simp only [i64_w, i32_w]; rw [c4b0]) | skip)
   have H' := mk_ H
   clear H
   go_wp2
   go_meet
   case rel => exact ⟨_, (true), z3_, H', ⟨by first | omega | exact Nat.le_refl _⟩, ⟨Short.hB HB⟩⟩
  rw [if_neg c4] at H
  have c4b0 : decide (a1 < (-1152921504606846976)) = false := decide_eq_false c4
  clear c4
  (first | rw [c4b0] | (simp only [i64_w, i32_w]; rw [c4b0]) | skip)
  have H' := mk_ H
  clear H
  go_wp2
  go_meet
  case rel => exact ⟨_, (decide (a1 > 1152921504606846976)), z3_, H', ⟨by first | omega | exact Nat.le_refl _⟩, ⟨Short.hB HB⟩⟩
 case rest => as_aux_lemma =>
  clear HC3
  obtain ⟨kq, x12_2, rfl, HA, HJ2, HB⟩ := hcut
  cases kq with
  | zero => exact absurd HA.out (by simp [cT.j0])
  | succ kj2 =>
   have H := HA.out
   clear HA
   simp only [cT.j0] at H
   by_cases c5 : x12_2 = true
   ·
    subst c5
    rw [if_pos rfl] at H
    simp only [Option.some.injEq, Prod.mk.injEq] at H
    obtain ⟨rfl, rfl⟩ := H
    go_wp2
    go_ret2
    exact ⟨_, by first | rfl | (simp [bD, bC] <;> rfl) | (simp [*, bD, bC] <;> rfl), by first | exact R_nil _ _ _ _ _ | exact N_nil _ _ _ _ _ | exact V_nil _ _ _ _ _ | exact Q_nil _ _ _ _ _ | exact S_nil _ _ _ _ _, Short.hB HB⟩
   ·
    replace c5 := Bool.eq_false_iff.mpr c5
    subst c5
    rw [if_neg (show ¬ (false = true) by decide)] at H
    by_cases c6 : a1 < 0
    ·
     rw [if_pos c6] at H
     have c6b0 : decide (a1 < 0) = true := decide_eq_true c6
     clear c6
     obtain ⟨t127, A7, H⟩ := Option.bind_eq_some_iff.mp H
     replace A7 := mk_ A7
     by_cases c8 : t127.length < 140737488355328
     ·
      rw [if_pos c8] at H
      have LMc8 := mk_ c8
      clear c8
      obtain ⟨y130, hy130⟩ : ∃ y_ : List Int, y_ = (t127 ++ [1]) := ⟨_, rfl⟩
      replace H : ((cW.f kj2 y130 (wrap64 (-a1)) 8).bind fun t133 => (some (t133, 0))) = some (r1, r2) := by first | (rw [hy130]; with_reducible exact H) | (have H2_ := (Option.bind_some _ _).symm.trans H; rw [hy130]; with_reducible exact H2_) | (have H2_ := (Option.bind_some _ _).symm.trans H; with_reducible exact H2_) | with_reducible exact H | (rw [hy130]; exact H) | exact H
      have Ny130 := mk_ hy130
      clear hy130
      obtain ⟨t133, A9, H⟩ := Option.bind_eq_some_iff.mp H
      replace A9 := mk_ A9
      simp only [Option.some.injEq, Prod.mk.injEq] at H
      obtain ⟨rfl, rfl⟩ := H
      go_wp2_with (first | ((with_reducible refine aT (f := 58) rfl ?_); refine Short.gL (some 18) Try.func58 #[.slice A0 l0.length c0] (h := ?_); (with_reducible refine (slices_Clone_byte_byte.calls _ _ l0 t127 _ ?side1 ?side2 A7.out).mono ?_); (case side1 => exact cX_ (aV HR0.out HB.out)); (case side2 => exact HC0.out); rintro e w10 ⟨v128, rfl, ho0, hb⟩; refine ⟨_, rfl, ?_⟩; have n0_ := mk_ (dN ho0 (aN (Short.hB HB))); have n1_ := mk_ (aI (Short.hB HB) hb); clear HB; revert n0_ n1_; intro HO129 HB; (try clear hb ho0)) | ((with_reducible refine cJ (b := .append) (xs := #[.tmp 18, .tmp 20]) rfl ?_); at_builtin; refine fV (Kd.int .u8) (w0 := w) w.heap.size rfl (.tmp 18) (.tmp 20) 22 5 (.int .u8 0) 1 rfl Try.underlying22 info5 rfl z4_ z2_ v128 t127 1 [.int .u8 1] (fun _ => True) (fun _ => False) rfl rfl ?aP (fun _ hk => hk.elim) ?aF ?aO ?aB ?aS ?aL ?_; (case aP => exact rfl); (case aB => exact (Short.hB HB)); (case aF => exact (fun _ _ => trivial)); (case aO => exact (ZKR HO129)); (case aS => exact (aN (Short.hB HB))); (case aL => have := LMc8.out; omega); intro v131 w11 ho hb hg hat; rw [← Ny130.out] at ho; have n0_ := mk_ (hb); have n1_ := mk_ (ho); clear HB HO129; revert n0_ n1_; intro HB HO132; clear ho hb hg hat; obtain ⟨Ao12, co12, eo12⟩ := dH HO132.out; subst eo12) | ((with_reducible refine aT (f := 103) rfl ?_); refine Short.gL (some 23) Try.func103 #[.slice Ao12 y130.length co12, .int .i64 (wrap64 (-a1)), .int .i64 8] (h := ?_); (with_reducible refine (cW.calls kj2 _ _ y130 (wrap64 (-a1)) 8 t133 _ ?side1 ?side2 A9.out).mono ?_); (case side1 => exact cX_ (R_reads' HO132.out).2.2); (case side2 => exact (R_reads' HO132.out).2.1); rintro e w13 ⟨v134, rfl, ho0, hb⟩; refine ⟨_, rfl, ?_⟩; have n0_ := mk_ (R_elder' (ZKR HO132) (R_base ho0) hb); have n1_ := mk_ (dN (R_new' ho0 (R_lt (ZKR HO132))) (aN (Short.hB HB))); have n2_ := mk_ (aI (Short.hB HB) hb); clear HO132 HB; revert n0_ n1_ n2_; intro HO132 HO135 HB; (try clear hb ho0)))
      go_ret2
      exact ⟨_, by first | rfl | (simp [bD, bC] <;> rfl) | (simp [*, bD, bC] <;> rfl), by (with_reducible repeat (first | apply R_alloc | apply R_drewN | apply R_drew)); exact R_mono HO135.out (fun _ hk => trivial), Short.hB HB⟩
     ·
      rw [if_neg c8] at H
      exact absurd H (by simp)
    ·
     rw [if_neg c6] at H
     have c6b0 : decide (a1 < 0) = false := decide_eq_false c6
     clear c6
     obtain ⟨t136, A14, H⟩ := Option.bind_eq_some_iff.mp H
     replace A14 := mk_ A14
     by_cases c15 : t136.length < 140737488355328
     ·
      rw [if_pos c15] at H
      have LMc15 := mk_ c15
      clear c15
      obtain ⟨y139, hy139⟩ : ∃ y_ : List Int, y_ = (t136 ++ [0]) := ⟨_, rfl⟩
      replace H : ((cW.f kj2 y139 a1 8).bind fun t142 => (some (t142, 0))) = some (r1, r2) := by first | (rw [hy139]; with_reducible exact H) | (have H2_ := (Option.bind_some _ _).symm.trans H; rw [hy139]; with_reducible exact H2_) | (have H2_ := (Option.bind_some _ _).symm.trans H; with_reducible exact H2_) | with_reducible exact H | (rw [hy139]; exact H) | exact H
      have Ny139 := mk_ hy139
      clear hy139
      obtain ⟨t142, A16, H⟩ := Option.bind_eq_some_iff.mp H
      replace A16 := mk_ A16
      simp only [Option.some.injEq, Prod.mk.injEq] at H
      obtain ⟨rfl, rfl⟩ := H
      go_wp2_with (first | ((with_reducible refine aT (f := 58) rfl ?_); refine Short.gL (some 18) Try.func58 #[.slice A0 l0.length c0] (h := ?_); (with_reducible refine (slices_Clone_byte_byte.calls _ _ l0 t136 _ ?side1 ?side2 A14.out).mono ?_); (case side1 => exact cX_ (aV HR0.out HB.out)); (case side2 => exact HC0.out); rintro e w17 ⟨v137, rfl, ho0, hb⟩; refine ⟨_, rfl, ?_⟩; have n0_ := mk_ (dN ho0 (aN (Short.hB HB))); have n1_ := mk_ (aI (Short.hB HB) hb); clear HB; revert n0_ n1_; intro HO138 HB; (try clear hb ho0)) | ((with_reducible refine cJ (b := .append) (xs := #[.tmp 18, .tmp 20]) rfl ?_); at_builtin; refine fV (Kd.int .u8) (w0 := w) w.heap.size rfl (.tmp 18) (.tmp 20) 22 5 (.int .u8 0) 1 rfl Try.underlying22 info5 rfl z4_ z2_ v137 t136 0 [.int .u8 0] (fun _ => True) (fun _ => False) rfl rfl ?aP (fun _ hk => hk.elim) ?aF ?aO ?aB ?aS ?aL ?_; (case aP => exact rfl); (case aB => exact (Short.hB HB)); (case aF => exact (fun _ _ => trivial)); (case aO => exact (ZKR HO138)); (case aS => exact (aN (Short.hB HB))); (case aL => have := LMc15.out; omega); intro v140 w18 ho hb hg hat; rw [← Ny139.out] at ho; have n0_ := mk_ (hb); have n1_ := mk_ (ho); clear HB HO138; revert n0_ n1_; intro HB HO141; clear ho hb hg hat; obtain ⟨Ao19, co19, eo19⟩ := dH HO141.out; subst eo19) | ((with_reducible refine aT (f := 103) rfl ?_); refine Short.gL (some 23) Try.func103 #[.slice Ao19 y139.length co19, .int .i64 a1, .int .i64 8] (h := ?_); (with_reducible refine (cW.calls kj2 _ _ y139 a1 8 t142 _ ?side1 ?side2 A16.out).mono ?_); (case side1 => exact cX_ (R_reads' HO141.out).2.2); (case side2 => exact (R_reads' HO141.out).2.1); rintro e w20 ⟨v143, rfl, ho0, hb⟩; refine ⟨_, rfl, ?_⟩; have n0_ := mk_ (R_elder' (ZKR HO141) (R_base ho0) hb); have n1_ := mk_ (dN (R_new' ho0 (R_lt (ZKR HO141))) (aN (Short.hB HB))); have n2_ := mk_ (aI (Short.hB HB) hb); clear HO141 HB; revert n0_ n1_ n2_; intro HO141 HO144 HB; (try clear hb ho0)))
      go_ret2
      exact ⟨_, by first | rfl | (simp [bD, bC] <;> rfl) | (simp [*, bD, bC] <;> rfl), by (with_reducible repeat (first | apply R_alloc | apply R_drewN | apply R_drew)); exact R_mono HO144.out (fun _ hk => trivial), Short.hB HB⟩
     ·
      rw [if_neg c15] at H
      exact absurd H (by simp)
def value_Bytes.f (k : Nat) (a0_0 : Int) (a0_1 : Int) (a0_2 : ByteArray) : Option (List Int × Int) := (bX.f a0_0 a0_1 a0_2).bind fun t146 => (if t146 = 0 then ((some (([(a0_0) % 256] : List Int) : List Int)).bind fun y147 => (if a0_0 = 2 then (if y147.length < 140737488355328 then (some ((y147 ++ [(a0_1) % 256]), 0)) else (none)) else (if a0_0 = 3 then ((cT.f k y147 a0_1).bind fun bt153 => (some (bt153.1, bt153.2))) else (if a0_0 = 4 then ((wire_PutText.f y147 a0_2).bind fun bt157 => (some (bt157.1, bt157.2))) else (some (y147, 0)))))) else (some (([] : List Int), t146)))
theorem value_Bytes.calls (k : Nat) (a0_0 : Int) (a0_1 : Int) (a0_2 : ByteArray) (r1 : List Int) (r2 : Int) (w : World) (h : value_Bytes.f k a0_0 a0_1 a0_2 = some (r1, r2)) :
  Calls Try.prog 105 #[.agg #[.int .i64 a0_0, .int .i64 a0_1, .string a0_2]] w fun e w' => ∃ v0_ : Value, e = .returned (.tuple #[v0_, .int .i64 r2]) ∧ Kd.R (Kd.int .u8) 5 w' w.heap.size (fun _ => True) v0_ r1 ∧ Below w.heap.size w w' := by
 have hu89 := Try.underlying89
 have HB := mk_ (Below.refl w.heap.size w)
 have H : ((bX.f a0_0 a0_1 a0_2).bind fun t146 => (if t146 = 0 then ((some (([(a0_0) % 256] : List Int) : List Int)).bind fun y147 => (if a0_0 = 2 then (if y147.length < 140737488355328 then (some ((y147 ++ [(a0_1) % 256]), 0)) else (none)) else (if a0_0 = 3 then ((cT.f k y147 a0_1).bind fun bt153 => (some (bt153.1, bt153.2))) else (if a0_0 = 4 then ((wire_PutText.f y147 a0_2).bind fun bt157 => (some (bt157.1, bt157.2))) else (some (y147, 0)))))) else (some (([] : List Int), t146)))) = some (r1, r2) := h
 clear h
 obtain ⟨t146, A2, H⟩ := Option.bind_eq_some_iff.mp H
 replace A2 := mk_ A2
 by_cases c3 : t146 = 0
 rotate_left
 ·
  rw [if_neg c3] at H
  have c3b0 : (t146 == 0) = false := beq_eq_false_iff_ne.mpr c3
  have c3b1 : (t146 != 0) = true := bne_iff_ne.mpr c3
  simp only [Option.some.injEq, Prod.mk.injEq] at H
  obtain ⟨rfl, rfl⟩ := H
  go_enter Try.func105, Try.ntmps105
  go_wp2_with (first | ((with_reducible refine bP (N := 1) rfl ?_); refine bL ?hg (N := 1) ?hd (cs := #[.int .i64 a0_0, .int .i64 a0_1, .string a0_2]) (t := 89) ?hr ?_; (case hd => rfl); (case hg => rfl); (case hr => first | (go_simp; done) | (go_simp; rfl)); intro gb145 hg w43 hbox hb; have n0_ := mk_ (aI (Short.hB HB) hb); have n1_ := mk_ (hbox); have n2_ := mk_ ((by rw [hg]; exact (aN (Short.hB HB)) : w.heap.size ≤ gb145)); have n3_ := mk_ ((by rw [hg]; exact (aN (Short.hB HB)) : w.heap.size ≤ gb145)); clear HB; revert n0_ n1_ n2_ n3_; intro HB BK145 GW145 GE145; clear hb hbox hg; obtain ⟨hcz_0, hcz_1, hcz_2, hfz_0, hfz_1, hfz_2⟩ := Short.c3 BK145.out) | ((with_reducible refine aT (f := 108) rfl ?_); refine Short.gL (some 7) Try.func108 #[.agg #[.int .i64 a0_0, .int .i64 a0_1, .string a0_2]] (h := ?_); (with_reducible refine (bX.calls a0_0 a0_1 a0_2 t146 _ A2.out).mono ?_); rintro e w45 ⟨rfl, hb⟩; refine ⟨_, rfl, ?_⟩; have n0_ := mk_ (bB_ BK145 hb); have n1_ := mk_ (aI (Short.hB HB) hb); clear BK145 HB; revert n0_ n1_; intro BK145 HB; (try clear hb)))
  go_ret2
  exact ⟨_, by first | rfl | (simp [bD, bC] <;> rfl) | (simp [*, bD, bC] <;> rfl), by first | exact R_nil _ _ _ _ _ | exact N_nil _ _ _ _ _ | exact V_nil _ _ _ _ _ | exact Q_nil _ _ _ _ _ | exact S_nil _ _ _ _ _, Short.hB HB⟩
 rw [if_pos c3] at H
 have c3b0 : (t146 == 0) = true := beq_iff_eq.mpr c3
 have c3b1 : (t146 != 0) = false := bne_eq_false_iff_eq.mpr c3
 clear c3
 obtain ⟨y147, hy147⟩ : ∃ y_ : List Int, y_ = (([(a0_0) % 256] : List Int)) := ⟨_, rfl⟩
 replace H : (if a0_0 = 2 then (if y147.length < 140737488355328 then (some ((y147 ++ [(a0_1) % 256]), 0)) else (none)) else (if a0_0 = 3 then ((cT.f k y147 a0_1).bind fun bt153 => (some (bt153.1, bt153.2))) else (if a0_0 = 4 then ((wire_PutText.f y147 a0_2).bind fun bt157 => (some (bt157.1, bt157.2))) else (some (y147, 0))))) = some (r1, r2) := by first | (rw [hy147]; with_reducible exact H) | (have H2_ := (Option.bind_some _ _).symm.trans H; rw [hy147]; with_reducible exact H2_) | (have H2_ := (Option.bind_some _ _).symm.trans H; with_reducible exact H2_) | with_reducible exact H | (rw [hy147]; exact H) | exact H
 have Ny147 := mk_ hy147
 clear hy147
 by_cases c4 : a0_0 = 2
 ·
  rw [if_pos c4] at H
  have c4b0 : (a0_0 == 2) = true := beq_iff_eq.mpr c4
  have c4b1 : (a0_0 != 2) = false := bne_eq_false_iff_eq.mpr c4
  clear c4
  by_cases c5 : y147.length < 140737488355328
  rotate_left
  ·
   rw [if_neg c5] at H
   exact absurd H (by simp)
  rw [if_pos c5] at H
  have LMc5 := mk_ c5
  clear c5
  obtain ⟨y150, hy150⟩ : ∃ y_ : List Int, y_ = (y147 ++ [(a0_1) % 256]) := ⟨_, rfl⟩
  replace H : (some (y150, 0)) = some (r1, r2) := by first | (rw [hy150]; with_reducible exact H) | (have H2_ := (Option.bind_some _ _).symm.trans H; rw [hy150]; with_reducible exact H2_) | (have H2_ := (Option.bind_some _ _).symm.trans H; with_reducible exact H2_) | with_reducible exact H | (rw [hy150]; exact H) | exact H
  have Ny150 := mk_ hy150
  clear hy150
  simp only [Option.some.injEq, Prod.mk.injEq] at H
  obtain ⟨rfl, rfl⟩ := H
  go_enter Try.func105, Try.ntmps105
  go_wp2_with (first | ((with_reducible refine bP (N := 1) rfl ?_); refine bL ?hg (N := 1) ?hd (cs := #[.int .i64 a0_0, .int .i64 a0_1, .string a0_2]) (t := 89) ?hr ?_; (case hd => rfl); (case hg => rfl); (case hr => first | (go_simp; done) | (go_simp; rfl)); intro gb145 hg w6 hbox hb; have n0_ := mk_ (aI (Short.hB HB) hb); have n1_ := mk_ (hbox); have n2_ := mk_ ((by rw [hg]; exact (aN (Short.hB HB)) : w.heap.size ≤ gb145)); have n3_ := mk_ ((by rw [hg]; exact (aN (Short.hB HB)) : w.heap.size ≤ gb145)); clear HB; revert n0_ n1_ n2_ n3_; intro HB BK145 GW145 GE145; clear hb hbox hg; obtain ⟨hcz_0, hcz_1, hcz_2, hfz_0, hfz_1, hfz_2⟩ := Short.c3 BK145.out) | ((with_reducible refine aT (f := 108) rfl ?_); refine Short.gL (some 7) Try.func108 #[.agg #[.int .i64 a0_0, .int .i64 a0_1, .string a0_2]] (h := ?_); (with_reducible refine (bX.calls a0_0 a0_1 a0_2 t146 _ A2.out).mono ?_); rintro e w8 ⟨rfl, hb⟩; refine ⟨_, rfl, ?_⟩; have n0_ := mk_ (bB_ BK145 hb); have n1_ := mk_ (aI (Short.hB HB) hb); clear BK145 HB; revert n0_ n1_; intro BK145 HB; (try clear hb); obtain ⟨hcz_0, hcz_1, hcz_2, hfz_0, hfz_1, hfz_2⟩ := Short.c3 BK145.out) | ((with_reducible refine bP (N := 14) rfl ?_); refine R_lit (Kd.int .u8) _ 5 ?hg (N := 14) ?hd (xs := ([(a0_0) % 256] : List Int)) (inner := [.int .u8 ((a0_0) % 256)]) (ok := fun _ => True) (okp := fun _ => True) ?hr ?hp (fun _ hk => hk) trivial (Below.refl _ _) (Nat.le_refl _) (by simp) ?_; (case hd => rfl); (case hg => rfl); (case hr => first | (go_simp; done) | (go_simp; rfl)); (case hp => exact (Reps.one (show Kd.M (Kd.int .u8) _ _ _ ((a0_0) % 256) [.int .u8 ((a0_0) % 256)] from rfl) (Reps.none _ _))); intro v148 w10 ho11 hb hg_ hnew_; clear hg_ hnew_; (first | rw [← Ny147.out] at ho11 | (simp only [Int.reduceToNat] at ho11; rw [← Ny147.out] at ho11)); have n0_ := mk_ (dN ho11 (aN (Short.hB HB))); have n1_ := mk_ (bB_ BK145 hb); have n2_ := mk_ (aI (Short.hB HB) hb); clear BK145 HB; revert n0_ n1_ n2_; intro HO149 BK145 HB; clear hb ho11; obtain ⟨hcz_0, hcz_1, hcz_2, hfz_0, hfz_1, hfz_2⟩ := Short.c3 BK145.out) | ((with_reducible refine cJ (b := .append) (xs := #[.tmp 19, .tmp 23]) rfl ?_); at_builtin; refine fV (Kd.int .u8) (w0 := w) w.heap.size rfl (.tmp 19) (.tmp 23) 22 5 (.int .u8 0) 1 rfl Try.underlying22 info5 rfl z4_ z2_ v148 y147 ((a0_1) % 256) [.int .u8 ((a0_1) % 256)] (fun _ => True) (fun _ => False) rfl rfl ?aP (fun _ hk => hk.elim) ?aF ?aO ?aB ?aS ?aL ?_; (case aP => exact rfl); (case aB => exact (Short.hB HB)); (case aF => exact (fun _ _ => trivial)); (case aO => exact (ZKR HO149)); (case aS => exact (aN (Short.hB HB))); (case aL => have := LMc5.out; omega); intro v151 w13 ho hb hg hat; rw [← Ny150.out] at ho; have n0_ := mk_ (gM (g := gb145) (o := .cells #[.int .i64 a0_0, .int .i64 a0_1, .string a0_2] 89 (0, 0)) (Short.bK BK145) hg (R_ne HO149.out BK145.out z4_)); have n1_ := mk_ (hb); have n2_ := mk_ (ho); clear BK145 HB HO149; revert n0_ n1_ n2_; intro BK145 HB HO152; clear ho hb hg hat))
  go_ret2
  exact ⟨_, by first | rfl | (simp [bD, bC] <;> rfl) | (simp [*, bD, bC] <;> rfl), by (with_reducible repeat (first | apply R_alloc | apply R_drewN | apply R_drew)); exact HO152.out, Short.hB HB⟩
 rw [if_neg c4] at H
 have c4b0 : (a0_0 == 2) = false := beq_eq_false_iff_ne.mpr c4
 have c4b1 : (a0_0 != 2) = true := bne_iff_ne.mpr c4
 by_cases c14 : a0_0 = 3
 ·
  rw [if_pos c14] at H
  have c14b0 : (a0_0 == 3) = true := beq_iff_eq.mpr c14
  have c14b1 : (a0_0 != 3) = false := bne_eq_false_iff_eq.mpr c14
  clear c14
  obtain ⟨⟨t153, t154⟩, A15, H⟩ := Option.bind_eq_some_iff.mp H
  try dsimp only at H
  replace A15 := mk_ A15
  simp only [Option.some.injEq, Prod.mk.injEq] at H
  obtain ⟨rfl, rfl⟩ := H
  go_enter Try.func105, Try.ntmps105
  go_wp2_with (first | ((with_reducible refine bP (N := 1) rfl ?_); refine bL ?hg (N := 1) ?hd (cs := #[.int .i64 a0_0, .int .i64 a0_1, .string a0_2]) (t := 89) ?hr ?_; (case hd => rfl); (case hg => rfl); (case hr => first | (go_simp; done) | (go_simp; rfl)); intro gb145 hg w16 hbox hb; have n0_ := mk_ (aI (Short.hB HB) hb); have n1_ := mk_ (hbox); have n2_ := mk_ ((by rw [hg]; exact (aN (Short.hB HB)) : w.heap.size ≤ gb145)); have n3_ := mk_ ((by rw [hg]; exact (aN (Short.hB HB)) : w.heap.size ≤ gb145)); clear HB; revert n0_ n1_ n2_ n3_; intro HB BK145 GW145 GE145; clear hb hbox hg; obtain ⟨hcz_0, hcz_1, hcz_2, hfz_0, hfz_1, hfz_2⟩ := Short.c3 BK145.out) | ((with_reducible refine aT (f := 108) rfl ?_); refine Short.gL (some 7) Try.func108 #[.agg #[.int .i64 a0_0, .int .i64 a0_1, .string a0_2]] (h := ?_); (with_reducible refine (bX.calls a0_0 a0_1 a0_2 t146 _ A2.out).mono ?_); rintro e w18 ⟨rfl, hb⟩; refine ⟨_, rfl, ?_⟩; have n0_ := mk_ (bB_ BK145 hb); have n1_ := mk_ (aI (Short.hB HB) hb); clear BK145 HB; revert n0_ n1_; intro BK145 HB; (try clear hb); obtain ⟨hcz_0, hcz_1, hcz_2, hfz_0, hfz_1, hfz_2⟩ := Short.c3 BK145.out) | ((with_reducible refine bP (N := 14) rfl ?_); refine R_lit (Kd.int .u8) _ 5 ?hg (N := 14) ?hd (xs := ([(a0_0) % 256] : List Int)) (inner := [.int .u8 ((a0_0) % 256)]) (ok := fun _ => True) (okp := fun _ => True) ?hr ?hp (fun _ hk => hk) trivial (Below.refl _ _) (Nat.le_refl _) (by simp) ?_; (case hd => rfl); (case hg => rfl); (case hr => first | (go_simp; done) | (go_simp; rfl)); (case hp => exact (Reps.one (show Kd.M (Kd.int .u8) _ _ _ ((a0_0) % 256) [.int .u8 ((a0_0) % 256)] from rfl) (Reps.none _ _))); intro v148 w20 ho21 hb hg_ hnew_; clear hg_ hnew_; (first | rw [← Ny147.out] at ho21 | (simp only [Int.reduceToNat] at ho21; rw [← Ny147.out] at ho21)); have n0_ := mk_ (dN ho21 (aN (Short.hB HB))); have n1_ := mk_ (bB_ BK145 hb); have n2_ := mk_ (aI (Short.hB HB) hb); clear BK145 HB; revert n0_ n1_ n2_; intro HO149 BK145 HB; clear hb ho21; obtain ⟨hcz_0, hcz_1, hcz_2, hfz_0, hfz_1, hfz_2⟩ := Short.c3 BK145.out; obtain ⟨Ao23, co23, eo23⟩ := dH HO149.out; subst eo23) | ((with_reducible refine aT (f := 109) rfl ?_); refine Short.gL (some 30) Try.func109 #[.slice Ao23 y147.length co23, .int .i64 a0_1] (h := ?_); (with_reducible refine (cT.calls k _ _ y147 a0_1 t153 t154 _ ?side1 ?side2 A15.out).mono ?_); (case side1 => exact cX_ (R_reads' HO149.out).2.2); (case side2 => exact (R_reads' HO149.out).2.1); rintro e w24 ⟨v155, rfl, ho0, hb⟩; refine ⟨_, rfl, ?_⟩; have n0_ := mk_ (R_elder' (ZKR HO149) (R_base ho0) hb); have n1_ := mk_ (dN (R_new' ho0 (R_lt (ZKR HO149))) (aN (Short.hB HB))); have n2_ := mk_ (bB_ BK145 hb); have n3_ := mk_ (aI (Short.hB HB) hb); clear HO149 BK145 HB; revert n0_ n1_ n2_ n3_; intro HO149 HO156 BK145 HB; (try clear hb ho0)))
  go_ret2
  exact ⟨_, by first | rfl | (simp [bD, bC] <;> rfl) | (simp [*, bD, bC] <;> rfl), by (with_reducible repeat (first | apply R_alloc | apply R_drewN | apply R_drew)); exact R_mono HO156.out (fun _ hk => trivial), Short.hB HB⟩
 rw [if_neg c14] at H
 have c14b0 : (a0_0 == 3) = false := beq_eq_false_iff_ne.mpr c14
 have c14b1 : (a0_0 != 3) = true := bne_iff_ne.mpr c14
 by_cases c25 : a0_0 = 4
 rotate_left
 ·
  rw [if_neg c25] at H
  have c25b0 : (a0_0 == 4) = false := beq_eq_false_iff_ne.mpr c25
  have c25b1 : (a0_0 != 4) = true := bne_iff_ne.mpr c25
  simp only [Option.some.injEq, Prod.mk.injEq] at H
  obtain ⟨rfl, rfl⟩ := H
  go_enter Try.func105, Try.ntmps105
  go_wp2_with (first | ((with_reducible refine bP (N := 1) rfl ?_); refine bL ?hg (N := 1) ?hd (cs := #[.int .i64 a0_0, .int .i64 a0_1, .string a0_2]) (t := 89) ?hr ?_; (case hd => rfl); (case hg => rfl); (case hr => first | (go_simp; done) | (go_simp; rfl)); intro gb145 hg w36 hbox hb; have n0_ := mk_ (aI (Short.hB HB) hb); have n1_ := mk_ (hbox); have n2_ := mk_ ((by rw [hg]; exact (aN (Short.hB HB)) : w.heap.size ≤ gb145)); have n3_ := mk_ ((by rw [hg]; exact (aN (Short.hB HB)) : w.heap.size ≤ gb145)); clear HB; revert n0_ n1_ n2_ n3_; intro HB BK145 GW145 GE145; clear hb hbox hg; obtain ⟨hcz_0, hcz_1, hcz_2, hfz_0, hfz_1, hfz_2⟩ := Short.c3 BK145.out) | ((with_reducible refine aT (f := 108) rfl ?_); refine Short.gL (some 7) Try.func108 #[.agg #[.int .i64 a0_0, .int .i64 a0_1, .string a0_2]] (h := ?_); (with_reducible refine (bX.calls a0_0 a0_1 a0_2 t146 _ A2.out).mono ?_); rintro e w38 ⟨rfl, hb⟩; refine ⟨_, rfl, ?_⟩; have n0_ := mk_ (bB_ BK145 hb); have n1_ := mk_ (aI (Short.hB HB) hb); clear BK145 HB; revert n0_ n1_; intro BK145 HB; (try clear hb); obtain ⟨hcz_0, hcz_1, hcz_2, hfz_0, hfz_1, hfz_2⟩ := Short.c3 BK145.out) | ((with_reducible refine bP (N := 14) rfl ?_); refine R_lit (Kd.int .u8) _ 5 ?hg (N := 14) ?hd (xs := ([(a0_0) % 256] : List Int)) (inner := [.int .u8 ((a0_0) % 256)]) (ok := fun _ => True) (okp := fun _ => True) ?hr ?hp (fun _ hk => hk) trivial (Below.refl _ _) (Nat.le_refl _) (by simp) ?_; (case hd => rfl); (case hg => rfl); (case hr => first | (go_simp; done) | (go_simp; rfl)); (case hp => exact (Reps.one (show Kd.M (Kd.int .u8) _ _ _ ((a0_0) % 256) [.int .u8 ((a0_0) % 256)] from rfl) (Reps.none _ _))); intro v148 w40 ho41 hb hg_ hnew_; clear hg_ hnew_; (first | rw [← Ny147.out] at ho41 | (simp only [Int.reduceToNat] at ho41; rw [← Ny147.out] at ho41)); have n0_ := mk_ (dN ho41 (aN (Short.hB HB))); have n1_ := mk_ (bB_ BK145 hb); have n2_ := mk_ (aI (Short.hB HB) hb); clear BK145 HB; revert n0_ n1_ n2_; intro HO149 BK145 HB; clear hb ho41; obtain ⟨hcz_0, hcz_1, hcz_2, hfz_0, hfz_1, hfz_2⟩ := Short.c3 BK145.out))
  go_ret2
  exact ⟨_, by first | rfl | (simp [bD, bC] <;> rfl) | (simp [*, bD, bC] <;> rfl), by (with_reducible repeat (first | apply R_alloc | apply R_drewN | apply R_drew)); exact HO149.out, Short.hB HB⟩
 rw [if_pos c25] at H
 have c25b0 : (a0_0 == 4) = true := beq_iff_eq.mpr c25
 have c25b1 : (a0_0 != 4) = false := bne_eq_false_iff_eq.mpr c25
 clear c25
 obtain ⟨⟨t157, t158⟩, A26, H⟩ := Option.bind_eq_some_iff.mp H
 try dsimp only at H
 replace A26 := mk_ A26
 simp only [Option.some.injEq, Prod.mk.injEq] at H
 obtain ⟨rfl, rfl⟩ := H
 go_enter Try.func105, Try.ntmps105
 go_wp2_with (first | ((with_reducible refine bP (N := 1) rfl ?_); refine bL ?hg (N := 1) ?hd (cs := #[.int .i64 a0_0, .int .i64 a0_1, .string a0_2]) (t := 89) ?hr ?_; (case hd => rfl); (case hg => rfl); (case hr => first | (go_simp; done) | (go_simp; rfl)); intro gb145 hg w27 hbox hb; have n0_ := mk_ (aI (Short.hB HB) hb); have n1_ := mk_ (hbox); have n2_ := mk_ ((by rw [hg]; exact (aN (Short.hB HB)) : w.heap.size ≤ gb145)); have n3_ := mk_ ((by rw [hg]; exact (aN (Short.hB HB)) : w.heap.size ≤ gb145)); clear HB; revert n0_ n1_ n2_ n3_; intro HB BK145 GW145 GE145; clear hb hbox hg; obtain ⟨hcz_0, hcz_1, hcz_2, hfz_0, hfz_1, hfz_2⟩ := Short.c3 BK145.out) | ((with_reducible refine aT (f := 108) rfl ?_); refine Short.gL (some 7) Try.func108 #[.agg #[.int .i64 a0_0, .int .i64 a0_1, .string a0_2]] (h := ?_); (with_reducible refine (bX.calls a0_0 a0_1 a0_2 t146 _ A2.out).mono ?_); rintro e w29 ⟨rfl, hb⟩; refine ⟨_, rfl, ?_⟩; have n0_ := mk_ (bB_ BK145 hb); have n1_ := mk_ (aI (Short.hB HB) hb); clear BK145 HB; revert n0_ n1_; intro BK145 HB; (try clear hb); obtain ⟨hcz_0, hcz_1, hcz_2, hfz_0, hfz_1, hfz_2⟩ := Short.c3 BK145.out) | ((with_reducible refine bP (N := 14) rfl ?_); refine R_lit (Kd.int .u8) _ 5 ?hg (N := 14) ?hd (xs := ([(a0_0) % 256] : List Int)) (inner := [.int .u8 ((a0_0) % 256)]) (ok := fun _ => True) (okp := fun _ => True) ?hr ?hp (fun _ hk => hk) trivial (Below.refl _ _) (Nat.le_refl _) (by simp) ?_; (case hd => rfl); (case hg => rfl); (case hr => first | (go_simp; done) | (go_simp; rfl)); (case hp => exact (Reps.one (show Kd.M (Kd.int .u8) _ _ _ ((a0_0) % 256) [.int .u8 ((a0_0) % 256)] from rfl) (Reps.none _ _))); intro v148 w31 ho32 hb hg_ hnew_; clear hg_ hnew_; (first | rw [← Ny147.out] at ho32 | (simp only [Int.reduceToNat] at ho32; rw [← Ny147.out] at ho32)); have n0_ := mk_ (dN ho32 (aN (Short.hB HB))); have n1_ := mk_ (bB_ BK145 hb); have n2_ := mk_ (aI (Short.hB HB) hb); clear BK145 HB; revert n0_ n1_ n2_; intro HO149 BK145 HB; clear hb ho32; obtain ⟨hcz_0, hcz_1, hcz_2, hfz_0, hfz_1, hfz_2⟩ := Short.c3 BK145.out; obtain ⟨Ao34, co34, eo34⟩ := dH HO149.out; subst eo34) | ((with_reducible refine aT (f := 104) rfl ?_); refine Short.gL (some 38) Try.func104 #[.slice Ao34 y147.length co34, .string a0_2] (h := ?_); (with_reducible refine (wire_PutText.calls _ _ y147 a0_2 t157 t158 _ ?side1 ?side2 A26.out).mono ?_); (case side1 => exact cX_ (R_reads' HO149.out).2.2); (case side2 => exact (R_reads' HO149.out).2.1); rintro e w35 ⟨v159, rfl, ho0, hb⟩; refine ⟨_, rfl, ?_⟩; have n0_ := mk_ (R_elder' (ZKR HO149) (R_base ho0) hb); have n1_ := mk_ (dN (R_new' ho0 (R_lt (ZKR HO149))) (aN (Short.hB HB))); have n2_ := mk_ (bB_ BK145 hb); have n3_ := mk_ (aI (Short.hB HB) hb); clear HO149 BK145 HB; revert n0_ n1_ n2_ n3_; intro HO149 HO160 BK145 HB; (try clear hb ho0)))
 go_ret2
 exact ⟨_, by first | rfl | (simp [bD, bC] <;> rfl) | (simp [*, bD, bC] <;> rfl), by (with_reducible repeat (first | apply R_alloc | apply R_drewN | apply R_drew)); exact R_mono HO160.out (fun _ hk => trivial), Short.hB HB⟩
def wire_Put.f (k : Nat) (l0 : List Int) (a1 : Int) (a2 : Int) : Option (List Int × Int) := if a2 < 1 then (some (([] : List Int), 1)) else (if a2 > 7 then (some (([] : List Int), 1)) else (if a1 < 0 then (some (([] : List Int), 1)) else (if 0 ≤ (wrap64 (8 * a2)) then (if a1 ≥ (shl .i64 1 (wrap64 (8 * a2))) then (some (([] : List Int), 1)) else ((cW.f k l0 a1 a2).bind fun t161 => (some (t161, 0)))) else (none))))
theorem wire_Put.calls (k : Nat) (A0 : Option Addr) (c0 : Nat) (l0 : List Int) (a1 : Int) (a2 : Int) (r1 : List Int) (r2 : Int) (w : World) (hr0 : Kd.C (Kd.int .u8) w A0 l0.length l0) (hc0 : l0.length ≤ c0) (h : wire_Put.f k l0 a1 a2 = some (r1, r2)) :
  Calls Try.prog 85 #[.slice A0 l0.length c0, .int .i64 a1, .int .i64 a2] w fun e w' => ∃ v0_ : Value, e = .returned (.tuple #[v0_, .int .i64 r2]) ∧ Kd.R (Kd.int .u8) 5 w' w.heap.size (fun _ => True) v0_ r1 ∧ Below w.heap.size w w' := by
 have HR0 := mk_ hr0
 have HC0 := mk_ hc0
 clear hr0 hc0
 have HB := mk_ (Below.refl w.heap.size w)
 have H : (if a2 < 1 then (some (([] : List Int), 1)) else (if a2 > 7 then (some (([] : List Int), 1)) else (if a1 < 0 then (some (([] : List Int), 1)) else (if 0 ≤ (wrap64 (8 * a2)) then (if a1 ≥ (shl .i64 1 (wrap64 (8 * a2))) then (some (([] : List Int), 1)) else ((cW.f k l0 a1 a2).bind fun t161 => (some (t161, 0)))) else (none))))) = some (r1, r2) := h
 clear h
 by_cases c4 : a2 < 1
 rotate_left
 rw [if_neg c4] at H
 have c4b0 : decide (a2 < 1) = false := decide_eq_false c4
 clear c4
 by_cases c5 : a2 > 7
 rotate_left
 rw [if_neg c5] at H
 have c5b0 : decide (7 < a2) = false := decide_eq_false c5
 clear c5
 by_cases c6 : a1 < 0
 rotate_left
 rw [if_neg c6] at H
 have c6b0 : decide (a1 < 0) = false := decide_eq_false c6
 clear c6
 obtain ⟨ji7, hji7⟩ : ∃ j_ : Int, (wrap64 (8 * a2)) = j_ := ⟨_, rfl⟩
 replace H : (if 0 ≤ (ji7) then (if a1 ≥ (shl .i64 1 (ji7)) then (some (([] : List Int), 1)) else ((cW.f k l0 a1 a2).bind fun t161 => (some (t161, 0)))) else (none)) = some (r1, r2) := by first | (rw [hji7] at H; exact H) | (simp only [hji7] at H ⊢; exact H)
 have hji7w : (IntKind.i64.wrap (8 * a2)) = ji7 := (i64_w _).trans hji7
 by_cases c8 : 0 ≤ (ji7)
 rotate_left
 rw [if_neg c8] at H
 exact absurd H (by simp)
 rotate_right
 rw [if_pos c8] at H
 have c8b0 := eq_true c8
 have c8b1 : decide (0 ≤ (ji7)) = true := decide_eq_true c8
 clear c8
 obtain ⟨ji9, hji9⟩ : ∃ j_ : Int, (shl .i64 1 (ji7)) = j_ := ⟨_, rfl⟩
 replace H : (if a1 ≥ (ji9) then (some (([] : List Int), 1)) else ((cW.f k l0 a1 a2).bind fun t161 => (some (t161, 0)))) = some (r1, r2) := by first | (rw [hji9] at H; exact H) | (simp only [hji9] at H ⊢; exact H)
 have hji9_ : (IntKind.i64.wrap (1 * 2 ^ min (ji7).toNat 64)) = ji9 := hji9
 have hji9z : (ji7) ≤ 64 → (IntKind.i64.wrap (1 * 2 ^ (ji7).toNat)) = ji9 := shl_small hji9
 have hji9u : (IntKind.i64.wrap (2 ^ min (ji7).toNat 64)) = ji9 := by have h_ := hji9_; rw [Int.one_mul] at h_; exact h_
 have hji9v : (ji7) ≤ 64 → (IntKind.i64.wrap (2 ^ (ji7).toNat)) = ji9 := fun hle_ => by have h_ := hji9z hle_; rw [Int.one_mul] at h_; exact h_
 have hji9y : (wrap64 (1 * 2 ^ min (ji7).toNat 64)) = ji9 := (i64_w _).symm.trans hji9_
 have hji9x : (ji7) ≤ 64 → (wrap64 (1 * 2 ^ (ji7).toNat)) = ji9 := fun h_ => (i64_w _).symm.trans (hji9z h_)
 by_cases c10 : a1 ≥ (ji9)
 rotate_left
 rw [if_neg c10] at H
 have c10b0 : decide ((ji9) ≤ a1) = false := decide_eq_false c10
 clear c10
 obtain ⟨t161, A11, H⟩ := Option.bind_eq_some_iff.mp H
 replace A11 := mk_ A11
 simp only [Option.some.injEq, Prod.mk.injEq] at H
 obtain ⟨rfl, rfl⟩ := H
 rotate_right
 rw [if_pos c10] at H
 have c10b0 : decide ((ji9) ≤ a1) = true := decide_eq_true c10
 clear c10
 simp only [Option.some.injEq, Prod.mk.injEq] at H
 obtain ⟨rfl, rfl⟩ := H
 rotate_right
 rw [if_pos c6] at H
 have c6b0 : decide (a1 < 0) = true := decide_eq_true c6
 clear c6
 simp only [Option.some.injEq, Prod.mk.injEq] at H
 obtain ⟨rfl, rfl⟩ := H
 rotate_right
 rw [if_pos c5] at H
 have c5b0 : decide (7 < a2) = true := decide_eq_true c5
 clear c5
 simp only [Option.some.injEq, Prod.mk.injEq] at H
 obtain ⟨rfl, rfl⟩ := H
 rotate_right
 rw [if_pos c4] at H
 have c4b0 : decide (a2 < 1) = true := decide_eq_true c4
 clear c4
 simp only [Option.some.injEq, Prod.mk.injEq] at H
 obtain ⟨rfl, rfl⟩ := H
 all_goals
  go_enter Try.func85, Try.ntmps85
  go_wp2_with (((with_reducible refine aT (f := 103) rfl ?_); refine Short.gL (some 28) Try.func103 #[.slice A0 l0.length c0, .int .i64 a1, .int .i64 a2] (h := ?_); (with_reducible refine (cW.calls k _ _ l0 a1 a2 t161 _ ?side1 ?side2 A11.out).mono ?_); (case side1 => repeat (first | exact HR0.out | (with_reducible refine C_alloc ?_ _) | (with_reducible refine C_drewN ?_ _) | (with_reducible refine C_drew ?_))); (case side2 => exact HC0.out); rintro e w_28 ⟨v162, rfl, ho0, hb⟩; refine ⟨_, rfl, ?_⟩; have n0_ := mk_ (dN ho0 (aN (Short.hB HB))); have n1_ := mk_ (aI (Short.hB HB) hb); clear HB; revert n0_ n1_; intro HO163 HB; (try clear hb ho0)))
  go_ret2
  first | exact ⟨_, by first | rfl | (simp [bD, bC] <;> rfl) | (simp only [← hji7, ← hji9]; first | rfl | (simp [bD, bC] <;> rfl)) | (simp [*, bD, bC] <;> rfl), by (with_reducible repeat (first | apply R_alloc | apply R_drewN | apply R_drew)); exact HO163.out, Short.hB HB⟩ | exact ⟨_, by first | rfl | (simp [bD, bC] <;> rfl) | (simp only [← hji7, ← hji9]; first | rfl | (simp [bD, bC] <;> rfl)) | (simp [*, bD, bC] <;> rfl), by first | exact R_nil _ _ _ _ _ | exact N_nil _ _ _ _ _ | exact V_nil _ _ _ _ _ | exact Q_nil _ _ _ _ _ | exact S_nil _ _ _ _ _, Short.hB HB⟩ | exact ⟨_, by first | rfl | (simp [bD, bC] <;> rfl) | (simp [*, bD, bC] <;> rfl), by first | exact R_nil _ _ _ _ _ | exact N_nil _ _ _ _ _ | exact V_nil _ _ _ _ _ | exact Q_nil _ _ _ _ _ | exact S_nil _ _ _ _ _, Short.hB HB⟩
def fY.f (a0_0 : Int) (a0_1 : Int) (a0_2 : ByteArray) : Option (Bool) := (bX.f a0_0 a0_1 a0_2).bind fun t184 => (some (t184 != 0))
theorem fY.calls (a0_0 : Int) (a0_1 : Int) (a0_2 : ByteArray) (r : Bool) (w : World) (h : fY.f a0_0 a0_1 a0_2 = some r) :
  Calls Try.prog 111 #[.agg #[.int .i64 a0_0, .int .i64 a0_1, .string a0_2]] w fun e w' => e = .returned (.bool r) ∧ Below w.heap.size w w' := by
 have hu89 := Try.underlying89
 have HB := mk_ (Below.refl w.heap.size w)
 have H : ((bX.f a0_0 a0_1 a0_2).bind fun t184 => (some (t184 != 0))) = some r := h
 clear h
 obtain ⟨t184, A2, H⟩ := Option.bind_eq_some_iff.mp H
 replace A2 := mk_ A2
 obtain rfl := Option.some.inj H
 go_enter Try.func111, Try.ntmps111
 go_wp2_with (first | ((with_reducible refine bP (N := 1) rfl ?_); refine bL ?hg (N := 1) ?hd (cs := #[.int .i64 a0_0, .int .i64 a0_1, .string a0_2]) (t := 89) ?hr ?_; (case hd => rfl); (case hg => rfl); (case hr => first | (go_simp; done) | (go_simp; rfl)); intro gb183 hg w3 hbox hb; have n0_ := mk_ (aI (Short.hB HB) hb); have n1_ := mk_ (hbox); have n2_ := mk_ ((by rw [hg]; exact (aN (Short.hB HB)) : w.heap.size ≤ gb183)); have n3_ := mk_ ((by rw [hg]; exact (aN (Short.hB HB)) : w.heap.size ≤ gb183)); clear HB; revert n0_ n1_ n2_ n3_; intro HB BK183 GW183 GE183; clear hb hbox hg; obtain ⟨hcz_0, hcz_1, hcz_2, hfz_0, hfz_1, hfz_2⟩ := Short.c3 BK183.out) | ((with_reducible refine aT (f := 108) rfl ?_); refine Short.gL (some 4) Try.func108 #[.agg #[.int .i64 a0_0, .int .i64 a0_1, .string a0_2]] (h := ?_); (with_reducible refine (bX.calls a0_0 a0_1 a0_2 t184 _ A2.out).mono ?_); rintro e w5 ⟨rfl, hb⟩; refine ⟨_, rfl, ?_⟩; have n0_ := mk_ (bB_ BK183 hb); have n1_ := mk_ (aI (Short.hB HB) hb); clear BK183 HB; revert n0_ n1_; intro BK183 HB; (try clear hb)))
 go_ret
 exact ⟨q0, Short.hB HB⟩
end Go.Proofs.Ytcbfliajgopdaaa.PAll
end
section
namespace Go.Proofs.Ytcbfliajgopdaaa.PAll
open Go.RowKit PrintWords PrintLast PrintMore ZipT PrintWords.Kd PrintMore.Kd
attribute [local go_sem] eC eA eN eR dR dP eD eB   -- for this text's walks alone
set_option linter.unusedVariables false
set_option linter.unusedSimpArgs false
def bH.l0 : Nat → List Int → List Int → Int → Option (Bool)
 | 0, _, _, _ => none
 | k + 1, x0, x1, x5 => if x5 < (x0.length : Int) then (if 0 ≤ x5 then (if x5 < (x1.length : Int) then (if (rd x0 x5) = (rd x1 x5) then (bH.l0 k x0 x1 (wrap64 (x5 + 1))) else (some false)) else (none)) else (none)) else (some true)
def bH.f (k : Nat) (l0 : List Int) (l1 : List Int) : Option (Bool) := if (l0.length : Int) = (l1.length : Int) then (bH.l0 k l0 l1 0) else (some false)
theorem bH.calls (k : Nat) (A0 : Option Addr) (c0 : Nat) (l0 : List Int) (A1 : Option Addr) (c1 : Nat) (l1 : List Int) (r : Bool) (w : World) (hr0 : Kd.C (Kd.int .i64) w A0 l0.length l0) (hc0 : l0.length ≤ c0) (hr1 : Kd.C (Kd.int .i64) w A1 l1.length l1) (hc1 : l1.length ≤ c1) (h : bH.f k l0 l1 = some r) :
  Calls Try.prog 41 #[.slice A0 l0.length c0, .slice A1 l1.length c1] w fun e w' => e = .returned (.bool r) ∧ Drawn0 w w' := by
 have HR0 := mk_ hr0
 have HC0 := mk_ hc0
 clear hr0 hc0
 have HR1 := mk_ hr1
 have HC1 := mk_ hc1
 clear hr1 hc1
 have H : (if (l0.length : Int) = (l1.length : Int) then (bH.l0 k l0 l1 0) else (some false)) = some r := h
 clear h
 by_cases c3 : (l0.length : Int) = (l1.length : Int)
 rotate_left
 ·
  rw [if_neg c3] at H
  have c3b0 : ((l0.length : Int) == (l1.length : Int)) = false := beq_eq_false_iff_ne.mpr c3
  have c3b1 : ((l0.length : Int) != (l1.length : Int)) = true := bne_iff_ne.mpr c3
  have c3b2 : (l0.length == l1.length) = false := by first | simpa using c3 | (simp at c3 ⊢; omega)
  obtain rfl := Option.some.inj H
  go_enter Try.func41, Try.ntmps41
  go_wp2
  repeat (go_quiet (fail); try go_wp2)
  go_ret
  exact ⟨z3_, by repeat (first | exact Drawn0.refl _ | apply Drawn0.step)⟩
 rw [if_pos c3] at H
 have c3b0 : ((l0.length : Int) == (l1.length : Int)) = true := beq_iff_eq.mpr c3
 have c3b1 : ((l0.length : Int) != (l1.length : Int)) = false := bne_eq_false_iff_eq.mpr c3
 have c3b2 : (l0.length == l1.length) = true := by first | simpa using c3 | (simp at c3 ⊢; omega)
 clear c3
 have H' := mk_ H
 clear H
 go_enter Try.func41, Try.ntmps41
 go_wp2
 repeat (go_quiet (fail); try go_wp2)
 go_loopg [5] k (fun kq v5 w' => ∃ (x5_1 : Int), v5 = .int .i64 x5_1 ∧ Aside0 (bH.l0 kq l0 l1 x5_1 = some r) ∧ Aside0 (kq ≤ k) ∧ Drawn0 w w')
 case atStart => exact ⟨(0), z3_, H', ⟨Nat.le_refl _⟩, by repeat (first | exact Drawn0.refl _ | apply Drawn0.step)⟩
 case round =>
  clear H'
  try clear c1
  try clear c3
  try clear c3b0
  try clear c3b1
  try clear c3b2
  obtain ⟨x5_1, rfl, HA, HK1, ⟨m1, rfl⟩⟩ := hrel
  cases gk with
  | zero => exact absurd HA.out (by simp [bH.l0])
  | succ k1 =>
   have H := HA.out
   clear HA
   simp only [bH.l0] at H
   by_cases c4 : x5_1 < (l0.length : Int)
   rotate_left
   ·
    rw [if_neg c4] at H
    have c4b0 : decide (x5_1 < (l0.length : Int)) = false := decide_eq_false c4
    clear c4
    obtain rfl := Option.some.inj H
    go_wp2
    repeat (go_quiet (fail); try go_wp2)
    go_ret
    exact ⟨z3_, by repeat (first | exact Drawn0.refl _ | apply Drawn0.step)⟩
   rw [if_pos c4] at H
   have c4b0 : decide (x5_1 < (l0.length : Int)) = true := decide_eq_true c4
   clear c4
   by_cases c5 : 0 ≤ x5_1
   rotate_left
   ·
    rw [if_neg c5] at H
    exact absurd H (by simp)
   rw [if_pos c5] at H
   have c5b0 : decide (0 ≤ x5_1) = true := decide_eq_true c5
   clear c5
   by_cases c6 : x5_1 < (l1.length : Int)
   rotate_left
   ·
    rw [if_neg c6] at H
    exact absurd H (by simp)
   rw [if_pos c6] at H
   have c6b0 : decide (x5_1 < (l1.length : Int)) = true := decide_eq_true c6
   clear c6
   by_cases c7 : (rd l0 x5_1) = (rd l1 x5_1)
   rotate_left
   ·
    rw [if_neg c7] at H
    have c7b0 : ((rd l0 x5_1) == (rd l1 x5_1)) = false := beq_eq_false_iff_ne.mpr c7
    have c7b1 : ((rd l0 x5_1) != (rd l1 x5_1)) = true := bne_iff_ne.mpr c7
    obtain rfl := Option.some.inj H
    have p262 : 0 ≤ (x5_1 : Int) := of_decide_eq_true z0_
    have q262 : x5_1 < (l0.length : Int) := of_decide_eq_true z0_
    obtain ⟨ad262, e262, hx262_0⟩ := Kd.at_int HR0.out x5_1 p262 q262
    cases e262
    replace p262 := eq_true p262
    replace q262 := eq_true q262
    have p263 : 0 ≤ (x5_1 : Int) := of_decide_eq_true z0_
    have q263 : x5_1 < (l1.length : Int) := of_decide_eq_true z0_
    obtain ⟨ad263, e263, hx263_0⟩ := Kd.at_int HR1.out x5_1 p263 q263
    cases e263
    replace p263 := eq_true p263
    replace q263 := eq_true q263
    go_wp2
    repeat (go_quiet (fail); try go_wp2)
    go_ret
    exact ⟨z3_, by repeat (first | exact Drawn0.refl _ | apply Drawn0.step)⟩
   rw [if_pos c7] at H
   have c7b0 : ((rd l0 x5_1) == (rd l1 x5_1)) = true := beq_iff_eq.mpr c7
   have c7b1 : ((rd l0 x5_1) != (rd l1 x5_1)) = false := bne_eq_false_iff_eq.mpr c7
   clear c7
   have H' := mk_ H
   clear H
   have p262 : 0 ≤ (x5_1 : Int) := of_decide_eq_true z0_
   have q262 : x5_1 < (l0.length : Int) := of_decide_eq_true z0_
   obtain ⟨ad262, e262, hx262_0⟩ := Kd.at_int HR0.out x5_1 p262 q262
   cases e262
   replace p262 := eq_true p262
   replace q262 := eq_true q262
   have p263 : 0 ≤ (x5_1 : Int) := of_decide_eq_true z0_
   have q263 : x5_1 < (l1.length : Int) := of_decide_eq_true z0_
   obtain ⟨ad263, e263, hx263_0⟩ := Kd.at_int HR1.out x5_1 p263 q263
   cases e263
   replace p263 := eq_true p263
   replace q263 := eq_true q263
   go_wp2
   repeat (go_quiet (fail); try go_wp2)
   go_roundg k1
   case measure => have := HK1.out; omega
   case rel => exact ⟨(wrap64 (x5_1 + 1)), z3_, H', ⟨by have := HK1.out; omega⟩, by repeat (first | exact Drawn0.refl _ | apply Drawn0.step)⟩
def cE.f (a0_0 : Int) (a0_1 : Int) (a0_2 : Int) (a1_0 : Int) (a1_1 : Int) (a1_2 : Int) : Option (Bool) := if a0_0 = a1_0 then (if a0_1 = a1_1 then (some (a0_2 == a1_2)) else (some false)) else (some false)
theorem cE.calls (a0_0 : Int) (a0_1 : Int) (a0_2 : Int) (a1_0 : Int) (a1_1 : Int) (a1_2 : Int) (r : Bool) (w : World) (h : cE.f a0_0 a0_1 a0_2 a1_0 a1_1 a1_2 = some r) :
  Calls Try.prog 42 #[.agg #[.int .i64 a0_0, .int .i64 a0_1, .int .i64 a0_2], .agg #[.int .i64 a1_0, .int .i64 a1_1, .int .i64 a1_2]] w fun e w' => e = .returned (.bool r) ∧ Below w.heap.size w w' := by
 have hu26 := Try.underlying26
 have HB := mk_ (Below.refl w.heap.size w)
 have H : (if a0_0 = a1_0 then (if a0_1 = a1_1 then (some (a0_2 == a1_2)) else (some false)) else (some false)) = some r := h
 clear h
 by_cases c3 : a0_0 = a1_0
 rotate_left
 rw [if_neg c3] at H
 have c3b0 : (a0_0 == a1_0) = false := beq_eq_false_iff_ne.mpr c3
 have c3b1 : (a0_0 != a1_0) = true := bne_iff_ne.mpr c3
 obtain rfl := Option.some.inj H
 rotate_right
 rw [if_pos c3] at H
 have c3b0 : (a0_0 == a1_0) = true := beq_iff_eq.mpr c3
 have c3b1 : (a0_0 != a1_0) = false := bne_eq_false_iff_eq.mpr c3
 clear c3
 by_cases c4 : a0_1 = a1_1
 rotate_left
 rw [if_neg c4] at H
 have c4b0 : (a0_1 == a1_1) = false := beq_eq_false_iff_ne.mpr c4
 have c4b1 : (a0_1 != a1_1) = true := bne_iff_ne.mpr c4
 obtain rfl := Option.some.inj H
 rotate_right
 rw [if_pos c4] at H
 have c4b0 : (a0_1 == a1_1) = true := beq_iff_eq.mpr c4
 have c4b1 : (a0_1 != a1_1) = false := bne_eq_false_iff_eq.mpr c4
 clear c4
 obtain rfl := Option.some.inj H
 all_goals
  go_enter Try.func42, Try.ntmps42
  go_wp2_with (first | ((with_reducible refine bP (N := 2) rfl ?_); refine bL ?hg (N := 2) ?hd (cs := #[.int .i64 a0_0, .int .i64 a0_1, .int .i64 a0_2]) (t := 26) ?hr ?_; (case hd => rfl); (case hg => rfl); (case hr => first | (go_simp; done) | (go_simp; rfl)); intro gb264 hg w_2 hbox hb; have n0_ := mk_ (aI (Short.hB HB) hb); have n1_ := mk_ (hbox); have n2_ := mk_ ((by rw [hg]; exact (aN (Short.hB HB)) : w.heap.size ≤ gb264)); have n3_ := mk_ ((by rw [hg]; exact (aN (Short.hB HB)) : w.heap.size ≤ gb264)); clear HB; revert n0_ n1_ n2_ n3_; intro HB BK264 GW264 GE264; clear hb hbox hg) | ((with_reducible refine bP (N := 3) rfl ?_); refine bL ?hg (N := 3) ?hd (cs := #[.int .i64 a1_0, .int .i64 a1_1, .int .i64 a1_2]) (t := 26) ?hr ?_; (case hd => rfl); (case hg => rfl); (case hr => first | (go_simp; done) | (go_simp; rfl)); intro gb265 hg w_3 hbox hb; have n0_ := mk_ (bB_ BK264 hb); have n1_ := mk_ (aI (Short.hB HB) hb); have n2_ := mk_ (hbox); have n3_ := mk_ ((by rw [hg]; exact (aN (Short.hB HB)) : w.heap.size ≤ gb265)); have n4_ := mk_ ((by rw [hg]; exact (aN (Short.hB HB)) : w.heap.size ≤ gb265)); have n5_ := mk_ ((by rw [hg]; exact Nat.ne_of_lt (eG (Short.bK BK264)) : gb264 ≠ gb265)); have n6_ := mk_ ((by rw [hg]; exact Nat.ne_of_gt (eG (Short.bK BK264)) : gb265 ≠ gb264)); clear BK264 HB; revert n0_ n1_ n2_ n3_ n4_ n5_ n6_; intro BK264 HB BK265 GW265 GE265 NB264_265 NB265_264; clear hb hbox hg; have hnb_3 := NB264_265.out; have hnc_3 := NB265_264.out; obtain ⟨hcz_0, hcz_1, hcz_2, hfz_0, hfz_1, hfz_2⟩ := Short.c3 BK264.out; obtain ⟨hcz_0, hcz_1, hcz_2, hfz_0, hfz_1, hfz_2⟩ := Short.c3 BK265.out))
  go_ret
  exact ⟨q0, Short.hB HB⟩
def cY.f (a0_0 : Int) (a0_1 : Int) (a1_0 : Int) (a1_1 : Int) : Option (Bool) := if a0_0 = a1_0 then (some (a0_1 == a1_1)) else (some false)
theorem cY.calls (a0_0 : Int) (a0_1 : Int) (a1_0 : Int) (a1_1 : Int) (r : Bool) (w : World) (h : cY.f a0_0 a0_1 a1_0 a1_1 = some r) :
  Calls Try.prog 83 #[.agg #[.int .i64 a0_0, .int .i64 a0_1], .agg #[.int .i64 a1_0, .int .i64 a1_1]] w fun e w' => e = .returned (.bool r) ∧ Below w.heap.size w w' := by
 have hu50 := Try.underlying50
 have HB := mk_ (Below.refl w.heap.size w)
 have H : (if a0_0 = a1_0 then (some (a0_1 == a1_1)) else (some false)) = some r := h
 clear h
 by_cases c3 : a0_0 = a1_0
 rotate_left
 rw [if_neg c3] at H
 have c3b0 : (a0_0 == a1_0) = false := beq_eq_false_iff_ne.mpr c3
 have c3b1 : (a0_0 != a1_0) = true := bne_iff_ne.mpr c3
 obtain rfl := Option.some.inj H
 rotate_right
 rw [if_pos c3] at H
 have c3b0 : (a0_0 == a1_0) = true := beq_iff_eq.mpr c3
 have c3b1 : (a0_0 != a1_0) = false := bne_eq_false_iff_eq.mpr c3
 clear c3
 obtain rfl := Option.some.inj H
 all_goals
  go_enter Try.func83, Try.ntmps83
  go_wp2_with (first | ((with_reducible refine bP (N := 2) rfl ?_); refine bL ?hg (N := 2) ?hd (cs := #[.int .i64 a0_0, .int .i64 a0_1]) (t := 50) ?hr ?_; (case hd => rfl); (case hg => rfl); (case hr => first | (go_simp; done) | (go_simp; rfl)); intro gb266 hg w_2 hbox hb; have n0_ := mk_ (aI (Short.hB HB) hb); have n1_ := mk_ (hbox); have n2_ := mk_ ((by rw [hg]; exact (aN (Short.hB HB)) : w.heap.size ≤ gb266)); have n3_ := mk_ ((by rw [hg]; exact (aN (Short.hB HB)) : w.heap.size ≤ gb266)); clear HB; revert n0_ n1_ n2_ n3_; intro HB BK266 GW266 GE266; clear hb hbox hg) | ((with_reducible refine bP (N := 3) rfl ?_); refine bL ?hg (N := 3) ?hd (cs := #[.int .i64 a1_0, .int .i64 a1_1]) (t := 50) ?hr ?_; (case hd => rfl); (case hg => rfl); (case hr => first | (go_simp; done) | (go_simp; rfl)); intro gb267 hg w_3 hbox hb; have n0_ := mk_ (bB_ BK266 hb); have n1_ := mk_ (aI (Short.hB HB) hb); have n2_ := mk_ (hbox); have n3_ := mk_ ((by rw [hg]; exact (aN (Short.hB HB)) : w.heap.size ≤ gb267)); have n4_ := mk_ ((by rw [hg]; exact (aN (Short.hB HB)) : w.heap.size ≤ gb267)); have n5_ := mk_ ((by rw [hg]; exact Nat.ne_of_lt (eG (Short.bK BK266)) : gb266 ≠ gb267)); have n6_ := mk_ ((by rw [hg]; exact Nat.ne_of_gt (eG (Short.bK BK266)) : gb267 ≠ gb266)); clear BK266 HB; revert n0_ n1_ n2_ n3_ n4_ n5_ n6_; intro BK266 HB BK267 GW267 GE267 NB266_267 NB267_266; clear hb hbox hg; have hnb_3 := NB266_267.out; have hnc_3 := NB267_266.out; obtain ⟨hcz_0, hcz_1, hfz_0, hfz_1⟩ := Short.c2 BK266.out; obtain ⟨hcz_0, hcz_1, hfz_0, hfz_1⟩ := Short.c2 BK267.out))
  go_ret
  exact ⟨q0, Short.hB HB⟩
def bI.l0 : Nat → List (S50) → List (S50) → Int → Option (Bool)
 | 0, _, _, _ => none
 | k + 1, x0, x1, x5 => if x5 < (x0.length : Int) then (if 0 ≤ x5 then (if x5 < (x1.length : Int) then ((cY.f ((cL x0 x5).f0) ((cL x0 x5).f1) ((cL x1 x5).f0) ((cL x1 x5).f1)).bind fun t270 => (if t270 = true then (bI.l0 k x0 x1 (wrap64 (x5 + 1))) else (some false))) else (none)) else (none)) else (some true)
def bI.f (k : Nat) (l0 : List (S50)) (l1 : List (S50)) : Option (Bool) := if (l0.length : Int) = (l1.length : Int) then (bI.l0 k l0 l1 0) else (some false)
def bI.T6 : Bool × List (List Nat × List Nat) := (true, [([], []), ([], []), ([0, 1], [0, 1]), ([2], [2]), ([], []), ([], []), ([4, 5], [4, 5]), ([6], [6]), ([3, 7], [3, 7]), ([8], [8])])
def bI.B6 : List Nat := [0, 0, 3, 7, 0, 0, 48, 112, 255, 511]
theorem bI.tab6 : rtab .any (opsOf Try.f81 6) = bI.T6 := by kernel_rfl
theorem bI.bits6 : waitsOk bI.T6.2 bI.B6 = true := by kernel_rfl
theorem bI.calls (k : Nat) (A0 : Option Addr) (c0 : Nat) (l0 : List (S50)) (A1 : Option Addr) (c1 : Nat) (l1 : List (S50)) (r : Bool) (w : World) (hr0 : Kd.C k50 w A0 l0.length l0) (hc0 : l0.length ≤ c0) (hr1 : Kd.C k50 w A1 l1.length l1) (hc1 : l1.length ≤ c1) (h : bI.f k l0 l1 = some r) :
  Calls Try.prog 81 #[.slice A0 l0.length c0, .slice A1 l1.length c1] w fun e w' => e = .returned (.bool r) ∧ Below w.heap.size w w' := by
 have hu50 := Try.underlying50
 have HR0 := mk_ hr0
 have HC0 := mk_ hc0
 clear hr0 hc0
 have HR1 := mk_ hr1
 have HC1 := mk_ hc1
 clear hr1 hc1
 have HB := mk_ (Below.refl w.heap.size w)
 have H : (if (l0.length : Int) = (l1.length : Int) then (bI.l0 k l0 l1 0) else (some false)) = some r := h
 clear h
 by_cases c3 : (l0.length : Int) = (l1.length : Int)
 rotate_left
 ·
  rw [if_neg c3] at H
  have c3b0 : ((l0.length : Int) == (l1.length : Int)) = false := beq_eq_false_iff_ne.mpr c3
  have c3b1 : ((l0.length : Int) != (l1.length : Int)) = true := bne_iff_ne.mpr c3
  have c3b2 : (l0.length == l1.length) = false := by first | simpa using c3 | (simp at c3 ⊢; omega)
  obtain rfl := Option.some.inj H
  go_enter Try.func81, Try.ntmps81
  go_wp2
  go_ret
  exact ⟨q0, Short.hB HB⟩
 rw [if_pos c3] at H
 have c3b0 : ((l0.length : Int) == (l1.length : Int)) = true := beq_iff_eq.mpr c3
 have c3b1 : ((l0.length : Int) != (l1.length : Int)) = false := bne_eq_false_iff_eq.mpr c3
 have c3b2 : (l0.length == l1.length) = true := by first | simpa using c3 | (simp at c3 ⊢; omega)
 clear c3
 have H' := mk_ H
 clear H
 go_enter Try.func81, Try.ntmps81
 go_wp2
 go_loopg [5] k (fun kq v5 w' => ∃ (x5_1 : Int), v5 = .int .i64 x5_1 ∧ Aside0 (bI.l0 kq l0 l1 x5_1 = some r) ∧ Aside0 (kq ≤ k) ∧ Aside0 (Below w.heap.size w w'))
 case atStart => exact ⟨(0), z3_, H', ⟨Nat.le_refl _⟩, ⟨Short.hB HB⟩⟩
 case round =>
  clear H'
  try clear c1
  try clear c3
  try clear c3b0
  try clear c3b1
  try clear c3b2
  obtain ⟨x5_1, rfl, HA, HK1, HB⟩ := hrel
  cases gk with
  | zero => exact absurd HA.out (by simp [bI.l0])
  | succ k1 =>
   have H := HA.out
   clear HA
   simp only [bI.l0] at H
   by_cases c4 : x5_1 < (l0.length : Int)
   rotate_left
   ·
    rw [if_neg c4] at H
    have c4b0 : decide (x5_1 < (l0.length : Int)) = false := decide_eq_false c4
    clear c4
    obtain rfl := Option.some.inj H
    go_wp2
    go_ret
    exact ⟨q0, Short.hB HB⟩
   rw [if_pos c4] at H
   have c4b0 : decide (x5_1 < (l0.length : Int)) = true := decide_eq_true c4
   clear c4
   by_cases c5 : 0 ≤ x5_1
   rotate_left
   ·
    rw [if_neg c5] at H
    exact absurd H (by simp)
   rw [if_pos c5] at H
   have c5b0 : decide (0 ≤ x5_1) = true := decide_eq_true c5
   clear c5
   by_cases c6 : x5_1 < (l1.length : Int)
   rotate_left
   ·
    rw [if_neg c6] at H
    exact absurd H (by simp)
   rw [if_pos c6] at H
   have c6b0 : decide (x5_1 < (l1.length : Int)) = true := decide_eq_true c6
   clear c6
   obtain ⟨t270, A7, H⟩ := Option.bind_eq_some_iff.mp H
   replace A7 := mk_ A7
   by_cases c8 : t270 = true
   rotate_left
   ·
    replace c8 := Bool.eq_false_iff.mpr c8
    subst c8
    rw [if_neg (show ¬ (false = true) by decide)] at H
    obtain rfl := Option.some.inj H
    try go_wp2
    have n0_ := mk_ (dQ HB.out)
    clear HB
    revert n0_
    intro HB
    have p268 : 0 ≤ (x5_1 : Int) := of_decide_eq_true z0_
    have q268 : x5_1 < (l0.length : Int) := of_decide_eq_true z0_
    obtain ⟨ad268, e268, hx268_0, hx268_1⟩ := gQ HR0.out x5_1 p268 q268
    have hw268_1 := hx268_1
    have hw268_0 := hx268_0
    cases e268
    replace hx268_0 := up_ HB hx268_0
    replace hx268_1 := up_ HB hx268_1
    replace p268 := eq_true p268
    replace q268 := eq_true q268
    have p269 : 0 ≤ (x5_1 : Int) := of_decide_eq_true z0_
    have q269 : x5_1 < (l1.length : Int) := of_decide_eq_true z0_
    obtain ⟨ad269, e269, hx269_0, hx269_1⟩ := gQ HR1.out x5_1 p269 q269
    have hw269_1 := hx269_1
    have hw269_0 := hx269_0
    cases e269
    replace hx269_0 := up_ HB hx269_0
    replace hx269_1 := up_ HB hx269_1
    replace p269 := eq_true p269
    replace q269 := eq_true q269
    refine fI (n := 10) (S := fun w' => w'.cell? (ad268.add ((x5_1).toNat * 2)) = some (.int .i64 ((cL l0 x5_1).f0)) ∧ w'.cell? ⟨(ad268.add ((x5_1).toNat * 2)).block, (ad268.add ((x5_1).toNat * 2)).off + 1, none⟩ = some (.int .i64 ((cL l0 x5_1).f1)) ∧ w'.cell? (ad269.add ((x5_1).toNat * 2)) = some (.int .i64 ((cL l1 x5_1).f0)) ∧ w'.cell? ⟨(ad269.add ((x5_1).toNat * 2)).block, (ad269.add ((x5_1).toNat * 2)).off + 1, none⟩ = some (.int .i64 ((cL l1 x5_1).f1))) (ds := []) (Steps.Bs 10 0) z1_ rfl rfl ⟨((HB.out.cell (World.block_lt_of_cell? w _ hw268_0)).trans hw268_0), ((HB.out.cell (World.block_lt_of_cell? w _ hw268_1)).trans hw268_1), ((HB.out.cell (World.block_lt_of_cell? w _ hw269_0)).trans hw269_0), ((HB.out.cell (World.block_lt_of_cell? w _ hw269_1)).trans hw269_1)⟩ (fun hHeld => ?_); refine eK bI.tab6 bI.bits6 (fun HT_ HW_ => ?_)
    generalize wr.drew = w11 at HB hx268_0 hx268_1 hx269_0 hx269_1 hHeld ⊢
    refine tI HT_ 0 17 10 1 ?_
    refine tI HT_ 1 18 10 3 ?_
    refine tI HT_ 2 19 10 7 ?_
    refine tI HT_ 4 21 10 23 ?_
    refine tI HT_ 5 22 10 55 ?_
    refine tI HT_ 6 23 10 119 ?_
    refine tT HT_ HW_ hHeld 3 20 10 127 ?_
    refine tT HT_ HW_ hHeld 7 24 10 255 ?_
    refine one_ (i := 8) (N := some 25) (Steps.Bs 10 511) rfl rfl (fN HT_.out z1_) z4_ (fun K hK => ?_)
    refine goes_ Try.func83 z1_ rfl #[.agg #[.int .i64 ((cL l0 x5_1).f0), .int .i64 ((cL l0 x5_1).f1)], .agg #[.int .i64 ((cL l1 x5_1).f0), .int .i64 ((cL l1 x5_1).f1)]] (by rfl) rfl rfl z5_ ?_
    with_reducible refine (cY.calls ((cL l0 x5_1).f0) ((cL l0 x5_1).f1) ((cL l1 x5_1).f0) ((cL l1 x5_1).f1) false _ A7.out).mono ?_
    rintro e w12 ⟨rfl, hb⟩
    refine ⟨_, rfl, ?_⟩
    have n0_ := mk_ (aI (Short.hB HB) hb)
    clear HB
    revert n0_
    intro HB
    (try clear hb)
    refine hK.out _ _ ⟨((HB.out.cell (World.block_lt_of_cell? w _ hw268_0)).trans hw268_0), ((HB.out.cell (World.block_lt_of_cell? w _ hw268_1)).trans hw268_1), ((HB.out.cell (World.block_lt_of_cell? w _ hw269_0)).trans hw269_0), ((HB.out.cell (World.block_lt_of_cell? w _ hw269_1)).trans hw269_1)⟩ (fun hHeld => ?_)
    clear hK K
    refine nrm 25 ?_
    refine tI HT_ 9 26 10 1023 ?_
    refine done_ (eO HT_.out z1_) ?_
    try go_wp2
    go_ret
    exact ⟨q0, Short.hB HB⟩
   subst c8
   rw [if_pos rfl] at H
   have H' := mk_ H
   clear H
   try go_wp2
   have n0_ := mk_ (dQ HB.out)
   clear HB
   revert n0_
   intro HB
   have p268 : 0 ≤ (x5_1 : Int) := of_decide_eq_true z0_
   have q268 : x5_1 < (l0.length : Int) := of_decide_eq_true z0_
   obtain ⟨ad268, e268, hx268_0, hx268_1⟩ := gQ HR0.out x5_1 p268 q268
   have hw268_1 := hx268_1
   have hw268_0 := hx268_0
   cases e268
   replace hx268_0 := up_ HB hx268_0
   replace hx268_1 := up_ HB hx268_1
   replace p268 := eq_true p268
   replace q268 := eq_true q268
   have p269 : 0 ≤ (x5_1 : Int) := of_decide_eq_true z0_
   have q269 : x5_1 < (l1.length : Int) := of_decide_eq_true z0_
   obtain ⟨ad269, e269, hx269_0, hx269_1⟩ := gQ HR1.out x5_1 p269 q269
   have hw269_1 := hx269_1
   have hw269_0 := hx269_0
   cases e269
   replace hx269_0 := up_ HB hx269_0
   replace hx269_1 := up_ HB hx269_1
   replace p269 := eq_true p269
   replace q269 := eq_true q269
   refine fI (n := 10) (S := fun w' => w'.cell? (ad268.add ((x5_1).toNat * 2)) = some (.int .i64 ((cL l0 x5_1).f0)) ∧ w'.cell? ⟨(ad268.add ((x5_1).toNat * 2)).block, (ad268.add ((x5_1).toNat * 2)).off + 1, none⟩ = some (.int .i64 ((cL l0 x5_1).f1)) ∧ w'.cell? (ad269.add ((x5_1).toNat * 2)) = some (.int .i64 ((cL l1 x5_1).f0)) ∧ w'.cell? ⟨(ad269.add ((x5_1).toNat * 2)).block, (ad269.add ((x5_1).toNat * 2)).off + 1, none⟩ = some (.int .i64 ((cL l1 x5_1).f1))) (ds := []) (Steps.Bs 10 0) z1_ rfl rfl ⟨((HB.out.cell (World.block_lt_of_cell? w _ hw268_0)).trans hw268_0), ((HB.out.cell (World.block_lt_of_cell? w _ hw268_1)).trans hw268_1), ((HB.out.cell (World.block_lt_of_cell? w _ hw269_0)).trans hw269_0), ((HB.out.cell (World.block_lt_of_cell? w _ hw269_1)).trans hw269_1)⟩ (fun hHeld => ?_); refine eK bI.tab6 bI.bits6 (fun HT_ HW_ => ?_)
   generalize wr.drew = w9 at HB hx268_0 hx268_1 hx269_0 hx269_1 hHeld ⊢
   refine tI HT_ 0 17 10 1 ?_
   refine tI HT_ 1 18 10 3 ?_
   refine tI HT_ 2 19 10 7 ?_
   refine tI HT_ 4 21 10 23 ?_
   refine tI HT_ 5 22 10 55 ?_
   refine tI HT_ 6 23 10 119 ?_
   refine tT HT_ HW_ hHeld 3 20 10 127 ?_
   refine tT HT_ HW_ hHeld 7 24 10 255 ?_
   refine one_ (i := 8) (N := some 25) (Steps.Bs 10 511) rfl rfl (fN HT_.out z1_) z4_ (fun K hK => ?_)
   refine goes_ Try.func83 z1_ rfl #[.agg #[.int .i64 ((cL l0 x5_1).f0), .int .i64 ((cL l0 x5_1).f1)], .agg #[.int .i64 ((cL l1 x5_1).f0), .int .i64 ((cL l1 x5_1).f1)]] (by rfl) rfl rfl z5_ ?_
   with_reducible refine (cY.calls ((cL l0 x5_1).f0) ((cL l0 x5_1).f1) ((cL l1 x5_1).f0) ((cL l1 x5_1).f1) true _ A7.out).mono ?_
   rintro e w10 ⟨rfl, hb⟩
   refine ⟨_, rfl, ?_⟩
   have n0_ := mk_ (aI (Short.hB HB) hb)
   clear HB
   revert n0_
   intro HB
   (try clear hb)
   refine hK.out _ _ ⟨((HB.out.cell (World.block_lt_of_cell? w _ hw268_0)).trans hw268_0), ((HB.out.cell (World.block_lt_of_cell? w _ hw268_1)).trans hw268_1), ((HB.out.cell (World.block_lt_of_cell? w _ hw269_0)).trans hw269_0), ((HB.out.cell (World.block_lt_of_cell? w _ hw269_1)).trans hw269_1)⟩ (fun hHeld => ?_)
   clear hK K
   refine nrm 25 ?_
   refine tI HT_ 9 26 10 1023 ?_
   refine done_ (eO HT_.out z1_) ?_
   try go_wp2
   go_roundg k1
   case measure => have := HK1.out; omega
   case rel => exact ⟨(wrap64 (x5_1 + 1)), z3_, H', ⟨by have := HK1.out; omega⟩, ⟨Short.hB HB⟩⟩
def dD.f (a0_0 : Int) (a0_1 : Int) (a0_2 : ByteArray) (a1_0 : Int) (a1_1 : Int) (a1_2 : ByteArray) : Option (Bool) := if a0_0 = a1_0 then (if a0_1 = a1_1 then (some (a0_2.toList == a1_2.toList)) else (some false)) else (some false)
theorem dD.calls (a0_0 : Int) (a0_1 : Int) (a0_2 : ByteArray) (a1_0 : Int) (a1_1 : Int) (a1_2 : ByteArray) (r : Bool) (w : World) (h : dD.f a0_0 a0_1 a0_2 a1_0 a1_1 a1_2 = some r) :
  Calls Try.prog 102 #[.agg #[.int .i64 a0_0, .int .i64 a0_1, .string a0_2], .agg #[.int .i64 a1_0, .int .i64 a1_1, .string a1_2]] w fun e w' => e = .returned (.bool r) ∧ Below w.heap.size w w' := by
 have hu89 := Try.underlying89
 have HB := mk_ (Below.refl w.heap.size w)
 have H : (if a0_0 = a1_0 then (if a0_1 = a1_1 then (some (a0_2.toList == a1_2.toList)) else (some false)) else (some false)) = some r := h
 clear h
 by_cases c3 : a0_0 = a1_0
 rotate_left
 rw [if_neg c3] at H
 have c3b0 : (a0_0 == a1_0) = false := beq_eq_false_iff_ne.mpr c3
 have c3b1 : (a0_0 != a1_0) = true := bne_iff_ne.mpr c3
 obtain rfl := Option.some.inj H
 rotate_right
 rw [if_pos c3] at H
 have c3b0 : (a0_0 == a1_0) = true := beq_iff_eq.mpr c3
 have c3b1 : (a0_0 != a1_0) = false := bne_eq_false_iff_eq.mpr c3
 clear c3
 by_cases c4 : a0_1 = a1_1
 rotate_left
 rw [if_neg c4] at H
 have c4b0 : (a0_1 == a1_1) = false := beq_eq_false_iff_ne.mpr c4
 have c4b1 : (a0_1 != a1_1) = true := bne_iff_ne.mpr c4
 obtain rfl := Option.some.inj H
 rotate_right
 rw [if_pos c4] at H
 have c4b0 : (a0_1 == a1_1) = true := beq_iff_eq.mpr c4
 have c4b1 : (a0_1 != a1_1) = false := bne_eq_false_iff_eq.mpr c4
 clear c4
 obtain rfl := Option.some.inj H
 all_goals
  go_enter Try.func102, Try.ntmps102
  go_wp2_with (first | ((with_reducible refine bP (N := 2) rfl ?_); refine bL ?hg (N := 2) ?hd (cs := #[.int .i64 a0_0, .int .i64 a0_1, .string a0_2]) (t := 89) ?hr ?_; (case hd => rfl); (case hg => rfl); (case hr => first | (go_simp; done) | (go_simp; rfl)); intro gb271 hg w_2 hbox hb; have n0_ := mk_ (aI (Short.hB HB) hb); have n1_ := mk_ (hbox); have n2_ := mk_ ((by rw [hg]; exact (aN (Short.hB HB)) : w.heap.size ≤ gb271)); have n3_ := mk_ ((by rw [hg]; exact (aN (Short.hB HB)) : w.heap.size ≤ gb271)); clear HB; revert n0_ n1_ n2_ n3_; intro HB BK271 GW271 GE271; clear hb hbox hg) | ((with_reducible refine bP (N := 3) rfl ?_); refine bL ?hg (N := 3) ?hd (cs := #[.int .i64 a1_0, .int .i64 a1_1, .string a1_2]) (t := 89) ?hr ?_; (case hd => rfl); (case hg => rfl); (case hr => first | (go_simp; done) | (go_simp; rfl)); intro gb272 hg w_3 hbox hb; have n0_ := mk_ (bB_ BK271 hb); have n1_ := mk_ (aI (Short.hB HB) hb); have n2_ := mk_ (hbox); have n3_ := mk_ ((by rw [hg]; exact (aN (Short.hB HB)) : w.heap.size ≤ gb272)); have n4_ := mk_ ((by rw [hg]; exact (aN (Short.hB HB)) : w.heap.size ≤ gb272)); have n5_ := mk_ ((by rw [hg]; exact Nat.ne_of_lt (eG (Short.bK BK271)) : gb271 ≠ gb272)); have n6_ := mk_ ((by rw [hg]; exact Nat.ne_of_gt (eG (Short.bK BK271)) : gb272 ≠ gb271)); clear BK271 HB; revert n0_ n1_ n2_ n3_ n4_ n5_ n6_; intro BK271 HB BK272 GW272 GE272 NB271_272 NB272_271; clear hb hbox hg; have hnb_3 := NB271_272.out; have hnc_3 := NB272_271.out; obtain ⟨hcz_0, hcz_1, hcz_2, hfz_0, hfz_1, hfz_2⟩ := Short.c3 BK271.out; obtain ⟨hcz_0, hcz_1, hcz_2, hfz_0, hfz_1, hfz_2⟩ := Short.c3 BK272.out))
  go_ret
  exact ⟨q0, Short.hB HB⟩
end Go.Proofs.Ytcbfliajgopdaaa.PAll
end
section
namespace Go.Proofs.Ytcbfliajgopdaaa.Steps
open Go.RowKit PrintWords PrintLast PrintMore ZipT PrintWords.Kd PrintMore.Kd
set_option linter.unusedVariables false
def Pre (n k : Nat) : Array Bool := ⟨(List.range n).map (fun i => Nat.blt i k)⟩
section
variable {P : Program} {ops : Array Oper} {Q : Exit → Act → World → Prop} {md : Region.Mode} {S : World → Prop} {ds : List Nat} {T : Bool × List (List Nat × List Nat)} {B : List Nat}
theorem want_ {oi : Oper} {k : Nat} {a : Act} {b : Bool} (hi : ops[k]? = some oi) (hw : (ops[k]?).map (fun o => Region.wanted o (yielded ops a.tmps)) = some b) : Region.wanted oi (yielded ops a.tmps) = b := by
 rw [hi] at hw
 exact Option.some.inj hw
theorem nR_ (off : Nat) (hT : rtab md ops = T) {oi : Oper} {fuel n k : Nat} {a : Act} {w : World} {a' : Act} (hi : ops[k]? = some oi := by rfl) (hN : oi.dst = some (k + off) := by rfl) (hw : (ops[k]?).map (fun o => Region.wanted o (yielded ops a.tmps)) = some false := by kernel_rfl)
  (hc : anyT T (Pre n k).toList (Pre n (k + 1)).toList k = true := by kernel_rfl)
  (hQ : ∀ c a w, Q (.panic c) (a.put oi.dst undef) w → Q (.panic c) a w := by exact fun _ _ _ h => h)
  (ha : a.put (some (k + off)) undef = a' := by simp only [Nat.reduceAdd, Act.put, List.setIfInBounds_toArray, List.set_cons_zero, List.set_cons_succ, i64_w, i32_w]; rfl)
  (h : wpAnyLast P md ops Q S ds fuel (Pre n (k + 1)) a' w) : wpAnyLast P md ops Q S ds (fuel + 1) (Pre n k) a w :=
 pure_ _ hi hN (any_of hT hc) hQ (Or.inr ⟨want_ hi hw, rfl⟩) ha h
theorem nI_ (off : Nat) (hT : rtab md ops = T) {oi : Oper} {v : Value} {fuel n k : Nat} {a : Act} {w : World} {a' : Act} (hi : ops[k]? = some oi := by rfl) (hN : oi.dst = some (k + off) := by rfl) (hw : (ops[k]?).map (fun o => Region.wanted o (yielded ops a.tmps)) = some true := by kernel_rfl)
  (hy : ∀ w, (execOp a.eval oi).run P w = .ok (.value v) w := by intro w'; go_simp; with_reducible rfl)
  (hc : anyT T (Pre n k).toList (Pre n (k + 1)).toList k = true := by kernel_rfl)
  (hQ : ∀ c a w, Q (.panic c) (a.put oi.dst v) w → Q (.panic c) a w := by exact fun _ _ _ h => h)
  (ha : a.put (some (k + off)) v = a' := by simp only [Nat.reduceAdd, Act.put, List.setIfInBounds_toArray, List.set_cons_zero, List.set_cons_succ, i64_w, i32_w]; rfl)
  (h : wpAnyLast P md ops Q S ds fuel (Pre n (k + 1)) a' w) : wpAnyLast P md ops Q S ds (fuel + 1) (Pre n k) a w :=
 pure_ _ hi hN (any_of hT hc) hQ (Or.inl ⟨want_ hi hw, hy⟩) ha h
theorem start_n {S : World → Prop} {ds : List Nat} {id n : Nat} {a : Act} {w : World} (J : World → Prop) (hm : P.follows .mixedOrders = true) (hn : ops.size = n) (hl : Array.replicate n false = Pre n 0)
  (hJ : J w.drew) (hS : ∀ W, J W → S W) (h : ∀ W, J W → S W → wpAnyLast P .any ops Q S ds n (Pre n 0) a W) : (Code.region id ops true).wp P Q a w :=
 fI _ hm hn hl (hS _ hJ) (fun _ => h _ hJ (hS _ hJ))
end
end Go.Proofs.Ytcbfliajgopdaaa.Steps
end
section
namespace Go.Proofs.Ytcbfliajgopdaaa.PAll
open Go.RowKit PrintWords PrintLast PrintMore ZipT PrintWords.Kd PrintMore.Kd
attribute [local go_sem] eC eA eN eR dR dP eD eB   -- for this text's walks alone
set_option linter.unusedVariables false
set_option linter.unusedSimpArgs false
def bQ.l0 : Nat → List (S89) → List (S89) → Int → Option (Bool)
 | 0, _, _, _ => none
 | k + 1, x0, x1, x5 => if x5 < (x0.length : Int) then (if 0 ≤ x5 then (if x5 < (x1.length : Int) then ((dD.f ((bF x0 x5).f0) ((bF x0 x5).f1) ((bF x0 x5).f2) ((bF x1 x5).f0) ((bF x1 x5).f1) ((bF x1 x5).f2)).bind fun t275 => (if t275 = true then (bQ.l0 k x0 x1 (wrap64 (x5 + 1))) else (some false))) else (none)) else (none)) else (some true)
def bQ.f (k : Nat) (l0 : List (S89)) (l1 : List (S89)) : Option (Bool) := if (l0.length : Int) = (l1.length : Int) then (bQ.l0 k l0 l1 0) else (some false)
def bQ.T6 : Bool × List (List Nat × List Nat) := (true, [([], []), ([], []), ([0, 1], [0, 1]), ([2], [2]), ([], []), ([], []), ([4, 5], [4, 5]), ([6], [6]), ([3, 7], [3, 7]), ([8], [8])])
def bQ.B6 : List Nat := [0, 0, 3, 7, 0, 0, 48, 112, 255, 511]
theorem bQ.tab6 : rtab .any (opsOf Try.f84 6) = bQ.T6 := by kernel_rfl
theorem bQ.bits6 : waitsOk bQ.T6.2 bQ.B6 = true := by kernel_rfl
theorem bQ.calls (k : Nat) (A0 : Option Addr) (c0 : Nat) (l0 : List (S89)) (A1 : Option Addr) (c1 : Nat) (l1 : List (S89)) (r : Bool) (w : World) (hr0 : Kd.C k89 w A0 l0.length l0) (hc0 : l0.length ≤ c0) (hr1 : Kd.C k89 w A1 l1.length l1) (hc1 : l1.length ≤ c1) (h : bQ.f k l0 l1 = some r) :
  Calls Try.prog 84 #[.slice A0 l0.length c0, .slice A1 l1.length c1] w fun e w' => e = .returned (.bool r) ∧ Below w.heap.size w w' := by
 have hu89 := Try.underlying89
 have HR0 := mk_ hr0
 have HC0 := mk_ hc0
 clear hr0 hc0
 have HR1 := mk_ hr1
 have HC1 := mk_ hc1
 clear hr1 hc1
 have HB := mk_ (Below.refl w.heap.size w)
 have H : (if (l0.length : Int) = (l1.length : Int) then (bQ.l0 k l0 l1 0) else (some false)) = some r := h
 clear h
 by_cases c3 : (l0.length : Int) = (l1.length : Int)
 rotate_left
 ·
  rw [if_neg c3] at H
  have c3b0 : ((l0.length : Int) == (l1.length : Int)) = false := beq_eq_false_iff_ne.mpr c3
  have c3b1 : ((l0.length : Int) != (l1.length : Int)) = true := bne_iff_ne.mpr c3
  have c3b2 : (l0.length == l1.length) = false := by first | simpa using c3 | (simp at c3 ⊢; omega)
  obtain rfl := Option.some.inj H
  go_enter Try.func84, Try.ntmps84
  go_wp2
  go_ret
  exact ⟨q0, Short.hB HB⟩
 rw [if_pos c3] at H
 have c3b0 : ((l0.length : Int) == (l1.length : Int)) = true := beq_iff_eq.mpr c3
 have c3b1 : ((l0.length : Int) != (l1.length : Int)) = false := bne_eq_false_iff_eq.mpr c3
 have c3b2 : (l0.length == l1.length) = true := by first | simpa using c3 | (simp at c3 ⊢; omega)
 clear c3
 have H' := mk_ H
 clear H
 go_enter Try.func84, Try.ntmps84
 go_wp2
 go_loopg [5] k (fun kq v5 w' => ∃ (x5_1 : Int), v5 = .int .i64 x5_1 ∧ Aside0 (bQ.l0 kq l0 l1 x5_1 = some r) ∧ Aside0 (kq ≤ k) ∧ Aside0 (Below w.heap.size w w'))
 case atStart => exact ⟨(0), z3_, H', ⟨Nat.le_refl _⟩, ⟨Short.hB HB⟩⟩
 case round =>
  clear H'
  try clear c1
  try clear c3
  try clear c3b0
  try clear c3b1
  try clear c3b2
  obtain ⟨x5_1, rfl, HA, HK1, HB⟩ := hrel
  cases gk with
  | zero => exact absurd HA.out (by simp [bQ.l0])
  | succ k1 =>
   have H := HA.out
   clear HA
   simp only [bQ.l0] at H
   by_cases c4 : x5_1 < (l0.length : Int)
   rotate_left
   ·
    rw [if_neg c4] at H
    have c4b0 : decide (x5_1 < (l0.length : Int)) = false := decide_eq_false c4
    clear c4
    obtain rfl := Option.some.inj H
    go_wp2
    go_ret
    exact ⟨q0, Short.hB HB⟩
   rw [if_pos c4] at H
   have c4b0 : decide (x5_1 < (l0.length : Int)) = true := decide_eq_true c4
   clear c4
   by_cases c5 : 0 ≤ x5_1
   rotate_left
   ·
    rw [if_neg c5] at H
    exact absurd H (by simp)
   rw [if_pos c5] at H
   have c5b0 : decide (0 ≤ x5_1) = true := decide_eq_true c5
   clear c5
   by_cases c6 : x5_1 < (l1.length : Int)
   rotate_left
   ·
    rw [if_neg c6] at H
    exact absurd H (by simp)
   rw [if_pos c6] at H
   have c6b0 : decide (x5_1 < (l1.length : Int)) = true := decide_eq_true c6
   clear c6
   obtain ⟨t275, A7, H⟩ := Option.bind_eq_some_iff.mp H
   replace A7 := mk_ A7
   by_cases c8 : t275 = true
   rotate_left
   ·
    replace c8 := Bool.eq_false_iff.mpr c8
    subst c8
    rw [if_neg (show ¬ (false = true) by decide)] at H
    obtain rfl := Option.some.inj H
    try go_wp2
    have n0_ := mk_ (dQ HB.out)
    clear HB
    revert n0_
    intro HB
    have p273 : 0 ≤ (x5_1 : Int) := of_decide_eq_true z0_
    have q273 : x5_1 < (l0.length : Int) := of_decide_eq_true z0_
    obtain ⟨ad273, e273, hx273_0, hx273_1, hx273_2⟩ := gS HR0.out x5_1 p273 q273
    have hw273_2 := hx273_2
    have hw273_1 := hx273_1
    have hw273_0 := hx273_0
    cases e273
    replace hx273_0 := up_ HB hx273_0
    replace hx273_1 := up_ HB hx273_1
    replace hx273_2 := up_ HB hx273_2
    replace p273 := eq_true p273
    replace q273 := eq_true q273
    have p274 : 0 ≤ (x5_1 : Int) := of_decide_eq_true z0_
    have q274 : x5_1 < (l1.length : Int) := of_decide_eq_true z0_
    obtain ⟨ad274, e274, hx274_0, hx274_1, hx274_2⟩ := gS HR1.out x5_1 p274 q274
    have hw274_2 := hx274_2
    have hw274_1 := hx274_1
    have hw274_0 := hx274_0
    cases e274
    replace hx274_0 := up_ HB hx274_0
    replace hx274_1 := up_ HB hx274_1
    replace hx274_2 := up_ HB hx274_2
    replace p274 := eq_true p274
    replace q274 := eq_true q274
    refine fI (n := 10) (S := fun w' => w'.cell? (ad273.add ((x5_1).toNat * 3)) = some (.int .i64 ((bF l0 x5_1).f0)) ∧ w'.cell? ⟨(ad273.add ((x5_1).toNat * 3)).block, (ad273.add ((x5_1).toNat * 3)).off + 1, none⟩ = some (.int .i64 ((bF l0 x5_1).f1)) ∧ w'.cell? ⟨(ad273.add ((x5_1).toNat * 3)).block, (ad273.add ((x5_1).toNat * 3)).off + 2, none⟩ = some (.string ((bF l0 x5_1).f2)) ∧ w'.cell? (ad274.add ((x5_1).toNat * 3)) = some (.int .i64 ((bF l1 x5_1).f0)) ∧ w'.cell? ⟨(ad274.add ((x5_1).toNat * 3)).block, (ad274.add ((x5_1).toNat * 3)).off + 1, none⟩ = some (.int .i64 ((bF l1 x5_1).f1)) ∧ w'.cell? ⟨(ad274.add ((x5_1).toNat * 3)).block, (ad274.add ((x5_1).toNat * 3)).off + 2, none⟩ = some (.string ((bF l1 x5_1).f2))) (ds := []) (Steps.Bs 10 0) z1_ rfl rfl ⟨((HB.out.cell (World.block_lt_of_cell? w _ hw273_0)).trans hw273_0), ((HB.out.cell (World.block_lt_of_cell? w _ hw273_1)).trans hw273_1), ((HB.out.cell (World.block_lt_of_cell? w _ hw273_2)).trans hw273_2), ((HB.out.cell (World.block_lt_of_cell? w _ hw274_0)).trans hw274_0), ((HB.out.cell (World.block_lt_of_cell? w _ hw274_1)).trans hw274_1), ((HB.out.cell (World.block_lt_of_cell? w _ hw274_2)).trans hw274_2)⟩ (fun hHeld => ?_); refine eK bQ.tab6 bQ.bits6 (fun HT_ HW_ => ?_)
    generalize wr.drew = w11 at HB hx273_0 hx273_1 hx273_2 hx274_0 hx274_1 hx274_2 hHeld ⊢
    refine tI HT_ 0 17 10 1 ?_
    refine tI HT_ 1 18 10 3 ?_
    refine tI HT_ 2 19 10 7 ?_
    refine tI HT_ 4 21 10 23 ?_
    refine tI HT_ 5 22 10 55 ?_
    refine tI HT_ 6 23 10 119 ?_
    refine tT HT_ HW_ hHeld 3 20 10 127 ?_
    refine tT HT_ HW_ hHeld 7 24 10 255 ?_
    refine one_ (i := 8) (N := some 25) (Steps.Bs 10 511) rfl rfl (fN HT_.out z1_) z4_ (fun K hK => ?_)
    refine goes_ Try.func102 z1_ rfl #[.agg #[.int .i64 ((bF l0 x5_1).f0), .int .i64 ((bF l0 x5_1).f1), .string ((bF l0 x5_1).f2)], .agg #[.int .i64 ((bF l1 x5_1).f0), .int .i64 ((bF l1 x5_1).f1), .string ((bF l1 x5_1).f2)]] (by rfl) rfl rfl z5_ ?_
    with_reducible refine (dD.calls ((bF l0 x5_1).f0) ((bF l0 x5_1).f1) ((bF l0 x5_1).f2) ((bF l1 x5_1).f0) ((bF l1 x5_1).f1) ((bF l1 x5_1).f2) false _ A7.out).mono ?_
    rintro e w12 ⟨rfl, hb⟩
    refine ⟨_, rfl, ?_⟩
    have n0_ := mk_ (aI (Short.hB HB) hb)
    clear HB
    revert n0_
    intro HB
    (try clear hb)
    refine hK.out _ _ ⟨((HB.out.cell (World.block_lt_of_cell? w _ hw273_0)).trans hw273_0), ((HB.out.cell (World.block_lt_of_cell? w _ hw273_1)).trans hw273_1), ((HB.out.cell (World.block_lt_of_cell? w _ hw273_2)).trans hw273_2), ((HB.out.cell (World.block_lt_of_cell? w _ hw274_0)).trans hw274_0), ((HB.out.cell (World.block_lt_of_cell? w _ hw274_1)).trans hw274_1), ((HB.out.cell (World.block_lt_of_cell? w _ hw274_2)).trans hw274_2)⟩ (fun hHeld => ?_)
    clear hK K
    refine nrm 25 ?_
    refine tI HT_ 9 26 10 1023 ?_
    refine done_ (eO HT_.out z1_) ?_
    try go_wp2
    go_ret
    exact ⟨q0, Short.hB HB⟩
   subst c8
   rw [if_pos rfl] at H
   have H' := mk_ H
   clear H
   try go_wp2
   have n0_ := mk_ (dQ HB.out)
   clear HB
   revert n0_
   intro HB
   have p273 : 0 ≤ (x5_1 : Int) := of_decide_eq_true z0_
   have q273 : x5_1 < (l0.length : Int) := of_decide_eq_true z0_
   obtain ⟨ad273, e273, hx273_0, hx273_1, hx273_2⟩ := gS HR0.out x5_1 p273 q273
   have hw273_2 := hx273_2
   have hw273_1 := hx273_1
   have hw273_0 := hx273_0
   cases e273
   replace hx273_0 := up_ HB hx273_0
   replace hx273_1 := up_ HB hx273_1
   replace hx273_2 := up_ HB hx273_2
   replace p273 := eq_true p273
   replace q273 := eq_true q273
   have p274 : 0 ≤ (x5_1 : Int) := of_decide_eq_true z0_
   have q274 : x5_1 < (l1.length : Int) := of_decide_eq_true z0_
   obtain ⟨ad274, e274, hx274_0, hx274_1, hx274_2⟩ := gS HR1.out x5_1 p274 q274
   have hw274_2 := hx274_2
   have hw274_1 := hx274_1
   have hw274_0 := hx274_0
   cases e274
   replace hx274_0 := up_ HB hx274_0
   replace hx274_1 := up_ HB hx274_1
   replace hx274_2 := up_ HB hx274_2
   replace p274 := eq_true p274
   replace q274 := eq_true q274
   refine fI (n := 10) (S := fun w' => w'.cell? (ad273.add ((x5_1).toNat * 3)) = some (.int .i64 ((bF l0 x5_1).f0)) ∧ w'.cell? ⟨(ad273.add ((x5_1).toNat * 3)).block, (ad273.add ((x5_1).toNat * 3)).off + 1, none⟩ = some (.int .i64 ((bF l0 x5_1).f1)) ∧ w'.cell? ⟨(ad273.add ((x5_1).toNat * 3)).block, (ad273.add ((x5_1).toNat * 3)).off + 2, none⟩ = some (.string ((bF l0 x5_1).f2)) ∧ w'.cell? (ad274.add ((x5_1).toNat * 3)) = some (.int .i64 ((bF l1 x5_1).f0)) ∧ w'.cell? ⟨(ad274.add ((x5_1).toNat * 3)).block, (ad274.add ((x5_1).toNat * 3)).off + 1, none⟩ = some (.int .i64 ((bF l1 x5_1).f1)) ∧ w'.cell? ⟨(ad274.add ((x5_1).toNat * 3)).block, (ad274.add ((x5_1).toNat * 3)).off + 2, none⟩ = some (.string ((bF l1 x5_1).f2))) (ds := []) (Steps.Bs 10 0) z1_ rfl rfl ⟨((HB.out.cell (World.block_lt_of_cell? w _ hw273_0)).trans hw273_0), ((HB.out.cell (World.block_lt_of_cell? w _ hw273_1)).trans hw273_1), ((HB.out.cell (World.block_lt_of_cell? w _ hw273_2)).trans hw273_2), ((HB.out.cell (World.block_lt_of_cell? w _ hw274_0)).trans hw274_0), ((HB.out.cell (World.block_lt_of_cell? w _ hw274_1)).trans hw274_1), ((HB.out.cell (World.block_lt_of_cell? w _ hw274_2)).trans hw274_2)⟩ (fun hHeld => ?_); refine eK bQ.tab6 bQ.bits6 (fun HT_ HW_ => ?_)
   generalize wr.drew = w9 at HB hx273_0 hx273_1 hx273_2 hx274_0 hx274_1 hx274_2 hHeld ⊢
   refine tI HT_ 0 17 10 1 ?_
   refine tI HT_ 1 18 10 3 ?_
   refine tI HT_ 2 19 10 7 ?_
   refine tI HT_ 4 21 10 23 ?_
   refine tI HT_ 5 22 10 55 ?_
   refine tI HT_ 6 23 10 119 ?_
   refine tT HT_ HW_ hHeld 3 20 10 127 ?_
   refine tT HT_ HW_ hHeld 7 24 10 255 ?_
   refine one_ (i := 8) (N := some 25) (Steps.Bs 10 511) rfl rfl (fN HT_.out z1_) z4_ (fun K hK => ?_)
   refine goes_ Try.func102 z1_ rfl #[.agg #[.int .i64 ((bF l0 x5_1).f0), .int .i64 ((bF l0 x5_1).f1), .string ((bF l0 x5_1).f2)], .agg #[.int .i64 ((bF l1 x5_1).f0), .int .i64 ((bF l1 x5_1).f1), .string ((bF l1 x5_1).f2)]] (by rfl) rfl rfl z5_ ?_
   with_reducible refine (dD.calls ((bF l0 x5_1).f0) ((bF l0 x5_1).f1) ((bF l0 x5_1).f2) ((bF l1 x5_1).f0) ((bF l1 x5_1).f1) ((bF l1 x5_1).f2) true _ A7.out).mono ?_
   rintro e w10 ⟨rfl, hb⟩
   refine ⟨_, rfl, ?_⟩
   have n0_ := mk_ (aI (Short.hB HB) hb)
   clear HB
   revert n0_
   intro HB
   (try clear hb)
   refine hK.out _ _ ⟨((HB.out.cell (World.block_lt_of_cell? w _ hw273_0)).trans hw273_0), ((HB.out.cell (World.block_lt_of_cell? w _ hw273_1)).trans hw273_1), ((HB.out.cell (World.block_lt_of_cell? w _ hw273_2)).trans hw273_2), ((HB.out.cell (World.block_lt_of_cell? w _ hw274_0)).trans hw274_0), ((HB.out.cell (World.block_lt_of_cell? w _ hw274_1)).trans hw274_1), ((HB.out.cell (World.block_lt_of_cell? w _ hw274_2)).trans hw274_2)⟩ (fun hHeld => ?_)
   clear hK K
   refine nrm 25 ?_
   refine tI HT_ 9 26 10 1023 ?_
   refine done_ (eO HT_.out z1_) ?_
   try go_wp2
   go_roundg k1
   case measure => have := HK1.out; omega
   case rel => exact ⟨(wrap64 (x5_1 + 1)), z3_, H', ⟨by have := HK1.out; omega⟩, ⟨Short.hB HB⟩⟩
def raddlekeep_Op.f (k : Nat) (a0_0 : Int) (a0_1 : Int) (l0_2 : List Int) (a0_3 : Int) (a0_4 : Int) (a0_5 : Int) (a0_6 : Int) (a0_7 : Int) (a0_8 : ByteArray) (a0_9 : Int) (l0_10 : List (S89)) (l0_11 : List (S50)) (a1_0 : Int) (a1_1 : Int) (l1_2 : List Int) (a1_3 : Int) (a1_4 : Int) (a1_5 : Int) (a1_6 : Int) (a1_7 : Int) (a1_8 : ByteArray) (a1_9 : Int) (l1_10 : List (S89)) (l1_11 : List (S50)) : Option (Bool) := (cY.f a0_0 a0_1 a1_0 a1_1).bind fun t278 => (if t278 = true then ((bH.f k l0_2 l1_2).bind fun t279 => (if t279 = true then ((cE.f a0_3 a0_4 a0_5 a1_3 a1_4 a1_5).bind fun t280 => (if t280 = true then (if a0_6 = a1_6 then (if a0_7 = a1_7 then (if a0_8.toList = a1_8.toList then (if a0_9 = a1_9 then ((bQ.f k l0_10 l1_10).bind fun t281 => (if t281 = true then ((bI.f k l0_11 l1_11).bind fun t282 => (some t282)) else (some false))) else (some false)) else (some false)) else (some false)) else (some false)) else (some false))) else (some false))) else (some false))
theorem raddlekeep_Op.calls (k : Nat) (a0_0 : Int) (a0_1 : Int) (A0_2 : Option Addr) (c0_2 : Nat) (l0_2 : List Int) (a0_3 : Int) (a0_4 : Int) (a0_5 : Int) (a0_6 : Int) (a0_7 : Int) (a0_8 : ByteArray) (a0_9 : Int) (A0_10 : Option Addr) (c0_10 : Nat) (l0_10 : List (S89)) (A0_11 : Option Addr) (c0_11 : Nat) (l0_11 : List (S50)) (a1_0 : Int) (a1_1 : Int) (A1_2 : Option Addr) (c1_2 : Nat) (l1_2 : List Int) (a1_3 : Int) (a1_4 : Int) (a1_5 : Int) (a1_6 : Int) (a1_7 : Int) (a1_8 : ByteArray) (a1_9 : Int) (A1_10 : Option Addr) (c1_10 : Nat) (l1_10 : List (S89)) (A1_11 : Option Addr) (c1_11 : Nat) (l1_11 : List (S50)) (r : Bool) (w : World) (hr0_2 : Kd.C (Kd.int .i64) w A0_2 l0_2.length l0_2) (hc0_2 : l0_2.length ≤ c0_2) (hr0_10 : Kd.C k89 w A0_10 l0_10.length l0_10) (hc0_10 : l0_10.length ≤ c0_10) (hr0_11 : Kd.C k50 w A0_11 l0_11.length l0_11) (hc0_11 : l0_11.length ≤ c0_11) (hr1_2 : Kd.C (Kd.int .i64) w A1_2 l1_2.length l1_2) (hc1_2 : l1_2.length ≤ c1_2) (hr1_10 : Kd.C k89 w A1_10 l1_10.length l1_10) (hc1_10 : l1_10.length ≤ c1_10) (hr1_11 : Kd.C k50 w A1_11 l1_11.length l1_11) (hc1_11 : l1_11.length ≤ c1_11) (h : raddlekeep_Op.f k a0_0 a0_1 l0_2 a0_3 a0_4 a0_5 a0_6 a0_7 a0_8 a0_9 l0_10 l0_11 a1_0 a1_1 l1_2 a1_3 a1_4 a1_5 a1_6 a1_7 a1_8 a1_9 l1_10 l1_11 = some r) :
  Calls Try.prog 46 #[.agg #[.int .i64 a0_0, .int .i64 a0_1, .slice A0_2 l0_2.length c0_2, .int .i64 a0_3, .int .i64 a0_4, .int .i64 a0_5, .int .i64 a0_6, .int .i64 a0_7, .string a0_8, .int .i64 a0_9, .slice A0_10 l0_10.length c0_10, .slice A0_11 l0_11.length c0_11], .agg #[.int .i64 a1_0, .int .i64 a1_1, .slice A1_2 l1_2.length c1_2, .int .i64 a1_3, .int .i64 a1_4, .int .i64 a1_5, .int .i64 a1_6, .int .i64 a1_7, .string a1_8, .int .i64 a1_9, .slice A1_10 l1_10.length c1_10, .slice A1_11 l1_11.length c1_11]] w fun e w' => e = .returned (.bool r) ∧ Below w.heap.size w w' := by
 have hu54 := Try.underlying54
 have hu50 := Try.underlying50
 have hu26 := Try.underlying26
 have HR0_2 := mk_ hr0_2
 have HC0_2 := mk_ hc0_2
 clear hr0_2 hc0_2
 have HR0_10 := mk_ hr0_10
 have HC0_10 := mk_ hc0_10
 clear hr0_10 hc0_10
 have HR0_11 := mk_ hr0_11
 have HC0_11 := mk_ hc0_11
 clear hr0_11 hc0_11
 have HR1_2 := mk_ hr1_2
 have HC1_2 := mk_ hc1_2
 clear hr1_2 hc1_2
 have HR1_10 := mk_ hr1_10
 have HC1_10 := mk_ hc1_10
 clear hr1_10 hc1_10
 have HR1_11 := mk_ hr1_11
 have HC1_11 := mk_ hc1_11
 clear hr1_11 hc1_11
 have HB := mk_ (Below.refl w.heap.size w)
 have H : ((cY.f a0_0 a0_1 a1_0 a1_1).bind fun t278 => (if t278 = true then ((bH.f k l0_2 l1_2).bind fun t279 => (if t279 = true then ((cE.f a0_3 a0_4 a0_5 a1_3 a1_4 a1_5).bind fun t280 => (if t280 = true then (if a0_6 = a1_6 then (if a0_7 = a1_7 then (if a0_8.toList = a1_8.toList then (if a0_9 = a1_9 then ((bQ.f k l0_10 l1_10).bind fun t281 => (if t281 = true then ((bI.f k l0_11 l1_11).bind fun t282 => (some t282)) else (some false))) else (some false)) else (some false)) else (some false)) else (some false)) else (some false))) else (some false))) else (some false))) = some r := h
 clear h
 obtain ⟨t278, A3, H⟩ := Option.bind_eq_some_iff.mp H
 replace A3 := mk_ A3
 by_cases c4 : t278 = true
 rotate_left
 replace c4 := Bool.eq_false_iff.mpr c4
 subst c4
 rw [if_neg (show ¬ (false = true) by decide)] at H
 obtain rfl := Option.some.inj H
 rotate_right
 subst c4
 rw [if_pos rfl] at H
 obtain ⟨t279, A5, H⟩ := Option.bind_eq_some_iff.mp H
 replace A5 := mk_ A5
 by_cases c6 : t279 = true
 rotate_left
 replace c6 := Bool.eq_false_iff.mpr c6
 subst c6
 rw [if_neg (show ¬ (false = true) by decide)] at H
 obtain rfl := Option.some.inj H
 rotate_right
 subst c6
 rw [if_pos rfl] at H
 obtain ⟨t280, A7, H⟩ := Option.bind_eq_some_iff.mp H
 replace A7 := mk_ A7
 by_cases c8 : t280 = true
 rotate_left
 replace c8 := Bool.eq_false_iff.mpr c8
 subst c8
 rw [if_neg (show ¬ (false = true) by decide)] at H
 obtain rfl := Option.some.inj H
 rotate_right
 subst c8
 rw [if_pos rfl] at H
 by_cases c9 : a0_6 = a1_6
 rotate_left
 rw [if_neg c9] at H
 have c9b0 : (a0_6 == a1_6) = false := beq_eq_false_iff_ne.mpr c9
 have c9b1 : (a0_6 != a1_6) = true := bne_iff_ne.mpr c9
 obtain rfl := Option.some.inj H
 rotate_right
 rw [if_pos c9] at H
 have c9b0 : (a0_6 == a1_6) = true := beq_iff_eq.mpr c9
 have c9b1 : (a0_6 != a1_6) = false := bne_eq_false_iff_eq.mpr c9
 clear c9
 by_cases c10 : a0_7 = a1_7
 rotate_left
 rw [if_neg c10] at H
 have c10b0 : (a0_7 == a1_7) = false := beq_eq_false_iff_ne.mpr c10
 have c10b1 : (a0_7 != a1_7) = true := bne_iff_ne.mpr c10
 obtain rfl := Option.some.inj H
 rotate_right
 rw [if_pos c10] at H
 have c10b0 : (a0_7 == a1_7) = true := beq_iff_eq.mpr c10
 have c10b1 : (a0_7 != a1_7) = false := bne_eq_false_iff_eq.mpr c10
 clear c10
 by_cases c11 : a0_8.toList = a1_8.toList
 rotate_left
 rw [if_neg c11] at H
 have c11b0 : (a0_8.toList == a1_8.toList) = false := beq_eq_false_iff_ne.mpr c11
 have c11b1 : (a0_8.toList != a1_8.toList) = true := bne_iff_ne.mpr c11
 obtain rfl := Option.some.inj H
 rotate_right
 rw [if_pos c11] at H
 have c11b0 : (a0_8.toList == a1_8.toList) = true := beq_iff_eq.mpr c11
 have c11b1 : (a0_8.toList != a1_8.toList) = false := bne_eq_false_iff_eq.mpr c11
 clear c11
 by_cases c12 : a0_9 = a1_9
 rotate_left
 rw [if_neg c12] at H
 have c12b0 : (a0_9 == a1_9) = false := beq_eq_false_iff_ne.mpr c12
 have c12b1 : (a0_9 != a1_9) = true := bne_iff_ne.mpr c12
 obtain rfl := Option.some.inj H
 rotate_right
 rw [if_pos c12] at H
 have c12b0 : (a0_9 == a1_9) = true := beq_iff_eq.mpr c12
 have c12b1 : (a0_9 != a1_9) = false := bne_eq_false_iff_eq.mpr c12
 clear c12
 obtain ⟨t281, A13, H⟩ := Option.bind_eq_some_iff.mp H
 replace A13 := mk_ A13
 by_cases c14 : t281 = true
 rotate_left
 replace c14 := Bool.eq_false_iff.mpr c14
 subst c14
 rw [if_neg (show ¬ (false = true) by decide)] at H
 obtain rfl := Option.some.inj H
 rotate_right
 subst c14
 rw [if_pos rfl] at H
 obtain ⟨t282, A15, H⟩ := Option.bind_eq_some_iff.mp H
 replace A15 := mk_ A15
 obtain rfl := Option.some.inj H
 all_goals
  go_enter Try.func46, Try.ntmps46
  go_wp2_with (first | ((with_reducible refine bP (N := 2) rfl ?_); refine bL ?hg (N := 2) ?hd (cs := #[.int .i64 a0_0, .int .i64 a0_1, .slice A0_2 l0_2.length c0_2, .int .i64 a0_3, .int .i64 a0_4, .int .i64 a0_5, .int .i64 a0_6, .int .i64 a0_7, .string a0_8, .int .i64 a0_9, .slice A0_10 l0_10.length c0_10, .slice A0_11 l0_11.length c0_11]) (t := 54) ?hr ?_; (case hd => rfl); (case hg => rfl); (case hr => first | (go_simp; done) | (go_simp; rfl)); intro gb276 hg w_2 hbox hb; have n0_ := mk_ (aI (Short.hB HB) hb); have n1_ := mk_ (hbox); have n2_ := mk_ ((by rw [hg]; exact (aN (Short.hB HB)) : w.heap.size ≤ gb276)); have n3_ := mk_ ((by rw [hg]; exact (aN (Short.hB HB)) : w.heap.size ≤ gb276)); clear HB; revert n0_ n1_ n2_ n3_; intro HB BK276 GW276 GE276; clear hb hbox hg) | ((with_reducible refine bP (N := 3) rfl ?_); refine bL ?hg (N := 3) ?hd (cs := #[.int .i64 a1_0, .int .i64 a1_1, .slice A1_2 l1_2.length c1_2, .int .i64 a1_3, .int .i64 a1_4, .int .i64 a1_5, .int .i64 a1_6, .int .i64 a1_7, .string a1_8, .int .i64 a1_9, .slice A1_10 l1_10.length c1_10, .slice A1_11 l1_11.length c1_11]) (t := 54) ?hr ?_; (case hd => rfl); (case hg => rfl); (case hr => first | (go_simp; done) | (go_simp; rfl)); intro gb277 hg w_3 hbox hb; have n0_ := mk_ (bB_ BK276 hb); have n1_ := mk_ (aI (Short.hB HB) hb); have n2_ := mk_ (hbox); have n3_ := mk_ ((by rw [hg]; exact (aN (Short.hB HB)) : w.heap.size ≤ gb277)); have n4_ := mk_ ((by rw [hg]; exact (aN (Short.hB HB)) : w.heap.size ≤ gb277)); have n5_ := mk_ ((by rw [hg]; exact Nat.ne_of_lt (eG (Short.bK BK276)) : gb276 ≠ gb277)); have n6_ := mk_ ((by rw [hg]; exact Nat.ne_of_gt (eG (Short.bK BK276)) : gb277 ≠ gb276)); clear BK276 HB; revert n0_ n1_ n2_ n3_ n4_ n5_ n6_; intro BK276 HB BK277 GW277 GE277 NB276_277 NB277_276; clear hb hbox hg; have hnb_3 := NB276_277.out; have hnc_3 := NB277_276.out; have hcz_0 := aC BK276.out; have hfz_0 := aH BK276.out; have hcz_0 := aC BK277.out; have hfz_0 := aH BK277.out) | ((with_reducible refine aT (f := 83) rfl ?_); refine Short.gL (some 9) Try.func83 #[.agg #[.int .i64 a0_0, .int .i64 a0_1], .agg #[.int .i64 a1_0, .int .i64 a1_1]] (h := ?_); (with_reducible refine (cY.calls a0_0 a0_1 a1_0 a1_1 false _ A3.out).mono ?_); rintro e w_9 ⟨rfl, hb⟩; refine ⟨_, rfl, ?_⟩; have n0_ := mk_ (bB_ BK276 hb); have n1_ := mk_ (bB_ BK277 hb); have n2_ := mk_ (aI (Short.hB HB) hb); clear BK276 BK277 HB; revert n0_ n1_ n2_; intro BK276 BK277 HB; (try clear hb)) | ((with_reducible refine aT (f := 83) rfl ?_); refine Short.gL (some 9) Try.func83 #[.agg #[.int .i64 a0_0, .int .i64 a0_1], .agg #[.int .i64 a1_0, .int .i64 a1_1]] (h := ?_); (with_reducible refine (cY.calls a0_0 a0_1 a1_0 a1_1 true _ A3.out).mono ?_); rintro e w_9 ⟨rfl, hb⟩; refine ⟨_, rfl, ?_⟩; have n0_ := mk_ (bB_ BK276 hb); have n1_ := mk_ (bB_ BK277 hb); have n2_ := mk_ (aI (Short.hB HB) hb); clear BK276 BK277 HB; revert n0_ n1_ n2_; intro BK276 BK277 HB; (try clear hb); have hcz_0 := aC BK276.out; have hfz_0 := aH BK276.out; have hcz_0 := aC BK277.out; have hfz_0 := aH BK277.out) | (go_at_call 41; (with_reducible refine (bH.calls k _ _ l0_2 _ _ l1_2 _ _ ?side1 ?side2 ?side3 ?side4 A5.out).mono ?_); (case side1 => exact cX_ (aV HR0_2.out HB.out)); (case side2 => exact HC0_2.out); (case side3 => exact cX_ (aV HR1_2.out HB.out)); (case side4 => exact HC1_2.out); rintro e w' ⟨rfl, ⟨nd, rfl⟩⟩) | (go_at_call 42; (with_reducible refine (cE.calls a0_3 a0_4 a0_5 a1_3 a1_4 a1_5 false _ A7.out).mono ?_); rintro e w_x4 ⟨rfl, hb⟩; have n0_ := mk_ (bB_ BK276 hb); have n1_ := mk_ (bB_ BK277 hb); have n2_ := mk_ (aI (Short.hB HB) hb); clear BK276 BK277 HB; revert n0_ n1_ n2_; intro BK276 BK277 HB; (try clear hb); (try clear hb2); (try clear hk); (try clear hi)) | (go_at_call 42; (with_reducible refine (cE.calls a0_3 a0_4 a0_5 a1_3 a1_4 a1_5 true _ A7.out).mono ?_); rintro e w_x4 ⟨rfl, hb⟩; have n0_ := mk_ (bB_ BK276 hb); have n1_ := mk_ (bB_ BK277 hb); have n2_ := mk_ (aI (Short.hB HB) hb); clear BK276 BK277 HB; revert n0_ n1_ n2_; intro BK276 BK277 HB; (try clear hb); (try clear hb2); (try clear hk); (try clear hi); have hcz_0 := aC BK276.out; have hfz_0 := aH BK276.out; have hcz_0 := aC BK277.out; have hfz_0 := aH BK277.out) | (go_at_call 84; (with_reducible refine (bQ.calls k _ _ l0_10 _ _ l1_10 false _ ?side1 ?side2 ?side3 ?side4 A13.out).mono ?_); (case side1 => exact cX_ (aV HR0_10.out HB.out)); (case side2 => exact HC0_10.out); (case side3 => exact cX_ (aV HR1_10.out HB.out)); (case side4 => exact HC1_10.out); rintro e w_x5 ⟨rfl, hb⟩; have n0_ := mk_ (bB_ BK276 hb); have n1_ := mk_ (bB_ BK277 hb); have n2_ := mk_ (aI (Short.hB HB) hb); clear BK276 BK277 HB; revert n0_ n1_ n2_; intro BK276 BK277 HB; (try clear hb); (try clear hb2); (try clear hk); (try clear hi)) | (go_at_call 84; (with_reducible refine (bQ.calls k _ _ l0_10 _ _ l1_10 true _ ?side1 ?side2 ?side3 ?side4 A13.out).mono ?_); (case side1 => exact cX_ (aV HR0_10.out HB.out)); (case side2 => exact HC0_10.out); (case side3 => exact cX_ (aV HR1_10.out HB.out)); (case side4 => exact HC1_10.out); rintro e w_x5 ⟨rfl, hb⟩; have n0_ := mk_ (bB_ BK276 hb); have n1_ := mk_ (bB_ BK277 hb); have n2_ := mk_ (aI (Short.hB HB) hb); clear BK276 BK277 HB; revert n0_ n1_ n2_; intro BK276 BK277 HB; (try clear hb); (try clear hb2); (try clear hk); (try clear hi); have hcz_0 := aC BK276.out; have hfz_0 := aH BK276.out; have hcz_0 := aC BK277.out; have hfz_0 := aH BK277.out) | (go_at_call 81; (with_reducible refine (bI.calls k _ _ l0_11 _ _ l1_11 t282 _ ?side1 ?side2 ?side3 ?side4 A15.out).mono ?_); (case side1 => exact cX_ (aV HR0_11.out HB.out)); (case side2 => exact HC0_11.out); (case side3 => exact cX_ (aV HR1_11.out HB.out)); (case side4 => exact HC1_11.out); rintro e w_x6 ⟨rfl, hb⟩; have n0_ := mk_ (bB_ BK276 hb); have n1_ := mk_ (bB_ BK277 hb); have n2_ := mk_ (aI (Short.hB HB) hb); clear BK276 BK277 HB; revert n0_ n1_ n2_; intro BK276 BK277 HB; (try clear hb); (try clear hb2); (try clear hk); (try clear hi)))
  go_ret
  exact ⟨q0, Short.hB HB⟩
end Go.Proofs.Ytcbfliajgopdaaa.PAll
end
section
namespace Go.Proofs.Ytcbfliajgopdaaa.PAll
open Go.RowKit PrintWords PrintLast PrintMore ZipT PrintWords.Kd PrintMore.Kd
attribute [local go_sem] eC eA eN eR dR dP eD eB   -- for this text's walks alone
set_option linter.unusedVariables false
set_option linter.unusedSimpArgs false
def bR.l0 : Nat → List (S54) → List (S54) → Int → Option (Bool)
 | 0, _, _, _ => none
 | k + 1, x0, x1, x5 => if x5 < (x0.length : Int) then (if 0 ≤ x5 then (if x5 < (x1.length : Int) then ((raddlekeep_Op.f k ((aK x0 x5).f0.f0) ((aK x0 x5).f0.f1) ((aK x0 x5).f1) ((aK x0 x5).f2.f0) ((aK x0 x5).f2.f1) ((aK x0 x5).f2.f2) ((aK x0 x5).f3) ((aK x0 x5).f4) ((aK x0 x5).f5) ((aK x0 x5).f6) ((aK x0 x5).f7) ((aK x0 x5).f8) ((aK x1 x5).f0.f0) ((aK x1 x5).f0.f1) ((aK x1 x5).f1) ((aK x1 x5).f2.f0) ((aK x1 x5).f2.f1) ((aK x1 x5).f2.f2) ((aK x1 x5).f3) ((aK x1 x5).f4) ((aK x1 x5).f5) ((aK x1 x5).f6) ((aK x1 x5).f7) ((aK x1 x5).f8)).bind fun t285 => (if t285 = true then (bR.l0 k x0 x1 (wrap64 (x5 + 1))) else (some false))) else (none)) else (none)) else (some true)
def bR.f (k : Nat) (l0 : List (S54)) (l1 : List (S54)) : Option (Bool) := if (l0.length : Int) = (l1.length : Int) then (bR.l0 k l0 l1 0) else (some false)
def bR.T6 : Bool × List (List Nat × List Nat) := (true, [([], []), ([], []), ([0, 1], [0, 1]), ([2], [2]), ([], []), ([], []), ([4, 5], [4, 5]), ([6], [6]), ([3, 7], [3, 7]), ([8], [8])])
def bR.B6 : List Nat := [0, 0, 3, 7, 0, 0, 48, 112, 255, 511]
theorem bR.tab6 : rtab .any (opsOf Try.f20 6) = bR.T6 := by kernel_rfl
theorem bR.bits6 : waitsOk bR.T6.2 bR.B6 = true := by kernel_rfl
def bR.at (w : World) (p : Addr) (x : S54) (A2 : Option Addr) (c2 : Nat) (A10 : Option Addr) (c10 : Nat) (A11 : Option Addr) (c11 : Nat) : Prop := w.cell? p = some (.int .i64 x.f0.f0) ∧ w.cell? ⟨p.block, p.off + 1, none⟩ = some (.int .i64 x.f0.f1) ∧ w.cell? ⟨p.block, p.off + 2, none⟩ = some (.slice A2 x.f1.length c2) ∧ w.cell? ⟨p.block, p.off + 3, none⟩ = some (.int .i64 x.f2.f0) ∧ w.cell? ⟨p.block, p.off + 4, none⟩ = some (.int .i64 x.f2.f1) ∧ w.cell? ⟨p.block, p.off + 5, none⟩ = some (.int .i64 x.f2.f2) ∧ w.cell? ⟨p.block, p.off + 6, none⟩ = some (.int .i64 x.f3) ∧ w.cell? ⟨p.block, p.off + 7, none⟩ = some (.int .i64 x.f4) ∧ w.cell? ⟨p.block, p.off + 8, none⟩ = some (.string x.f5) ∧ w.cell? ⟨p.block, p.off + 9, none⟩ = some (.int .i64 x.f6) ∧ w.cell? ⟨p.block, p.off + 10, none⟩ = some (.slice A10 x.f7.length c10) ∧ w.cell? ⟨p.block, p.off + 11, none⟩ = some (.slice A11 x.f8.length c11)
theorem bR.up {w w' : World} {p : Addr} {x : S54} {A2 : Option Addr} {c2 : Nat} {A10 : Option Addr} {c10 : Nat} {A11 : Option Addr} {c11 : Nat} (h : bR.at w p x A2 c2 A10 c10 A11 c11) (hb : Below w.heap.size w w') : bR.at w' p x A2 c2 A10 c10 A11 c11 := ⟨(hb.cell (World.block_lt_of_cell? w _ h.1)).trans h.1, (hb.cell (World.block_lt_of_cell? w _ h.2.1)).trans h.2.1, (hb.cell (World.block_lt_of_cell? w _ h.2.2.1)).trans h.2.2.1, (hb.cell (World.block_lt_of_cell? w _ h.2.2.2.1)).trans h.2.2.2.1, (hb.cell (World.block_lt_of_cell? w _ h.2.2.2.2.1)).trans h.2.2.2.2.1, (hb.cell (World.block_lt_of_cell? w _ h.2.2.2.2.2.1)).trans h.2.2.2.2.2.1, (hb.cell (World.block_lt_of_cell? w _ h.2.2.2.2.2.2.1)).trans h.2.2.2.2.2.2.1, (hb.cell (World.block_lt_of_cell? w _ h.2.2.2.2.2.2.2.1)).trans h.2.2.2.2.2.2.2.1, (hb.cell (World.block_lt_of_cell? w _ h.2.2.2.2.2.2.2.2.1)).trans h.2.2.2.2.2.2.2.2.1, (hb.cell (World.block_lt_of_cell? w _ h.2.2.2.2.2.2.2.2.2.1)).trans h.2.2.2.2.2.2.2.2.2.1, (hb.cell (World.block_lt_of_cell? w _ h.2.2.2.2.2.2.2.2.2.2.1)).trans h.2.2.2.2.2.2.2.2.2.2.1, (hb.cell (World.block_lt_of_cell? w _ h.2.2.2.2.2.2.2.2.2.2.2)).trans h.2.2.2.2.2.2.2.2.2.2.2⟩
theorem bR.step {P : Program} {ops : Array Oper} {Q : Exit → Act → World → Prop} {md : Region.Mode} {ds : List Nat} {T : Bool × List (List Nat × List Nat)} {B : List Nat} {S : World → Prop} (off : Nat) (hT : rtab md ops = T) (hB : waitsOk T.2 B = true) {oi : Oper} {v : Value} {fuel n k : Nat} {a : Act} {w : World} (hS : S w) {a' : Act} (hi : ops[k]? = some oi := by rfl) (hN : oi.dst = some (k + off) := by rfl) (hw : (ops[k]?).map (fun o => Region.wanted o (yielded ops a.tmps)) = some true := by kernel_rfl)
  (hy : ∀ w, S w → (execOp a.eval oi).run P w = .ok (.value v) w := by intro w' hS_; obtain ⟨⟨h0_, h1_, h2_, h3_, h4_, h5_, h6_, h7_, h8_, h9_, h10_, h11_⟩, k0_, k1_, k2_, k3_, k4_, k5_, k6_, k7_, k8_, k9_, k10_, k11_⟩ := hS_; go_simp; with_reducible rfl)
  (hc : takeW T B ds (Steps.Pre n k).toList (Steps.Pre n (k + 1)).toList k = true := by kernel_rfl)
  (hQ : ∀ c a w, Q (.panic c) (a.put oi.dst v) w → Q (.panic c) a w := by exact fun _ _ _ h => h)
  (ha : a.put (some (k + off)) v = a' := by simp only [Nat.reduceAdd, Act.put, List.setIfInBounds_toArray, List.set_cons_zero, List.set_cons_succ]; rfl)
  (h : wpAnyLast P md ops Q S ds fuel (Steps.Pre n (k + 1)) a' w) : wpAnyLast P md ops Q S ds (fuel + 1) (Steps.Pre n k) a w :=
  take_ _ hi hN (kN hT hB hc) hQ (Or.inl ⟨Steps.want_ hi hw, hy⟩) hS ha h
theorem bR.calls (k : Nat) (A0 : Option Addr) (c0 : Nat) (l0 : List (S54)) (A1 : Option Addr) (c1 : Nat) (l1 : List (S54)) (r : Bool) (w : World) (hr0 : Kd.C k54 w A0 l0.length l0) (hc0 : l0.length ≤ c0) (hr1 : Kd.C k54 w A1 l1.length l1) (hc1 : l1.length ≤ c1) (h : bR.f k l0 l1 = some r) :
  Calls Try.prog 20 #[.slice A0 l0.length c0, .slice A1 l1.length c1] w fun e w' => e = .returned (.bool r) ∧ Below w.heap.size w w' := by
 have hu54 := Try.underlying54
 have HR0 := mk_ hr0
 have HC0 := mk_ hc0
 clear hr0 hc0
 have HR1 := mk_ hr1
 have HC1 := mk_ hc1
 clear hr1 hc1
 have HB := mk_ (Below.refl w.heap.size w)
 have H : (if (l0.length : Int) = (l1.length : Int) then (bR.l0 k l0 l1 0) else (some false)) = some r := h
 clear h
 by_cases c3 : (l0.length : Int) = (l1.length : Int)
 rotate_left
 ·
  rw [if_neg c3] at H
  have c3b0 : ((l0.length : Int) == (l1.length : Int)) = false := beq_eq_false_iff_ne.mpr c3
  have c3b1 : ((l0.length : Int) != (l1.length : Int)) = true := bne_iff_ne.mpr c3
  have c3b2 : (l0.length == l1.length) = false := by first | simpa using c3 | (simp at c3 ⊢; omega)
  obtain rfl := Option.some.inj H
  go_enter Try.func20, Try.ntmps20
  go_wp2
  go_ret
  exact ⟨q0, Short.hB HB⟩
 rw [if_pos c3] at H
 have c3b0 : ((l0.length : Int) == (l1.length : Int)) = true := beq_iff_eq.mpr c3
 have c3b1 : ((l0.length : Int) != (l1.length : Int)) = false := bne_eq_false_iff_eq.mpr c3
 have c3b2 : (l0.length == l1.length) = true := by first | simpa using c3 | (simp at c3 ⊢; omega)
 clear c3
 have H' := mk_ H
 clear H
 go_enter Try.func20, Try.ntmps20
 go_wp2
 go_loopg [5] k (fun kq v5 w' => ∃ (x5_1 : Int), v5 = .int .i64 x5_1 ∧ Aside0 (bR.l0 kq l0 l1 x5_1 = some r) ∧ Aside0 (kq ≤ k) ∧ Aside0 (Below w.heap.size w w'))
 case atStart => exact ⟨(0), z3_, H', ⟨Nat.le_refl _⟩, ⟨Short.hB HB⟩⟩
 case round =>
  clear H'
  try clear c1
  try clear c3
  try clear c3b0
  try clear c3b1
  try clear c3b2
  obtain ⟨x5_1, rfl, HA, HK1, HB⟩ := hrel
  cases gk with
  | zero => exact absurd HA.out (by simp [bR.l0])
  | succ k1 =>
   have H := HA.out
   clear HA
   simp only [bR.l0] at H
   by_cases c4 : x5_1 < (l0.length : Int)
   rotate_left
   ·
    rw [if_neg c4] at H
    have c4b0 : decide (x5_1 < (l0.length : Int)) = false := decide_eq_false c4
    clear c4
    obtain rfl := Option.some.inj H
    go_wp2
    go_ret
    exact ⟨q0, Short.hB HB⟩
   rw [if_pos c4] at H
   have c4b0 : decide (x5_1 < (l0.length : Int)) = true := decide_eq_true c4
   clear c4
   by_cases c5 : 0 ≤ x5_1
   rotate_left
   ·
    rw [if_neg c5] at H
    exact absurd H (by simp)
   rw [if_pos c5] at H
   have c5b0 : decide (0 ≤ x5_1) = true := decide_eq_true c5
   clear c5
   by_cases c6 : x5_1 < (l1.length : Int)
   rotate_left
   ·
    rw [if_neg c6] at H
    exact absurd H (by simp)
   rw [if_pos c6] at H
   have c6b0 : decide (x5_1 < (l1.length : Int)) = true := decide_eq_true c6
   clear c6
   obtain ⟨t7, A7, H⟩ := Option.bind_eq_some_iff.mp H
   replace A7 := mk_ A7
   have HX := mk_ H
   clear H
   have p0 : 0 ≤ x5_1 := of_decide_eq_true (by assumption)
   have q0 : x5_1 < (l0.length : Int) := of_decide_eq_true (by assumption)
   have q1 : x5_1 < (l1.length : Int) := of_decide_eq_true (by assumption)
   obtain ⟨ad, B2, bc2, B10, bc10, B11, bc11, e0, hx0, hx1, hx2, hx3, hx4, hx5, hx6, hx7, hx8, hx9, hx10, hx11, hs⟩ := eS HR0.out x5_1 p0 q0
   have hxa : bR.at w _ (aK l0 x5_1) B2 bc2 B10 bc10 B11 bc11 := ⟨hx0, hx1, hx2, hx3, hx4, hx5, hx6, hx7, hx8, hx9, hx10, hx11⟩
   clear hx0 hx1 hx2 hx3 hx4 hx5 hx6 hx7 hx8 hx9 hx10 hx11
   have SB := mk_ hs
   clear hs
   obtain ⟨bd, D2, dc2, D10, dc10, D11, dc11, e1, hy0, hy1, hy2, hy3, hy4, hy5, hy6, hy7, hy8, hy9, hy10, hy11, hs⟩ := eS HR1.out x5_1 p0 q1
   have hya : bR.at w _ (aK l1 x5_1) D2 dc2 D10 dc10 D11 dc11 := ⟨hy0, hy1, hy2, hy3, hy4, hy5, hy6, hy7, hy8, hy9, hy10, hy11⟩
   clear hy0 hy1 hy2 hy3 hy4 hy5 hy6 hy7 hy8 hy9 hy10 hy11
   have SD := mk_ hs
   clear hs
   subst e0 e1
   replace p0 := eq_true p0
   replace q0 := eq_true q0
   replace q1 := eq_true q1
   have HXY := mk_ (And.intro hxa hya)
   clear hxa hya
   go_wp2
   refine Steps.start_n (n := 10) (S := fun w' => bR.at w' (ad.add (x5_1.toNat * 12)) (aK l0 x5_1) B2 bc2 B10 bc10 B11 bc11 ∧ bR.at w' (bd.add (x5_1.toNat * 12)) (aK l1 x5_1) D2 dc2 D10 dc10 D11 dc11) (ds := []) (fun W => Below w.heap.size w W) z1_ rfl z1_ (dQ HB.out) (fun W hb0 => ⟨bR.up HXY.out.1 hb0, bR.up HXY.out.2 hb0⟩) (fun W0 hb0 hS0 => ?_)
   refine eK bR.tab6 bR.bits6 (fun HT_ HW_ => ?_)
   clear HB
   iterate 3 refine Steps.nI_ 17 HT_.out (h := ?_)
   refine bR.step 17 HT_.out HW_.out hS0 (h := ?_)
   iterate 3 refine Steps.nI_ 17 HT_.out (h := ?_)
   refine bR.step 17 HT_.out HW_.out hS0 (h := ?_)
   refine one_ (i := 8) (N := some 25) (Steps.Pre 10 9) rfl rfl (fN HT_.out z1_) z4_ (fun K hK => ?_)
   refine goes_ Try.func46 z1_ rfl #[.agg #[.int .i64 (aK l0 x5_1).f0.f0, .int .i64 (aK l0 x5_1).f0.f1, .slice B2 (aK l0 x5_1).f1.length bc2, .int .i64 (aK l0 x5_1).f2.f0, .int .i64 (aK l0 x5_1).f2.f1, .int .i64 (aK l0 x5_1).f2.f2, .int .i64 (aK l0 x5_1).f3, .int .i64 (aK l0 x5_1).f4, .string (aK l0 x5_1).f5, .int .i64 (aK l0 x5_1).f6, .slice B10 (aK l0 x5_1).f7.length bc10, .slice B11 (aK l0 x5_1).f8.length bc11], .agg #[.int .i64 (aK l1 x5_1).f0.f0, .int .i64 (aK l1 x5_1).f0.f1, .slice D2 (aK l1 x5_1).f1.length dc2, .int .i64 (aK l1 x5_1).f2.f0, .int .i64 (aK l1 x5_1).f2.f1, .int .i64 (aK l1 x5_1).f2.f2, .int .i64 (aK l1 x5_1).f3, .int .i64 (aK l1 x5_1).f4, .string (aK l1 x5_1).f5, .int .i64 (aK l1 x5_1).f6, .slice D10 (aK l1 x5_1).f7.length dc10, .slice D11 (aK l1 x5_1).f8.length dc11]] (Steps.want_ (k := 8) rfl z1_) rfl rfl (by first | rfl | (go_simp; done) | (simp; done)) ?_
   refine (raddlekeep_Op.calls k1 _ _ _ _ _ _ _ _ _ _ _ _ _ _ _ _ _ _ _ _ _ _ _ _ _ _ _ _ _ _ _ _ _ _ _ _ t7 _ (aV SB.out.2.1 hb0) SB.out.1 (aV SB.out.2.2.2.1 hb0) SB.out.2.2.1 (aV SB.out.2.2.2.2.2 hb0) SB.out.2.2.2.2.1 (aV SD.out.2.1 hb0) SD.out.1 (aV SD.out.2.2.2.1 hb0) SD.out.2.2.1 (aV SD.out.2.2.2.2.2 hb0) SD.out.2.2.2.2.1 A7.out).mono ?_
   rintro e W1 ⟨rfl, hq⟩
   have hb1 := aI hb0 hq
   refine ⟨_, rfl, ?_⟩
   refine hK.out _ _ ⟨bR.up HXY.out.1 hb1, bR.up HXY.out.2 hb1⟩ (fun hS1 => ?_)
   clear hK K hq hS0 hb0
   refine norm_ (a' := ?_) ?_ ?_
   rotate_left
   ·
    show Act.put _ (some 25) _ = _
    simp only [Act.put, List.setIfInBounds_toArray, List.set_cons_zero, List.set_cons_succ]
    rfl
   refine Steps.nI_ 17 HT_.out (h := ?_)
   cases t7
   ·
    have H := HX.out
    rw [if_neg z4_] at H
    obtain rfl := Option.some.inj H
    refine done_ (eO HT_.out z1_) ?_
    go_wp2
    go_ret
    exact ⟨rfl, hb1⟩
   have H := HX.out
   clear HX
   rw [if_pos rfl] at H
   have HZ := mk_ H
   clear H
   have H' := mk_ HZ.out
   refine done_ (eO HT_.out z1_) ?_
   go_wp2
   go_roundg k1
   case measure => have := HK1.out; omega
   case rel => exact ⟨(wrap64 (x5_1 + 1)), rfl, H', ⟨by have := HK1.out; omega⟩, ⟨hb1⟩⟩
def bU.l0 : Nat → List (List Int) → List (List Int) → Int → Option (Bool)
 | 0, _, _, _ => none
 | k + 1, x0, x1, x5 => if x5 < (x0.length : Int) then (if 0 ≤ x5 then (if x5 < (x1.length : Int) then ((bH.f k (dS x0 x5) (dS x1 x5)).bind fun t288 => (if t288 = true then (bU.l0 k x0 x1 (wrap64 (x5 + 1))) else (some false))) else (none)) else (none)) else (some true)
def bU.f (k : Nat) (l0 : List (List Int)) (l1 : List (List Int)) : Option (Bool) := if (l0.length : Int) = (l1.length : Int) then (bU.l0 k l0 l1 0) else (some false)
theorem bU.calls (k : Nat) (A0 : Option Addr) (c0 : Nat) (l0 : List (List Int)) (A1 : Option Addr) (c1 : Nat) (l1 : List (List Int)) (r : Bool) (w : World) (hr0 : Kd.C (Kd.slice 3 (Kd.int .i64)) w A0 l0.length l0) (hc0 : l0.length ≤ c0) (hr1 : Kd.C (Kd.slice 3 (Kd.int .i64)) w A1 l1.length l1) (hc1 : l1.length ≤ c1) (h : bU.f k l0 l1 = some r) :
  Calls Try.prog 43 #[.slice A0 l0.length c0, .slice A1 l1.length c1] w fun e w' => e = .returned (.bool r) ∧ Drawn0 w w' := by
 have HR0 := mk_ hr0
 have HC0 := mk_ hc0
 clear hr0 hc0
 have HR1 := mk_ hr1
 have HC1 := mk_ hc1
 clear hr1 hc1
 have H : (if (l0.length : Int) = (l1.length : Int) then (bU.l0 k l0 l1 0) else (some false)) = some r := h
 clear h
 by_cases c3 : (l0.length : Int) = (l1.length : Int)
 rotate_left
 ·
  rw [if_neg c3] at H
  have c3b0 : ((l0.length : Int) == (l1.length : Int)) = false := beq_eq_false_iff_ne.mpr c3
  have c3b1 : ((l0.length : Int) != (l1.length : Int)) = true := bne_iff_ne.mpr c3
  have c3b2 : (l0.length == l1.length) = false := by first | simpa using c3 | (simp at c3 ⊢; omega)
  obtain rfl := Option.some.inj H
  go_enter Try.func43, Try.ntmps43
  go_wp2
  repeat (go_quiet (fail); try go_wp2)
  go_ret
  exact ⟨z3_, by repeat (first | exact Drawn0.refl _ | apply Drawn0.step)⟩
 rw [if_pos c3] at H
 have c3b0 : ((l0.length : Int) == (l1.length : Int)) = true := beq_iff_eq.mpr c3
 have c3b1 : ((l0.length : Int) != (l1.length : Int)) = false := bne_eq_false_iff_eq.mpr c3
 have c3b2 : (l0.length == l1.length) = true := by first | simpa using c3 | (simp at c3 ⊢; omega)
 clear c3
 have H' := mk_ H
 clear H
 go_enter Try.func43, Try.ntmps43
 go_wp2
 repeat (go_quiet (fail); try go_wp2)
 go_loopg [5] k (fun kq v5 w' => ∃ (x5_1 : Int), v5 = .int .i64 x5_1 ∧ Aside0 (bU.l0 kq l0 l1 x5_1 = some r) ∧ Aside0 (kq ≤ k) ∧ Drawn0 w w')
 case atStart => exact ⟨(0), z3_, H', ⟨Nat.le_refl _⟩, by repeat (first | exact Drawn0.refl _ | apply Drawn0.step)⟩
 case round =>
  clear H'
  try clear c1
  try clear c3
  try clear c3b0
  try clear c3b1
  try clear c3b2
  obtain ⟨x5_1, rfl, HA, HK1, ⟨m1, rfl⟩⟩ := hrel
  cases gk with
  | zero => exact absurd HA.out (by simp [bU.l0])
  | succ k1 =>
   have H := HA.out
   clear HA
   simp only [bU.l0] at H
   by_cases c4 : x5_1 < (l0.length : Int)
   rotate_left
   ·
    rw [if_neg c4] at H
    have c4b0 : decide (x5_1 < (l0.length : Int)) = false := decide_eq_false c4
    clear c4
    obtain rfl := Option.some.inj H
    go_wp2
    repeat (go_quiet (fail); try go_wp2)
    go_ret
    exact ⟨z3_, by repeat (first | exact Drawn0.refl _ | apply Drawn0.step)⟩
   rw [if_pos c4] at H
   have c4b0 : decide (x5_1 < (l0.length : Int)) = true := decide_eq_true c4
   clear c4
   by_cases c5 : 0 ≤ x5_1
   rotate_left
   ·
    rw [if_neg c5] at H
    exact absurd H (by simp)
   rw [if_pos c5] at H
   have c5b0 : decide (0 ≤ x5_1) = true := decide_eq_true c5
   clear c5
   by_cases c6 : x5_1 < (l1.length : Int)
   rotate_left
   ·
    rw [if_neg c6] at H
    exact absurd H (by simp)
   rw [if_pos c6] at H
   have c6b0 : decide (x5_1 < (l1.length : Int)) = true := decide_eq_true c6
   clear c6
   obtain ⟨t288, A7, H⟩ := Option.bind_eq_some_iff.mp H
   replace A7 := mk_ A7
   by_cases c8 : t288 = true
   rotate_left
   ·
    replace c8 := Bool.eq_false_iff.mpr c8
    subst c8
    rw [if_neg (show ¬ (false = true) by decide)] at H
    obtain rfl := Option.some.inj H
    have p286 : 0 ≤ (x5_1 : Int) := of_decide_eq_true z0_
    have q286 : x5_1 < (l0.length : Int) := of_decide_eq_true z0_
    obtain ⟨ad286, A286_0, c286_0, e286, hx286_0, hl286_0, hi286_0⟩ := iZ HR0.out x5_1 p286 q286
    cases e286
    have HR286_0 := mk_ hi286_0
    have HC286_0 := mk_ hl286_0
    clear hi286_0 hl286_0
    replace p286 := eq_true p286
    replace q286 := eq_true q286
    have p287 : 0 ≤ (x5_1 : Int) := of_decide_eq_true z0_
    have q287 : x5_1 < (l1.length : Int) := of_decide_eq_true z0_
    obtain ⟨ad287, A287_0, c287_0, e287, hx287_0, hl287_0, hi287_0⟩ := iZ HR1.out x5_1 p287 q287
    cases e287
    have HR287_0 := mk_ hi287_0
    have HC287_0 := mk_ hl287_0
    clear hi287_0 hl287_0
    replace p287 := eq_true p287
    replace q287 := eq_true q287
    go_wp2_with (first | (go_at_call 41; (with_reducible refine (bH.calls k1 _ _ (dS l0 x5_1) _ _ (dS l1 x5_1) false _ ?side1 ?side2 ?side3 ?side4 A7.out).mono ?_); (case side1 => repeat (first | exact HR286_0.out | (with_reducible refine C_alloc ?_ _) | (with_reducible refine C_drewN ?_ _) | (with_reducible refine C_drew ?_))); (case side2 => exact HC286_0.out); (case side3 => repeat (first | exact HR287_0.out | (with_reducible refine C_alloc ?_ _) | (with_reducible refine C_drewN ?_ _) | (with_reducible refine C_drew ?_))); (case side4 => exact HC287_0.out); rintro e w' ⟨rfl, ⟨nd, rfl⟩⟩; (try first | exact ⟨rfl, _, World.drewN_drewN _ _ _⟩ | exact ⟨rfl, _, Eq.trans (World.drewN_drewN _ _ _) (congrArg (World.drewN _) (Nat.add_assoc _ _ _))⟩)))
    repeat (go_quiet (first | (go_at_call 41; (with_reducible refine (bH.calls k1 _ _ (dS l0 x5_1) _ _ (dS l1 x5_1) false _ ?side1 ?side2 ?side3 ?side4 A7.out).mono ?_); (case side1 => repeat (first | exact HR286_0.out | (with_reducible refine C_alloc ?_ _) | (with_reducible refine C_drewN ?_ _) | (with_reducible refine C_drew ?_))); (case side2 => exact HC286_0.out); (case side3 => repeat (first | exact HR287_0.out | (with_reducible refine C_alloc ?_ _) | (with_reducible refine C_drewN ?_ _) | (with_reducible refine C_drew ?_))); (case side4 => exact HC287_0.out); rintro e w' ⟨rfl, ⟨nd, rfl⟩⟩; (try first | exact ⟨rfl, _, World.drewN_drewN _ _ _⟩ | exact ⟨rfl, _, Eq.trans (World.drewN_drewN _ _ _) (congrArg (World.drewN _) (Nat.add_assoc _ _ _))⟩))); try go_wp2_with (first | (go_at_call 41; (with_reducible refine (bH.calls k1 _ _ (dS l0 x5_1) _ _ (dS l1 x5_1) false _ ?side1 ?side2 ?side3 ?side4 A7.out).mono ?_); (case side1 => repeat (first | exact HR286_0.out | (with_reducible refine C_alloc ?_ _) | (with_reducible refine C_drewN ?_ _) | (with_reducible refine C_drew ?_))); (case side2 => exact HC286_0.out); (case side3 => repeat (first | exact HR287_0.out | (with_reducible refine C_alloc ?_ _) | (with_reducible refine C_drewN ?_ _) | (with_reducible refine C_drew ?_))); (case side4 => exact HC287_0.out); rintro e w' ⟨rfl, ⟨nd, rfl⟩⟩; (try first | exact ⟨rfl, _, World.drewN_drewN _ _ _⟩ | exact ⟨rfl, _, Eq.trans (World.drewN_drewN _ _ _) (congrArg (World.drewN _) (Nat.add_assoc _ _ _))⟩))))
    go_ret
    exact ⟨z3_, by repeat (first | exact Drawn0.refl _ | apply Drawn0.step)⟩
   subst c8
   rw [if_pos rfl] at H
   have H' := mk_ H
   clear H
   have p286 : 0 ≤ (x5_1 : Int) := of_decide_eq_true z0_
   have q286 : x5_1 < (l0.length : Int) := of_decide_eq_true z0_
   obtain ⟨ad286, A286_0, c286_0, e286, hx286_0, hl286_0, hi286_0⟩ := iZ HR0.out x5_1 p286 q286
   cases e286
   have HR286_0 := mk_ hi286_0
   have HC286_0 := mk_ hl286_0
   clear hi286_0 hl286_0
   replace p286 := eq_true p286
   replace q286 := eq_true q286
   have p287 : 0 ≤ (x5_1 : Int) := of_decide_eq_true z0_
   have q287 : x5_1 < (l1.length : Int) := of_decide_eq_true z0_
   obtain ⟨ad287, A287_0, c287_0, e287, hx287_0, hl287_0, hi287_0⟩ := iZ HR1.out x5_1 p287 q287
   cases e287
   have HR287_0 := mk_ hi287_0
   have HC287_0 := mk_ hl287_0
   clear hi287_0 hl287_0
   replace p287 := eq_true p287
   replace q287 := eq_true q287
   go_wp2_with (first | (go_at_call 41; (with_reducible refine (bH.calls k1 _ _ (dS l0 x5_1) _ _ (dS l1 x5_1) true _ ?side1 ?side2 ?side3 ?side4 A7.out).mono ?_); (case side1 => repeat (first | exact HR286_0.out | (with_reducible refine C_alloc ?_ _) | (with_reducible refine C_drewN ?_ _) | (with_reducible refine C_drew ?_))); (case side2 => exact HC286_0.out); (case side3 => repeat (first | exact HR287_0.out | (with_reducible refine C_alloc ?_ _) | (with_reducible refine C_drewN ?_ _) | (with_reducible refine C_drew ?_))); (case side4 => exact HC287_0.out); rintro e w' ⟨rfl, ⟨nd, rfl⟩⟩; (try first | exact ⟨rfl, _, World.drewN_drewN _ _ _⟩ | exact ⟨rfl, _, Eq.trans (World.drewN_drewN _ _ _) (congrArg (World.drewN _) (Nat.add_assoc _ _ _))⟩)))
   repeat (go_quiet (first | (go_at_call 41; (with_reducible refine (bH.calls k1 _ _ (dS l0 x5_1) _ _ (dS l1 x5_1) true _ ?side1 ?side2 ?side3 ?side4 A7.out).mono ?_); (case side1 => repeat (first | exact HR286_0.out | (with_reducible refine C_alloc ?_ _) | (with_reducible refine C_drewN ?_ _) | (with_reducible refine C_drew ?_))); (case side2 => exact HC286_0.out); (case side3 => repeat (first | exact HR287_0.out | (with_reducible refine C_alloc ?_ _) | (with_reducible refine C_drewN ?_ _) | (with_reducible refine C_drew ?_))); (case side4 => exact HC287_0.out); rintro e w' ⟨rfl, ⟨nd, rfl⟩⟩; (try first | exact ⟨rfl, _, World.drewN_drewN _ _ _⟩ | exact ⟨rfl, _, Eq.trans (World.drewN_drewN _ _ _) (congrArg (World.drewN _) (Nat.add_assoc _ _ _))⟩))); try go_wp2_with (first | (go_at_call 41; (with_reducible refine (bH.calls k1 _ _ (dS l0 x5_1) _ _ (dS l1 x5_1) true _ ?side1 ?side2 ?side3 ?side4 A7.out).mono ?_); (case side1 => repeat (first | exact HR286_0.out | (with_reducible refine C_alloc ?_ _) | (with_reducible refine C_drewN ?_ _) | (with_reducible refine C_drew ?_))); (case side2 => exact HC286_0.out); (case side3 => repeat (first | exact HR287_0.out | (with_reducible refine C_alloc ?_ _) | (with_reducible refine C_drewN ?_ _) | (with_reducible refine C_drew ?_))); (case side4 => exact HC287_0.out); rintro e w' ⟨rfl, ⟨nd, rfl⟩⟩; (try first | exact ⟨rfl, _, World.drewN_drewN _ _ _⟩ | exact ⟨rfl, _, Eq.trans (World.drewN_drewN _ _ _) (congrArg (World.drewN _) (Nat.add_assoc _ _ _))⟩))))
   go_roundg k1
   case measure => have := HK1.out; omega
   case rel => exact ⟨(wrap64 (x5_1 + 1)), z3_, H', ⟨by have := HK1.out; omega⟩, by repeat (first | exact Drawn0.refl _ | apply Drawn0.step)⟩
end Go.Proofs.Ytcbfliajgopdaaa.PAll
end
section
namespace Go.Proofs.Ytcbfliajgopdaaa.PAll
open Go.RowKit PrintWords PrintLast PrintMore ZipT PrintWords.Kd PrintMore.Kd
attribute [local go_sem] eC eA eN eR dR dP eD eB   -- for this text's walks alone
set_option linter.unusedVariables false
set_option linter.unusedSimpArgs false
def aY.l0 : Nat → List (S91) → List (S91) → Int → Option (Bool)
 | 0, _, _, _ => none
 | k + 1, x0, x1, x5 => if x5 < (x0.length : Int) then (if 0 ≤ x5 then (if x5 < (x1.length : Int) then ((dD.f ((aZ x0 x5).f0.f0) ((aZ x0 x5).f0.f1) ((aZ x0 x5).f0.f2) ((aZ x1 x5).f0.f0) ((aZ x1 x5).f0.f1) ((aZ x1 x5).f0.f2)).bind fun t291 => (if t291 = true then ((cE.f ((aZ x0 x5).f1.f0) ((aZ x0 x5).f1.f1) ((aZ x0 x5).f1.f2) ((aZ x1 x5).f1.f0) ((aZ x1 x5).f1.f1) ((aZ x1 x5).f1.f2)).bind fun t294 => (if t294 = true then ((cY.f ((aZ x0 x5).f2.f0) ((aZ x0 x5).f2.f1) ((aZ x1 x5).f2.f0) ((aZ x1 x5).f2.f1)).bind fun t297 => (if t297 = true then (aY.l0 k x0 x1 (wrap64 (x5 + 1))) else (some false))) else (some false))) else (some false))) else (none)) else (none)) else (some true)
def aY.f (k : Nat) (l0 : List (S91)) (l1 : List (S91)) : Option (Bool) := if (l0.length : Int) = (l1.length : Int) then (aY.l0 k l0 l1 0) else (some false)
def aY.T6 : Bool × List (List Nat × List Nat) := (true, [([], []), ([], []), ([0, 1], [0, 1]), ([2], [2]), ([3], [3]), ([], []), ([], []), ([5, 6], [5, 6]), ([7], [7]), ([8], [8]), ([4, 9], [4, 9]), ([10], [10]), ([11, 10], [11]), ([12], [12]), ([12], [12]), ([13, 14, 12], [12, 13, 14]), ([15, 12], [12, 15]), ([16, 12], [12, 16]), ([12], [12]), ([12], [12]), ([18, 19, 12], [12, 18, 19]), ([20, 12], [12, 20]), ([21, 12], [12, 21]), ([17, 22, 12, 12], [12, 17, 22]), ([23, 12], [12, 23]), ([12, 24], [12, 24]), ([25, 23], [25]), ([26], [26]), ([26], [26]), ([27, 28, 26], [26, 27, 28]), ([29, 26], [26, 29]), ([30, 26], [26, 30]), ([26], [26]), ([26], [26]), ([32, 33, 26], [26, 32, 33]), ([34, 26], [26, 34]), ([35, 26], [26, 35]), ([31, 36, 26, 26], [26, 31, 36]), ([37, 26], [26, 37]), ([26, 38], [26, 38])])
def aY.B6 : List Nat := [0, 0, 3, 7, 15, 0, 0, 96, 224, 480, 1023, 2047, 4095, 8191, 8191, 32767, 65535, 131071, 8191, 8191, 794623, 1843199, 3940351, 8388607, 16777215, 33554431, 67108863, 134217727, 134217727, 536870911, 1073741823, 2147483647, 134217727, 134217727, 13019119615, 30198988799, 64558727167, 137438953471, 274877906943, 549755813887]
theorem aY.tab6 : rtab .any (opsOf Try.f82 6) = aY.T6 := by kernel_rfl
theorem aY.bits6 : waitsOk aY.T6.2 aY.B6 = true := by kernel_rfl
def aY.at (w : World) (p : Addr) (x : S91) : Prop := w.cell? p = some (.int .i64 x.f0.f0) ∧ w.cell? ⟨p.block, p.off + 1, none⟩ = some (.int .i64 x.f0.f1) ∧ w.cell? ⟨p.block, p.off + 2, none⟩ = some (.string x.f0.f2) ∧ w.cell? ⟨p.block, p.off + 3, none⟩ = some (.int .i64 x.f1.f0) ∧ w.cell? ⟨p.block, p.off + 4, none⟩ = some (.int .i64 x.f1.f1) ∧ w.cell? ⟨p.block, p.off + 5, none⟩ = some (.int .i64 x.f1.f2) ∧ w.cell? ⟨p.block, p.off + 6, none⟩ = some (.int .i64 x.f2.f0) ∧ w.cell? ⟨p.block, p.off + 7, none⟩ = some (.int .i64 x.f2.f1)
theorem aY.up {w w' : World} {p : Addr} {x : S91} (h : aY.at w p x) (hb : Below w.heap.size w w') : aY.at w' p x := ⟨(hb.cell (World.block_lt_of_cell? w _ h.1)).trans h.1, (hb.cell (World.block_lt_of_cell? w _ h.2.1)).trans h.2.1, (hb.cell (World.block_lt_of_cell? w _ h.2.2.1)).trans h.2.2.1, (hb.cell (World.block_lt_of_cell? w _ h.2.2.2.1)).trans h.2.2.2.1, (hb.cell (World.block_lt_of_cell? w _ h.2.2.2.2.1)).trans h.2.2.2.2.1, (hb.cell (World.block_lt_of_cell? w _ h.2.2.2.2.2.1)).trans h.2.2.2.2.2.1, (hb.cell (World.block_lt_of_cell? w _ h.2.2.2.2.2.2.1)).trans h.2.2.2.2.2.2.1, (hb.cell (World.block_lt_of_cell? w _ h.2.2.2.2.2.2.2)).trans h.2.2.2.2.2.2.2⟩
theorem aY.step {P : Program} {ops : Array Oper} {Q : Exit → Act → World → Prop} {md : Region.Mode} {ds : List Nat} {T : Bool × List (List Nat × List Nat)} {B : List Nat} {S : World → Prop} (off : Nat) (hT : rtab md ops = T) (hB : waitsOk T.2 B = true) {oi : Oper} {v : Value} {fuel n k : Nat} {a : Act} {w : World} (hS : S w) {a' : Act} (hi : ops[k]? = some oi := by rfl) (hN : oi.dst = some (k + off) := by rfl) (hw : (ops[k]?).map (fun o => Region.wanted o (yielded ops a.tmps)) = some true := by kernel_rfl)
  (hy : ∀ w, S w → (execOp a.eval oi).run P w = .ok (.value v) w := by intro w' hS_; obtain ⟨⟨h0_, h1_, h2_, h3_, h4_, h5_, h6_, h7_⟩, k0_, k1_, k2_, k3_, k4_, k5_, k6_, k7_⟩ := hS_; go_simp; with_reducible rfl)
  (hc : takeW T B ds (Steps.Pre n k).toList (Steps.Pre n (k + 1)).toList k = true := by kernel_rfl)
  (hQ : ∀ c a w, Q (.panic c) (a.put oi.dst v) w → Q (.panic c) a w := by exact fun _ _ _ h => h)
  (ha : a.put (some (k + off)) v = a' := by simp only [Nat.reduceAdd, Act.put, List.setIfInBounds_toArray, List.set_cons_zero, List.set_cons_succ]; rfl)
  (h : wpAnyLast P md ops Q S ds fuel (Steps.Pre n (k + 1)) a' w) : wpAnyLast P md ops Q S ds (fuel + 1) (Steps.Pre n k) a w :=
  take_ _ hi hN (kN hT hB hc) hQ (Or.inl ⟨Steps.want_ hi hw, hy⟩) hS ha h
theorem aY.calls (k : Nat) (A0 : Option Addr) (c0 : Nat) (l0 : List (S91)) (A1 : Option Addr) (c1 : Nat) (l1 : List (S91)) (r : Bool) (w : World) (hr0 : Kd.C k91 w A0 l0.length l0) (hc0 : l0.length ≤ c0) (hr1 : Kd.C k91 w A1 l1.length l1) (hc1 : l1.length ≤ c1) (h : aY.f k l0 l1 = some r) :
  Calls Try.prog 82 #[.slice A0 l0.length c0, .slice A1 l1.length c1] w fun e w' => e = .returned (.bool r) ∧ Below w.heap.size w w' := by
 have hu89 := Try.underlying89
 have hu26 := Try.underlying26
 have hu50 := Try.underlying50
 have HR0 := mk_ hr0
 have HC0 := mk_ hc0
 clear hr0 hc0
 have HR1 := mk_ hr1
 have HC1 := mk_ hc1
 clear hr1 hc1
 have HB := mk_ (Below.refl w.heap.size w)
 have H : (if (l0.length : Int) = (l1.length : Int) then (aY.l0 k l0 l1 0) else (some false)) = some r := h
 clear h
 by_cases c3 : (l0.length : Int) = (l1.length : Int)
 rotate_left
 ·
  rw [if_neg c3] at H
  have c3b0 : ((l0.length : Int) == (l1.length : Int)) = false := beq_eq_false_iff_ne.mpr c3
  have c3b1 : ((l0.length : Int) != (l1.length : Int)) = true := bne_iff_ne.mpr c3
  have c3b2 : (l0.length == l1.length) = false := by first | simpa using c3 | (simp at c3 ⊢; omega)
  obtain rfl := Option.some.inj H
  go_enter Try.func82, Try.ntmps82
  go_wp2
  go_ret
  exact ⟨q0, Short.hB HB⟩
 rw [if_pos c3] at H
 have c3b0 : ((l0.length : Int) == (l1.length : Int)) = true := beq_iff_eq.mpr c3
 have c3b1 : ((l0.length : Int) != (l1.length : Int)) = false := bne_eq_false_iff_eq.mpr c3
 have c3b2 : (l0.length == l1.length) = true := by first | simpa using c3 | (simp at c3 ⊢; omega)
 clear c3
 have H' := mk_ H
 clear H
 go_enter Try.func82, Try.ntmps82
 go_wp2
 go_loopg [5] k (fun kq v5 w' => ∃ (x5_1 : Int), v5 = .int .i64 x5_1 ∧ Aside0 (aY.l0 kq l0 l1 x5_1 = some r) ∧ Aside0 (kq ≤ k) ∧ Aside0 (Below w.heap.size w w'))
 case atStart => exact ⟨(0), z3_, H', ⟨Nat.le_refl _⟩, ⟨Short.hB HB⟩⟩
 case round =>
  clear H'
  try clear c1
  try clear c3
  try clear c3b0
  try clear c3b1
  try clear c3b2
  obtain ⟨x5_1, rfl, HA, HK1, HB⟩ := hrel
  cases gk with
  | zero => exact absurd HA.out (by simp [aY.l0])
  | succ k1 =>
   have H := HA.out
   clear HA
   simp only [aY.l0] at H
   by_cases c4 : x5_1 < (l0.length : Int)
   rotate_left
   ·
    rw [if_neg c4] at H
    have c4b0 : decide (x5_1 < (l0.length : Int)) = false := decide_eq_false c4
    clear c4
    obtain rfl := Option.some.inj H
    go_wp2
    go_ret
    exact ⟨q0, Short.hB HB⟩
   rw [if_pos c4] at H
   have c4b0 : decide (x5_1 < (l0.length : Int)) = true := decide_eq_true c4
   clear c4
   by_cases c5 : 0 ≤ x5_1
   rotate_left
   ·
    rw [if_neg c5] at H
    exact absurd H (by simp)
   rw [if_pos c5] at H
   have c5b0 : decide (0 ≤ x5_1) = true := decide_eq_true c5
   clear c5
   by_cases c6 : x5_1 < (l1.length : Int)
   rotate_left
   ·
    rw [if_neg c6] at H
    exact absurd H (by simp)
   rw [if_pos c6] at H
   have c6b0 : decide (x5_1 < (l1.length : Int)) = true := decide_eq_true c6
   clear c6
   obtain ⟨t7, A7, H⟩ := Option.bind_eq_some_iff.mp H
   replace A7 := mk_ A7
   have HX := mk_ H
   clear H
   have p0 : 0 ≤ x5_1 := of_decide_eq_true (by assumption)
   have q0 : x5_1 < (l0.length : Int) := of_decide_eq_true (by assumption)
   have q1 : x5_1 < (l1.length : Int) := of_decide_eq_true (by assumption)
   obtain ⟨ad, e0, hx⟩ := gA HR0.out x5_1 p0 q0
   obtain ⟨bd, e1, hy⟩ := gA HR1.out x5_1 p0 q1
   subst e0 e1
   replace p0 := eq_true p0
   replace q0 := eq_true q0
   replace q1 := eq_true q1
   have hxa : aY.at w _ (aZ l0 x5_1) := hx
   have hya : aY.at w _ (aZ l1 x5_1) := hy
   clear hx hy
   have HXY := mk_ (And.intro hxa hya)
   clear hxa hya
   go_wp2
   refine Steps.start_n (n := 40) (S := fun w' => aY.at w' (ad.add (x5_1.toNat * 8)) (aZ l0 x5_1) ∧ aY.at w' (bd.add (x5_1.toNat * 8)) (aZ l1 x5_1)) (ds := []) (fun W => Below w.heap.size w W) z1_ rfl z1_ (dQ HB.out) (fun W hb0 => ⟨aY.up HXY.out.1 hb0, aY.up HXY.out.2 hb0⟩) (fun W0 hb0 hS0 => ?_)
   refine eK aY.tab6 aY.bits6 (fun HT_ HW_ => ?_)
   clear HB
   iterate 4 refine Steps.nI_ 17 HT_.out (h := ?_)
   refine aY.step 17 HT_.out HW_.out hS0 (h := ?_)
   iterate 4 refine Steps.nI_ 17 HT_.out (h := ?_)
   refine aY.step 17 HT_.out HW_.out hS0 (h := ?_)
   refine one_ (i := 10) (N := some 27) (Steps.Pre 40 11) rfl rfl (fN HT_.out z1_) z4_ (fun K hK => ?_)
   refine goes_ Try.func102 z1_ rfl #[.agg #[.int .i64 (aZ l0 x5_1).f0.f0, .int .i64 (aZ l0 x5_1).f0.f1, .string (aZ l0 x5_1).f0.f2], .agg #[.int .i64 (aZ l1 x5_1).f0.f0, .int .i64 (aZ l1 x5_1).f0.f1, .string (aZ l1 x5_1).f0.f2]] (Steps.want_ (k := 10) rfl z1_) rfl rfl (by first | rfl | (go_simp; done) | (simp; done)) ?_
   refine (dD.calls (aZ l0 x5_1).f0.f0 (aZ l0 x5_1).f0.f1 (aZ l0 x5_1).f0.f2 (aZ l1 x5_1).f0.f0 (aZ l1 x5_1).f0.f1 (aZ l1 x5_1).f0.f2 t7 _ A7.out).mono ?_
   rintro e W1 ⟨rfl, hq⟩
   have hb1 := aI hb0 hq
   refine ⟨_, rfl, ?_⟩
   refine hK.out _ _ ⟨aY.up HXY.out.1 hb1, aY.up HXY.out.2 hb1⟩ (fun hS1 => ?_)
   clear hK K hq hS0 hb0
   refine norm_ (a' := ?_) ?_ ?_
   rotate_left
   ·
    show Act.put _ (some 27) _ = _
    simp only [Act.put, List.setIfInBounds_toArray, List.set_cons_zero, List.set_cons_succ]
    rfl
   cases t7
   ·
    have H := HX.out
    rw [if_neg z4_] at H
    obtain rfl := Option.some.inj H
    iterate 2 refine Steps.nI_ 17 HT_.out (h := ?_)
    iterate 12 refine Steps.nR_ 17 HT_.out (h := ?_)
    iterate 2 refine Steps.nI_ 17 HT_.out (h := ?_)
    iterate 12 refine Steps.nR_ 17 HT_.out (h := ?_)
    refine Steps.nI_ 17 HT_.out (h := ?_)
    refine done_ (eO HT_.out z1_) ?_
    go_wp2
    go_ret
    exact ⟨rfl, hb1⟩
   have H := HX.out
   clear HX
   rw [if_pos rfl] at H
   obtain ⟨t9, A9, H⟩ := Option.bind_eq_some_iff.mp H
   replace A9 := mk_ A9
   have HX := mk_ H
   clear H
   iterate 6 refine Steps.nI_ 17 HT_.out (h := ?_)
   refine aY.step 17 HT_.out HW_.out hS1 (h := ?_)
   iterate 4 refine Steps.nI_ 17 HT_.out (h := ?_)
   refine aY.step 17 HT_.out HW_.out hS1 (h := ?_)
   refine one_ (i := 23) (N := some 40) (Steps.Pre 40 24) rfl rfl (fN HT_.out z1_) z4_ (fun K hK => ?_)
   refine goes_ Try.func42 z1_ rfl #[.agg #[.int .i64 (aZ l0 x5_1).f1.f0, .int .i64 (aZ l0 x5_1).f1.f1, .int .i64 (aZ l0 x5_1).f1.f2], .agg #[.int .i64 (aZ l1 x5_1).f1.f0, .int .i64 (aZ l1 x5_1).f1.f1, .int .i64 (aZ l1 x5_1).f1.f2]] (Steps.want_ (k := 23) rfl z1_) rfl rfl (by first | rfl | (go_simp; done) | (simp; done)) ?_
   refine (cE.calls (aZ l0 x5_1).f1.f0 (aZ l0 x5_1).f1.f1 (aZ l0 x5_1).f1.f2 (aZ l1 x5_1).f1.f0 (aZ l1 x5_1).f1.f1 (aZ l1 x5_1).f1.f2 t9 _ A9.out).mono ?_
   rintro e W2 ⟨rfl, hq⟩
   have hb2 := aI hb1 hq
   refine ⟨_, rfl, ?_⟩
   refine hK.out _ _ ⟨aY.up HXY.out.1 hb2, aY.up HXY.out.2 hb2⟩ (fun hS2 => ?_)
   clear hK K hq hS1 hb1
   refine norm_ (a' := ?_) ?_ ?_
   rotate_left
   ·
    show Act.put _ (some 40) _ = _
    simp only [Act.put, List.setIfInBounds_toArray, List.set_cons_zero, List.set_cons_succ]
    rfl
   cases t9
   ·
    have H := HX.out
    rw [if_neg z4_] at H
    obtain rfl := Option.some.inj H
    iterate 3 refine Steps.nI_ 17 HT_.out (h := ?_)
    iterate 12 refine Steps.nR_ 17 HT_.out (h := ?_)
    refine Steps.nI_ 17 HT_.out (h := ?_)
    refine done_ (eO HT_.out z1_) ?_
    go_wp2
    go_ret
    exact ⟨rfl, hb2⟩
   have H := HX.out
   clear HX
   rw [if_pos rfl] at H
   obtain ⟨t11, A11, H⟩ := Option.bind_eq_some_iff.mp H
   replace A11 := mk_ A11
   have HX := mk_ H
   clear H
   iterate 7 refine Steps.nI_ 17 HT_.out (h := ?_)
   refine aY.step 17 HT_.out HW_.out hS2 (h := ?_)
   iterate 4 refine Steps.nI_ 17 HT_.out (h := ?_)
   refine aY.step 17 HT_.out HW_.out hS2 (h := ?_)
   refine one_ (i := 37) (N := some 54) (Steps.Pre 40 38) rfl rfl (fN HT_.out z1_) z4_ (fun K hK => ?_)
   refine goes_ Try.func83 z1_ rfl #[.agg #[.int .i64 (aZ l0 x5_1).f2.f0, .int .i64 (aZ l0 x5_1).f2.f1], .agg #[.int .i64 (aZ l1 x5_1).f2.f0, .int .i64 (aZ l1 x5_1).f2.f1]] (Steps.want_ (k := 37) rfl z1_) rfl rfl (by first | rfl | (go_simp; done) | (simp; done)) ?_
   refine (cY.calls (aZ l0 x5_1).f2.f0 (aZ l0 x5_1).f2.f1 (aZ l1 x5_1).f2.f0 (aZ l1 x5_1).f2.f1 t11 _ A11.out).mono ?_
   rintro e W3 ⟨rfl, hq⟩
   have hb3 := aI hb2 hq
   refine ⟨_, rfl, ?_⟩
   refine hK.out _ _ ⟨aY.up HXY.out.1 hb3, aY.up HXY.out.2 hb3⟩ (fun hS3 => ?_)
   clear hK K hq hS2 hb2
   refine norm_ (a' := ?_) ?_ ?_
   rotate_left
   ·
    show Act.put _ (some 54) _ = _
    simp only [Act.put, List.setIfInBounds_toArray, List.set_cons_zero, List.set_cons_succ]
    rfl
   cases t11
   ·
    have H := HX.out
    rw [if_neg z4_] at H
    obtain rfl := Option.some.inj H
    iterate 2 refine Steps.nI_ 17 HT_.out (h := ?_)
    refine done_ (eO HT_.out z1_) ?_
    go_wp2
    go_ret
    exact ⟨rfl, hb3⟩
   have H := HX.out
   clear HX
   rw [if_pos rfl] at H
   have HZ := mk_ H
   clear H
   iterate 2 refine Steps.nI_ 17 HT_.out (h := ?_)
   have H' := mk_ HZ.out
   refine done_ (eO HT_.out z1_) ?_
   go_wp2
   go_roundg k1
   case measure => have := HK1.out; omega
   case rel => exact ⟨(wrap64 (x5_1 + 1)), rfl, H', ⟨by have := HK1.out; omega⟩, ⟨hb3⟩⟩
end Go.Proofs.Ytcbfliajgopdaaa.PAll
end
section
namespace Go.Proofs.Ytcbfliajgopdaaa.PAll
open Go.RowKit PrintWords PrintLast PrintMore ZipT PrintWords.Kd PrintMore.Kd
attribute [local go_sem] eC eA eN eR dR dP eD eB   -- for this text's walks alone
set_option linter.unusedVariables false
set_option linter.unusedSimpArgs false
def aW.l0 : Nat → List (S80) → List (S80) → Int → Option (Bool)
 | 0, _, _, _ => none
 | k + 1, x0, x1, x5 => if x5 < (x0.length : Int) then (if 0 ≤ x5 then (if x5 < (x1.length : Int) then (if ((aU x0 x5).f0).toList = ((aU x1 x5).f0).toList then ((bI.f k ((aU x0 x5).f1) ((aU x1 x5).f1)).bind fun t302 => (if t302 = true then ((aY.f k ((aU x0 x5).f2) ((aU x1 x5).f2)).bind fun t305 => (if t305 = true then (aW.l0 k x0 x1 (wrap64 (x5 + 1))) else (some false))) else (some false))) else (some false)) else (none)) else (none)) else (some true)
def aW.f (k : Nat) (l0 : List (S80)) (l1 : List (S80)) : Option (Bool) := if (l0.length : Int) = (l1.length : Int) then (aW.l0 k l0 l1 0) else (some false)
def aW.T6 : Bool × List (List Nat × List Nat) := (true, [([], []), ([], []), ([0, 1], [0, 1]), ([2], [2]), ([3], [3]), ([], []), ([], []), ([5, 6], [5, 6]), ([7], [7]), ([8], [8]), ([4, 9], [4, 9]), ([10], [10]), ([11], [11]), ([11], [11]), ([12, 13, 11], [11, 12, 13]), ([14, 11], [11, 14]), ([15, 11], [11, 15]), ([11], [11]), ([11], [11]), ([17, 18, 11], [11, 17, 18]), ([19, 11], [11, 19]), ([20, 11], [11, 20]), ([16, 21, 11, 11], [11, 16, 21]), ([22, 11], [11, 22]), ([11, 23], [11, 23]), ([24, 22], [24]), ([25], [25]), ([25], [25]), ([26, 27, 25], [25, 26, 27]), ([28, 25], [25, 28]), ([29, 25], [25, 29]), ([25], [25]), ([25], [25]), ([31, 32, 25], [25, 31, 32]), ([33, 25], [25, 33]), ([34, 25], [25, 34]), ([30, 35, 25, 25], [25, 30, 35]), ([36, 25], [25, 36]), ([25, 37], [25, 37])])
def aW.B6 : List Nat := [0, 0, 3, 7, 15, 0, 0, 96, 224, 480, 1023, 2047, 4095, 4095, 16383, 32767, 65535, 4095, 4095, 397311, 921599, 1970175, 4194303, 8388607, 16777215, 33554431, 67108863, 67108863, 268435455, 536870911, 1073741823, 67108863, 67108863, 6509559807, 15099494399, 32279363583, 68719476735, 137438953471, 274877906943]
theorem aW.tab6 : rtab .any (opsOf Try.f44 6) = aW.T6 := by kernel_rfl
theorem aW.bits6 : waitsOk aW.T6.2 aW.B6 = true := by kernel_rfl
def aW.at (w : World) (p : Addr) (x : S80) (A1 : Option Addr) (A2 : Option Addr) (c1 : Nat) (c2 : Nat) : Prop := w.cell? p = some (.string x.f0) ∧ w.cell? ⟨p.block, p.off + 1, none⟩ = some (.slice A1 x.f1.length c1) ∧ w.cell? ⟨p.block, p.off + 2, none⟩ = some (.slice A2 x.f2.length c2)
theorem aW.up {w w' : World} {p : Addr} {x : S80} {A1 : Option Addr} {A2 : Option Addr} {c1 : Nat} {c2 : Nat} (h : aW.at w p x A1 A2 c1 c2) (hb : Below w.heap.size w w') : aW.at w' p x A1 A2 c1 c2 := ⟨(hb.cell (World.block_lt_of_cell? w _ h.1)).trans h.1, (hb.cell (World.block_lt_of_cell? w _ h.2.1)).trans h.2.1, (hb.cell (World.block_lt_of_cell? w _ h.2.2)).trans h.2.2⟩
theorem aW.step {P : Program} {ops : Array Oper} {Q : Exit → Act → World → Prop} {md : Region.Mode} {ds : List Nat} {T : Bool × List (List Nat × List Nat)} {B : List Nat} {S : World → Prop} (off : Nat) (hT : rtab md ops = T) (hB : waitsOk T.2 B = true) {oi : Oper} {v : Value} {fuel n k : Nat} {a : Act} {w : World} (hS : S w) {a' : Act} (hi : ops[k]? = some oi := by rfl) (hN : oi.dst = some (k + off) := by rfl) (hw : (ops[k]?).map (fun o => Region.wanted o (yielded ops a.tmps)) = some true := by kernel_rfl)
  (hy : ∀ w, S w → (execOp a.eval oi).run P w = .ok (.value v) w := by intro w' hS_; obtain ⟨⟨h0_, h1_, h2_⟩, k0_, k1_, k2_⟩ := hS_; go_simp; with_reducible rfl)
  (hc : takeW T B ds (Steps.Pre n k).toList (Steps.Pre n (k + 1)).toList k = true := by kernel_rfl)
  (hQ : ∀ c a w, Q (.panic c) (a.put oi.dst v) w → Q (.panic c) a w := by exact fun _ _ _ h => h)
  (ha : a.put (some (k + off)) v = a' := by simp only [Nat.reduceAdd, Act.put, List.setIfInBounds_toArray, List.set_cons_zero, List.set_cons_succ]; rfl)
  (h : wpAnyLast P md ops Q S ds fuel (Steps.Pre n (k + 1)) a' w) : wpAnyLast P md ops Q S ds (fuel + 1) (Steps.Pre n k) a w :=
  take_ _ hi hN (kN hT hB hc) hQ (Or.inl ⟨Steps.want_ hi hw, hy⟩) hS ha h
theorem aW.calls (k : Nat) (A0 : Option Addr) (c0 : Nat) (l0 : List (S80)) (A1 : Option Addr) (c1 : Nat) (l1 : List (S80)) (r : Bool) (w : World) (hr0 : Kd.C k80 w A0 l0.length l0) (hc0 : l0.length ≤ c0) (hr1 : Kd.C k80 w A1 l1.length l1) (hc1 : l1.length ≤ c1) (h : aW.f k l0 l1 = some r) :
  Calls Try.prog 44 #[.slice A0 l0.length c0, .slice A1 l1.length c1] w fun e w' => e = .returned (.bool r) ∧ Below w.heap.size w w' := by
 have HR0 := mk_ hr0
 have HC0 := mk_ hc0
 clear hr0 hc0
 have HR1 := mk_ hr1
 have HC1 := mk_ hc1
 clear hr1 hc1
 have HB := mk_ (Below.refl w.heap.size w)
 have H : (if (l0.length : Int) = (l1.length : Int) then (aW.l0 k l0 l1 0) else (some false)) = some r := h
 clear h
 by_cases c3 : (l0.length : Int) = (l1.length : Int)
 rotate_left
 ·
  rw [if_neg c3] at H
  have c3b0 : ((l0.length : Int) == (l1.length : Int)) = false := beq_eq_false_iff_ne.mpr c3
  have c3b1 : ((l0.length : Int) != (l1.length : Int)) = true := bne_iff_ne.mpr c3
  have c3b2 : (l0.length == l1.length) = false := by first | simpa using c3 | (simp at c3 ⊢; omega)
  obtain rfl := Option.some.inj H
  go_enter Try.func44, Try.ntmps44
  go_wp2
  go_ret
  exact ⟨q0, Short.hB HB⟩
 rw [if_pos c3] at H
 have c3b0 : ((l0.length : Int) == (l1.length : Int)) = true := beq_iff_eq.mpr c3
 have c3b1 : ((l0.length : Int) != (l1.length : Int)) = false := bne_eq_false_iff_eq.mpr c3
 have c3b2 : (l0.length == l1.length) = true := by first | simpa using c3 | (simp at c3 ⊢; omega)
 clear c3
 have H' := mk_ H
 clear H
 go_enter Try.func44, Try.ntmps44
 go_wp2
 go_loopg [5] k (fun kq v5 w' => ∃ (x5_1 : Int), v5 = .int .i64 x5_1 ∧ Aside0 (aW.l0 kq l0 l1 x5_1 = some r) ∧ Aside0 (kq ≤ k) ∧ Aside0 (Below w.heap.size w w'))
 case atStart => exact ⟨(0), z3_, H', ⟨Nat.le_refl _⟩, ⟨Short.hB HB⟩⟩
 case round =>
  clear H'
  try clear c1
  try clear c3
  try clear c3b0
  try clear c3b1
  try clear c3b2
  obtain ⟨x5_1, rfl, HA, HK1, HB⟩ := hrel
  cases gk with
  | zero => exact absurd HA.out (by simp [aW.l0])
  | succ k1 =>
   have H := HA.out
   clear HA
   simp only [aW.l0] at H
   by_cases c4 : x5_1 < (l0.length : Int)
   rotate_left
   ·
    rw [if_neg c4] at H
    have c4b0 : decide (x5_1 < (l0.length : Int)) = false := decide_eq_false c4
    clear c4
    obtain rfl := Option.some.inj H
    go_wp2
    go_ret
    exact ⟨q0, Short.hB HB⟩
   rw [if_pos c4] at H
   have c4b0 : decide (x5_1 < (l0.length : Int)) = true := decide_eq_true c4
   clear c4
   by_cases c5 : 0 ≤ x5_1
   rotate_left
   ·
    rw [if_neg c5] at H
    exact absurd H (by simp)
   rw [if_pos c5] at H
   have c5b0 : decide (0 ≤ x5_1) = true := decide_eq_true c5
   clear c5
   by_cases c6 : x5_1 < (l1.length : Int)
   rotate_left
   ·
    rw [if_neg c6] at H
    exact absurd H (by simp)
   rw [if_pos c6] at H
   have c6b0 : decide (x5_1 < (l1.length : Int)) = true := decide_eq_true c6
   clear c6
   have HX := mk_ H
   clear H
   have p0 : 0 ≤ x5_1 := of_decide_eq_true (by assumption)
   have q0 : x5_1 < (l0.length : Int) := of_decide_eq_true (by assumption)
   have q1 : x5_1 < (l1.length : Int) := of_decide_eq_true (by assumption)
   obtain ⟨ad, B1, d1, B2, d2, e0, hx0, hx1, hx2, hl1, hi1, hl2, hi2⟩ := fD HR0.out x5_1 p0 q0
   obtain ⟨bd, D1, g1, D2, g2, e1, hy0, hy1, hy2, hm1, hj1, hm2, hj2⟩ := fD HR1.out x5_1 p0 q1
   subst e0 e1
   replace p0 := eq_true p0
   replace q0 := eq_true q0
   replace q1 := eq_true q1
   have hxa : aW.at w _ (aU l0 x5_1) B1 B2 d1 d2 := ⟨hx0, hx1, hx2⟩
   have hya : aW.at w _ (aU l1 x5_1) D1 D2 g1 g2 := ⟨hy0, hy1, hy2⟩
   clear hx0 hx1 hx2 hy0 hy1 hy2
   have HXY := mk_ (And.intro hxa hya)
   have HI1 := mk_ (And.intro hi1 (And.intro hl1 (And.intro hj1 hm1)))
   have HI2 := mk_ (And.intro hi2 (And.intro hl2 (And.intro hj2 hm2)))
   clear hxa hya hi1 hl1 hj1 hm1 hi2 hl2 hj2 hm2
   by_cases c7 : (aU l0 x5_1).f0.toList = (aU l1 x5_1).f0.toList
   rotate_left
   ·
    have c7b := bne_iff_ne.mpr c7
    have c7c := beq_eq_false_iff_ne.mpr c7
    have H := HX.out
    rw [if_neg c7] at H
    obtain rfl := Option.some.inj H
    clear c7 H
    go_wp2
    refine Steps.start_n (n := 39) (S := fun w' => aW.at w' (ad.add (x5_1.toNat * 3)) (aU l0 x5_1) B1 B2 d1 d2 ∧ aW.at w' (bd.add (x5_1.toNat * 3)) (aU l1 x5_1) D1 D2 g1 g2) (ds := []) (fun W => Below w.heap.size w W) z1_ rfl z1_ (dQ HB.out) (fun W hb0 => ⟨aW.up HXY.out.1 hb0, aW.up HXY.out.2 hb0⟩) (fun W0 hb0 hS0 => ?_)
    refine eK aW.tab6 aW.bits6 (fun HT_ HW_ => ?_)
    clear HB
    iterate 4 refine Steps.nI_ 17 HT_.out (h := ?_)
    refine aW.step 17 HT_.out HW_.out hS0 (h := ?_)
    iterate 4 refine Steps.nI_ 17 HT_.out (h := ?_)
    refine aW.step 17 HT_.out HW_.out hS0 (h := ?_)
    iterate 2 refine Steps.nI_ 17 HT_.out (h := ?_)
    iterate 12 refine Steps.nR_ 17 HT_.out (h := ?_)
    iterate 2 refine Steps.nI_ 17 HT_.out (h := ?_)
    iterate 12 refine Steps.nR_ 17 HT_.out (h := ?_)
    refine Steps.nI_ 17 HT_.out (h := ?_)
    refine done_ (eO HT_.out z1_) ?_
    go_wp2
    go_ret
    exact ⟨rfl, hb0⟩
   have c7b := bne_eq_false_iff_eq.mpr c7
   have c7c := beq_iff_eq.mpr c7
   have H := HX.out
   clear HX
   rw [if_pos c7] at H
   clear c7
   obtain ⟨t8, A8, H⟩ := Option.bind_eq_some_iff.mp H
   replace A8 := mk_ A8
   have HX := mk_ H
   clear H
   go_wp2
   refine Steps.start_n (n := 39) (S := fun w' => aW.at w' (ad.add (x5_1.toNat * 3)) (aU l0 x5_1) B1 B2 d1 d2 ∧ aW.at w' (bd.add (x5_1.toNat * 3)) (aU l1 x5_1) D1 D2 g1 g2) (ds := []) (fun W => Below w.heap.size w W) z1_ rfl z1_ (dQ HB.out) (fun W hb0 => ⟨aW.up HXY.out.1 hb0, aW.up HXY.out.2 hb0⟩) (fun W0 hb0 hS0 => ?_)
   refine eK aW.tab6 aW.bits6 (fun HT_ HW_ => ?_)
   clear HB
   iterate 4 refine Steps.nI_ 17 HT_.out (h := ?_)
   refine aW.step 17 HT_.out HW_.out hS0 (h := ?_)
   iterate 4 refine Steps.nI_ 17 HT_.out (h := ?_)
   refine aW.step 17 HT_.out HW_.out hS0 (h := ?_)
   iterate 2 refine Steps.nI_ 17 HT_.out (h := ?_)
   iterate 4 refine Steps.nI_ 17 HT_.out (h := ?_)
   refine aW.step 17 HT_.out HW_.out hS0 (h := ?_)
   iterate 4 refine Steps.nI_ 17 HT_.out (h := ?_)
   refine aW.step 17 HT_.out HW_.out hS0 (h := ?_)
   refine one_ (i := 22) (N := some 39) (Steps.Pre 39 23) rfl rfl (fN HT_.out z1_) z4_ (fun K hK => ?_)
   refine goes_ Try.func81 z1_ rfl #[.slice B1 (aU l0 x5_1).f1.length d1, .slice D1 (aU l1 x5_1).f1.length g1] (Steps.want_ (k := 22) rfl z1_) rfl rfl (by first | rfl | (go_simp; done) | (simp; done)) ?_
   refine (bI.calls k1 B1 d1 (aU l0 x5_1).f1 D1 g1 (aU l1 x5_1).f1 t8 _ (aV HI1.out.1 hb0) HI1.out.2.1 (aV HI1.out.2.2.1 hb0) HI1.out.2.2.2 A8.out).mono ?_
   rintro e W1 ⟨rfl, hq⟩
   have hb1 := aI hb0 hq
   refine ⟨_, rfl, ?_⟩
   refine hK.out _ _ ⟨aW.up HXY.out.1 hb1, aW.up HXY.out.2 hb1⟩ (fun hS1 => ?_)
   clear hK K hq hS0 hb0
   refine norm_ (a' := ?_) ?_ ?_
   rotate_left
   ·
    show Act.put _ (some 39) _ = _
    simp only [Act.put, List.setIfInBounds_toArray, List.set_cons_zero, List.set_cons_succ]
    rfl
   cases t8
   ·
    have H := HX.out
    rw [if_neg z4_] at H
    obtain rfl := Option.some.inj H
    iterate 3 refine Steps.nI_ 17 HT_.out (h := ?_)
    iterate 12 refine Steps.nR_ 17 HT_.out (h := ?_)
    refine Steps.nI_ 17 HT_.out (h := ?_)
    refine done_ (eO HT_.out z1_) ?_
    go_wp2
    go_ret
    exact ⟨rfl, hb1⟩
   have H := HX.out
   clear HX
   rw [if_pos rfl] at H
   obtain ⟨t10, A10, H⟩ := Option.bind_eq_some_iff.mp H
   replace A10 := mk_ A10
   have HX := mk_ H
   clear H
   iterate 7 refine Steps.nI_ 17 HT_.out (h := ?_)
   refine aW.step 17 HT_.out HW_.out hS1 (h := ?_)
   iterate 4 refine Steps.nI_ 17 HT_.out (h := ?_)
   refine aW.step 17 HT_.out HW_.out hS1 (h := ?_)
   refine one_ (i := 36) (N := some 53) (Steps.Pre 39 37) rfl rfl (fN HT_.out z1_) z4_ (fun K hK => ?_)
   refine goes_ Try.func82 z1_ rfl #[.slice B2 (aU l0 x5_1).f2.length d2, .slice D2 (aU l1 x5_1).f2.length g2] (Steps.want_ (k := 36) rfl z1_) rfl rfl (by first | rfl | (go_simp; done) | (simp; done)) ?_
   refine (aY.calls k1 B2 d2 (aU l0 x5_1).f2 D2 g2 (aU l1 x5_1).f2 t10 _ (aV HI2.out.1 hb1) HI2.out.2.1 (aV HI2.out.2.2.1 hb1) HI2.out.2.2.2 A10.out).mono ?_
   rintro e W2 ⟨rfl, hq⟩
   have hb2 := aI hb1 hq
   refine ⟨_, rfl, ?_⟩
   refine hK.out _ _ ⟨aW.up HXY.out.1 hb2, aW.up HXY.out.2 hb2⟩ (fun hS2 => ?_)
   clear hK K hq hS1 hb1
   refine norm_ (a' := ?_) ?_ ?_
   rotate_left
   ·
    show Act.put _ (some 53) _ = _
    simp only [Act.put, List.setIfInBounds_toArray, List.set_cons_zero, List.set_cons_succ]
    rfl
   cases t10
   ·
    have H := HX.out
    rw [if_neg z4_] at H
    obtain rfl := Option.some.inj H
    iterate 2 refine Steps.nI_ 17 HT_.out (h := ?_)
    refine done_ (eO HT_.out z1_) ?_
    go_wp2
    go_ret
    exact ⟨rfl, hb2⟩
   have H := HX.out
   clear HX
   rw [if_pos rfl] at H
   have HZ := mk_ H
   clear H
   iterate 2 refine Steps.nI_ 17 HT_.out (h := ?_)
   have H' := mk_ HZ.out
   refine done_ (eO HT_.out z1_) ?_
   go_wp2
   go_roundg k1
   case measure => have := HK1.out; omega
   case rel => exact ⟨(wrap64 (x5_1 + 1)), rfl, H', ⟨by have := HK1.out; omega⟩, ⟨hb2⟩⟩
end Go.Proofs.Ytcbfliajgopdaaa.PAll
end
