-- Put together by a program of this session (wip/slice2.py) out of the seat's texts.
import Derived.Test.YtcbfliajgopdaaaZLJp1
import Derived.Laws.StructEq
import Derived.Test.YtcbfliajgopdaaaProg
import Derived.WalkSpells
import Derived.Lib.SliceRun
import Derived.Laws.Cover1
section
namespace Go.Proofs.Ytcbfliajgopdaaa.PAll
open Go.RowKit Go.Proofs.YtcbfliajgopdaaaW.PrintWords Go.Proofs.YtcbfliajgopdaaaW.PrintLast Go.Proofs.YtcbfliajgopdaaaW.PrintMore Go.Proofs.Ytcbfliajgopdaaa.ZipT Go.Proofs.YtcbfliajgopdaaaW.PrintWords.Kd Go.Proofs.YtcbfliajgopdaaaW.PrintMore.Kd
attribute [local go_sem] max2_int min2_int max_two min_two max_three min_three max_four min_four   -- for this text's walks alone
set_option linter.unusedVariables false
set_option linter.unusedSimpArgs false
def errW : Option Int → Value
 | none => .nilIface
 | some c => .iface 0 (.int .i64 c)
theorem errW_none : errW none = .nilIface := rfl
theorem errW_some (c : Int) : errW (some c) = .iface 0 (.int .i64 c) := rfl
theorem info5 : (Try.prog.info? 5).map (fun i => (i.zero, i.size, i.bytes)) = some (some (.int .u8 0), 1, 1) := by kernel_rfl
theorem info89 : (Try.prog.info? 89).map (fun i => (i.zero, i.size, i.bytes)) = some (some (.agg #[(.int .i64 0), (.int .i64 0), (.string ⟨#[]⟩)]), 3, 32) := by kernel_rfl
structure S89 where
 f0 : Int
 f1 : Int
 f2 : ByteArray
def z89 : S89 := ⟨(0 : Int), (0 : Int), (⟨#[]⟩ : ByteArray)⟩
def k89 : Kd S89 := Kd.iso (Kd.pair (Kd.int .i64) (Kd.pair (Kd.int .i64) Kd.string)) (fun x : S89 => (x.f0, x.f1, x.f2))
theorem k89_open {w : World} {x : S89} {cs : List Value} (h : k89.K w x cs) : cs = [.int .i64 x.f0, .int .i64 x.f1, .string x.f2] := by
 obtain ⟨_, _, rfl, rfl, ⟨_, _, rfl, rfl, rfl⟩⟩ := h
 exact rfl
theorem k89_mkM (w : World) (base : Nat) (ok : Nat → Prop) (x : S89)  : k89.M w base ok x [.int .i64 x.f0, .int .i64 x.f1, .string x.f2] := ⟨[.int .i64 x.f0], [.int .i64 x.f1, .string x.f2], rfl, rfl, ⟨[.int .i64 x.f1], [.string x.f2], rfl, rfl, rfl⟩⟩
def rd_T89 (xs : List S89) (i : Int) : S89 := xs.getD i.toNat z89
theorem at_T89 {w : World} {A : Option Addr} {n : Nat} {xs : List S89} (h : Kd.C k89 w A n xs) (i : Int) (h0 : 0 ≤ i) (h1 : i < n) : ∃ ad , A = some ad ∧ w.cell? (ad.add (i.toNat * 3)) = some (.int .i64 (rd_T89 xs i).f0) ∧ w.cell? ⟨(ad.add (i.toNat * 3)).block, (ad.add (i.toNat * 3)).off + 1, none⟩ = some (.int .i64 (rd_T89 xs i).f1) ∧ w.cell? ⟨(ad.add (i.toNat * 3)).block, (ad.add (i.toNat * 3)).off + 2, none⟩ = some (.string (rd_T89 xs i).f2) := by
 obtain ⟨ad, c, e, _, hK, hc0⟩ := C_get h z89 i h0 h1
 have hc : ∀ j u, c[j]? = some u → w.cell? (ad.add (i.toNat * 3 + j)) = some u := hc0
 obtain rfl := k89_open hK
 exact ⟨ad, e, hc 0 _ rfl, by rw [← add_field _ _ 1 z2_]; exact hc 1 _ rfl, by rw [← add_field _ _ 2 z2_]; exact hc 2 _ rfl⟩
structure S50 where
 f0 : Int
 f1 : Int
def z50 : S50 := ⟨(0 : Int), (0 : Int)⟩
def k50 : Kd S50 := Kd.iso (Kd.pair (Kd.int .i64) (Kd.int .i64)) (fun x : S50 => (x.f0, x.f1))
theorem k50_open {w : World} {x : S50} {cs : List Value} (h : k50.K w x cs) : cs = [.int .i64 x.f0, .int .i64 x.f1] := by
 obtain ⟨_, _, rfl, rfl, rfl⟩ := h
 exact rfl
theorem k50_mk (w : World) (x : S50)  : k50.K w x [.int .i64 x.f0, .int .i64 x.f1] := ⟨[.int .i64 x.f0], [.int .i64 x.f1], rfl, rfl, rfl⟩
theorem k50_mkM (w : World) (base : Nat) (ok : Nat → Prop) (x : S50)  : k50.M w base ok x [.int .i64 x.f0, .int .i64 x.f1] := ⟨[.int .i64 x.f0], [.int .i64 x.f1], rfl, rfl, rfl⟩
def rd_T50 (xs : List S50) (i : Int) : S50 := xs.getD i.toNat z50
theorem at_T50 {w : World} {A : Option Addr} {n : Nat} {xs : List S50} (h : Kd.C k50 w A n xs) (i : Int) (h0 : 0 ≤ i) (h1 : i < n) : ∃ ad , A = some ad ∧ w.cell? (ad.add (i.toNat * 2)) = some (.int .i64 (rd_T50 xs i).f0) ∧ w.cell? ⟨(ad.add (i.toNat * 2)).block, (ad.add (i.toNat * 2)).off + 1, none⟩ = some (.int .i64 (rd_T50 xs i).f1) := by
 obtain ⟨ad, c, e, _, hK, hc0⟩ := C_get h z50 i h0 h1
 have hc : ∀ j u, c[j]? = some u → w.cell? (ad.add (i.toNat * 2 + j)) = some u := hc0
 obtain rfl := k50_open hK
 exact ⟨ad, e, hc 0 _ rfl, by rw [← add_field _ _ 1 z2_]; exact hc 1 _ rfl⟩
structure S26 where
 f0 : Int
 f1 : Int
 f2 : Int
def z26 : S26 := ⟨(0 : Int), (0 : Int), (0 : Int)⟩
def k26 : Kd S26 := Kd.iso (Kd.pair (Kd.int .i64) (Kd.pair (Kd.int .i64) (Kd.int .i64))) (fun x : S26 => (x.f0, x.f1, x.f2))
theorem k26_open {w : World} {x : S26} {cs : List Value} (h : k26.K w x cs) : cs = [.int .i64 x.f0, .int .i64 x.f1, .int .i64 x.f2] := by
 obtain ⟨_, _, rfl, rfl, ⟨_, _, rfl, rfl, rfl⟩⟩ := h
 exact rfl
theorem k26_mk (w : World) (x : S26)  : k26.K w x [.int .i64 x.f0, .int .i64 x.f1, .int .i64 x.f2] := ⟨[.int .i64 x.f0], [.int .i64 x.f1, .int .i64 x.f2], rfl, rfl, ⟨[.int .i64 x.f1], [.int .i64 x.f2], rfl, rfl, rfl⟩⟩
theorem k26_mkM (w : World) (base : Nat) (ok : Nat → Prop) (x : S26)  : k26.M w base ok x [.int .i64 x.f0, .int .i64 x.f1, .int .i64 x.f2] := ⟨[.int .i64 x.f0], [.int .i64 x.f1, .int .i64 x.f2], rfl, rfl, ⟨[.int .i64 x.f1], [.int .i64 x.f2], rfl, rfl, rfl⟩⟩
structure S54 where
 f0 : S50
 f1 : (List Int)
 f2 : S26
 f3 : Int
 f4 : Int
 f5 : ByteArray
 f6 : Int
 f7 : (List S89)
 f8 : (List S50)
def z54 : S54 := ⟨z50, ([] : List Int), z26, (0 : Int), (0 : Int), (⟨#[]⟩ : ByteArray), (0 : Int), ([] : List S89), ([] : List S50)⟩
def k54 : Kd S54 := Kd.iso (Kd.pair k50 (Kd.pair (Kd.slice 3 (Kd.int .i64)) (Kd.pair k26 (Kd.pair (Kd.int .i64) (Kd.pair (Kd.int .i64) (Kd.pair Kd.string (Kd.pair (Kd.int .i64) (Kd.pair (Kd.slice 89 k89) (Kd.slice 50 k50))))))))) (fun x : S54 => (x.f0, x.f1, x.f2, x.f3, x.f4, x.f5, x.f6, x.f7, x.f8))
theorem k54_open {w : World} {x : S54} {cs : List Value} (h : k54.K w x cs) : ∃ A2 c2 A10 c10 A11 c11, cs = [.int .i64 x.f0.f0, .int .i64 x.f0.f1, .slice A2 x.f1.length c2, .int .i64 x.f2.f0, .int .i64 x.f2.f1, .int .i64 x.f2.f2, .int .i64 x.f3, .int .i64 x.f4, .string x.f5, .int .i64 x.f6, .slice A10 x.f7.length c10, .slice A11 x.f8.length c11] ∧ x.f1.length ≤ c2 ∧ (Kd.int .i64).C w A2 x.f1.length x.f1 ∧ x.f7.length ≤ c10 ∧ k89.C w A10 x.f7.length x.f7 ∧ x.f8.length ≤ c11 ∧ k50.C w A11 x.f8.length x.f8 := by
 obtain ⟨_, _, rfl, s0, ⟨_, _, rfl, ⟨A2, c2, rfl, l2, g2⟩, ⟨_, _, rfl, s3, ⟨_, _, rfl, rfl, ⟨_, _, rfl, rfl, ⟨_, _, rfl, rfl, ⟨_, _, rfl, rfl, ⟨_, _, rfl, ⟨A10, c10, rfl, l10, g10⟩, ⟨A11, c11, rfl, l11, g11⟩⟩⟩⟩⟩⟩⟩⟩⟩ := h
 obtain rfl := k50_open s0
 obtain rfl := k26_open s3
 exact ⟨A2, c2, A10, c10, A11, c11, rfl, l2, g2, l10, g10, l11, g11⟩
theorem k54_mk (w : World) (x : S54) {A2 : Option Addr} {c2 : Nat} (l2 : x.f1.length ≤ c2) (g2 : (Kd.int .i64).C w A2 x.f1.length x.f1) {A10 : Option Addr} {c10 : Nat} (l10 : x.f7.length ≤ c10) (g10 : k89.C w A10 x.f7.length x.f7) {A11 : Option Addr} {c11 : Nat} (l11 : x.f8.length ≤ c11) (g11 : k50.C w A11 x.f8.length x.f8) : k54.K w x [.int .i64 x.f0.f0, .int .i64 x.f0.f1, .slice A2 x.f1.length c2, .int .i64 x.f2.f0, .int .i64 x.f2.f1, .int .i64 x.f2.f2, .int .i64 x.f3, .int .i64 x.f4, .string x.f5, .int .i64 x.f6, .slice A10 x.f7.length c10, .slice A11 x.f8.length c11] := ⟨[.int .i64 x.f0.f0, .int .i64 x.f0.f1], [.slice A2 x.f1.length c2, .int .i64 x.f2.f0, .int .i64 x.f2.f1, .int .i64 x.f2.f2, .int .i64 x.f3, .int .i64 x.f4, .string x.f5, .int .i64 x.f6, .slice A10 x.f7.length c10, .slice A11 x.f8.length c11], rfl, (k50_mk w x.f0 ), ⟨[.slice A2 x.f1.length c2], [.int .i64 x.f2.f0, .int .i64 x.f2.f1, .int .i64 x.f2.f2, .int .i64 x.f3, .int .i64 x.f4, .string x.f5, .int .i64 x.f6, .slice A10 x.f7.length c10, .slice A11 x.f8.length c11], rfl, ⟨A2, c2, rfl, l2, g2⟩, ⟨[.int .i64 x.f2.f0, .int .i64 x.f2.f1, .int .i64 x.f2.f2], [.int .i64 x.f3, .int .i64 x.f4, .string x.f5, .int .i64 x.f6, .slice A10 x.f7.length c10, .slice A11 x.f8.length c11], rfl, (k26_mk w x.f2 ), ⟨[.int .i64 x.f3], [.int .i64 x.f4, .string x.f5, .int .i64 x.f6, .slice A10 x.f7.length c10, .slice A11 x.f8.length c11], rfl, rfl, ⟨[.int .i64 x.f4], [.string x.f5, .int .i64 x.f6, .slice A10 x.f7.length c10, .slice A11 x.f8.length c11], rfl, rfl, ⟨[.string x.f5], [.int .i64 x.f6, .slice A10 x.f7.length c10, .slice A11 x.f8.length c11], rfl, rfl, ⟨[.int .i64 x.f6], [.slice A10 x.f7.length c10, .slice A11 x.f8.length c11], rfl, rfl, ⟨[.slice A10 x.f7.length c10], [.slice A11 x.f8.length c11], rfl, ⟨A10, c10, rfl, l10, g10⟩, ⟨A11, c11, rfl, l11, g11⟩⟩⟩⟩⟩⟩⟩⟩⟩
theorem k54_mkM (w : World) (base : Nat) (ok : Nat → Prop) (x : S54) {v2 : Value} (g2 : (Kd.int .i64).R 3 w base ok v2 x.f1) {v10 : Value} (g10 : k89.R 89 w base ok v10 x.f7) {v11 : Value} (g11 : k50.R 50 w base ok v11 x.f8) : k54.M w base ok x [.int .i64 x.f0.f0, .int .i64 x.f0.f1, v2, .int .i64 x.f2.f0, .int .i64 x.f2.f1, .int .i64 x.f2.f2, .int .i64 x.f3, .int .i64 x.f4, .string x.f5, .int .i64 x.f6, v10, v11] := ⟨[.int .i64 x.f0.f0, .int .i64 x.f0.f1], [v2, .int .i64 x.f2.f0, .int .i64 x.f2.f1, .int .i64 x.f2.f2, .int .i64 x.f3, .int .i64 x.f4, .string x.f5, .int .i64 x.f6, v10, v11], rfl, (k50_mkM w base ok x.f0 ), ⟨[v2], [.int .i64 x.f2.f0, .int .i64 x.f2.f1, .int .i64 x.f2.f2, .int .i64 x.f3, .int .i64 x.f4, .string x.f5, .int .i64 x.f6, v10, v11], rfl, ⟨v2, rfl, g2⟩, ⟨[.int .i64 x.f2.f0, .int .i64 x.f2.f1, .int .i64 x.f2.f2], [.int .i64 x.f3, .int .i64 x.f4, .string x.f5, .int .i64 x.f6, v10, v11], rfl, (k26_mkM w base ok x.f2 ), ⟨[.int .i64 x.f3], [.int .i64 x.f4, .string x.f5, .int .i64 x.f6, v10, v11], rfl, rfl, ⟨[.int .i64 x.f4], [.string x.f5, .int .i64 x.f6, v10, v11], rfl, rfl, ⟨[.string x.f5], [.int .i64 x.f6, v10, v11], rfl, rfl, ⟨[.int .i64 x.f6], [v10, v11], rfl, rfl, ⟨[v10], [v11], rfl, ⟨v10, rfl, g10⟩, ⟨v11, rfl, g11⟩⟩⟩⟩⟩⟩⟩⟩⟩
def rd_T54 (xs : List S54) (i : Int) : S54 := xs.getD i.toNat z54
theorem at_T54 {w : World} {A : Option Addr} {n : Nat} {xs : List S54} (h : Kd.C k54 w A n xs) (i : Int) (h0 : 0 ≤ i) (h1 : i < n) : ∃ ad A2 c2 A10 c10 A11 c11, A = some ad ∧ w.cell? (ad.add (i.toNat * 12)) = some (.int .i64 (rd_T54 xs i).f0.f0) ∧ w.cell? ⟨(ad.add (i.toNat * 12)).block, (ad.add (i.toNat * 12)).off + 1, none⟩ = some (.int .i64 (rd_T54 xs i).f0.f1) ∧ w.cell? ⟨(ad.add (i.toNat * 12)).block, (ad.add (i.toNat * 12)).off + 2, none⟩ = some (.slice A2 (rd_T54 xs i).f1.length c2) ∧ w.cell? ⟨(ad.add (i.toNat * 12)).block, (ad.add (i.toNat * 12)).off + 3, none⟩ = some (.int .i64 (rd_T54 xs i).f2.f0) ∧ w.cell? ⟨(ad.add (i.toNat * 12)).block, (ad.add (i.toNat * 12)).off + 4, none⟩ = some (.int .i64 (rd_T54 xs i).f2.f1) ∧ w.cell? ⟨(ad.add (i.toNat * 12)).block, (ad.add (i.toNat * 12)).off + 5, none⟩ = some (.int .i64 (rd_T54 xs i).f2.f2) ∧ w.cell? ⟨(ad.add (i.toNat * 12)).block, (ad.add (i.toNat * 12)).off + 6, none⟩ = some (.int .i64 (rd_T54 xs i).f3) ∧ w.cell? ⟨(ad.add (i.toNat * 12)).block, (ad.add (i.toNat * 12)).off + 7, none⟩ = some (.int .i64 (rd_T54 xs i).f4) ∧ w.cell? ⟨(ad.add (i.toNat * 12)).block, (ad.add (i.toNat * 12)).off + 8, none⟩ = some (.string (rd_T54 xs i).f5) ∧ w.cell? ⟨(ad.add (i.toNat * 12)).block, (ad.add (i.toNat * 12)).off + 9, none⟩ = some (.int .i64 (rd_T54 xs i).f6) ∧ w.cell? ⟨(ad.add (i.toNat * 12)).block, (ad.add (i.toNat * 12)).off + 10, none⟩ = some (.slice A10 (rd_T54 xs i).f7.length c10) ∧ w.cell? ⟨(ad.add (i.toNat * 12)).block, (ad.add (i.toNat * 12)).off + 11, none⟩ = some (.slice A11 (rd_T54 xs i).f8.length c11) ∧ (rd_T54 xs i).f1.length ≤ c2 ∧ (Kd.int .i64).C w A2 (rd_T54 xs i).f1.length (rd_T54 xs i).f1 ∧ (rd_T54 xs i).f7.length ≤ c10 ∧ k89.C w A10 (rd_T54 xs i).f7.length (rd_T54 xs i).f7 ∧ (rd_T54 xs i).f8.length ≤ c11 ∧ k50.C w A11 (rd_T54 xs i).f8.length (rd_T54 xs i).f8 := by
 obtain ⟨ad, c, e, _, hK, hc0⟩ := C_get h z54 i h0 h1
 have hc : ∀ j u, c[j]? = some u → w.cell? (ad.add (i.toNat * 12 + j)) = some u := hc0
 obtain ⟨A2, c2, A10, c10, A11, c11, rfl, l2, g2, l10, g10, l11, g11⟩ := k54_open hK
 exact ⟨ad, A2, c2, A10, c10, A11, c11, e, hc 0 _ rfl, by rw [← add_field _ _ 1 z2_]; exact hc 1 _ rfl, by rw [← add_field _ _ 2 z2_]; exact hc 2 _ rfl, by rw [← add_field _ _ 3 z2_]; exact hc 3 _ rfl, by rw [← add_field _ _ 4 z2_]; exact hc 4 _ rfl, by rw [← add_field _ _ 5 z2_]; exact hc 5 _ rfl, by rw [← add_field _ _ 6 z2_]; exact hc 6 _ rfl, by rw [← add_field _ _ 7 z2_]; exact hc 7 _ rfl, by rw [← add_field _ _ 8 z2_]; exact hc 8 _ rfl, by rw [← add_field _ _ 9 z2_]; exact hc 9 _ rfl, by rw [← add_field _ _ 10 z2_]; exact hc 10 _ rfl, by rw [← add_field _ _ 11 z2_]; exact hc 11 _ rfl, l2, g2, l10, g10, l11, g11⟩
end Go.Proofs.Ytcbfliajgopdaaa.PAll
end
section
namespace Go.Proofs.Ytcbfliajgopdaaa.PAll
open Go.RowKit Go.Proofs.YtcbfliajgopdaaaW.PrintWords Go.Proofs.YtcbfliajgopdaaaW.PrintLast Go.Proofs.YtcbfliajgopdaaaW.PrintMore Go.Proofs.Ytcbfliajgopdaaa.ZipT Go.Proofs.YtcbfliajgopdaaaW.PrintWords.Kd Go.Proofs.YtcbfliajgopdaaaW.PrintMore.Kd
attribute [local go_sem] max2_int min2_int max_two min_two max_three min_three max_four min_four   -- for this text's walks alone
set_option linter.unusedVariables false
set_option linter.unusedSimpArgs false
def slices_Clone_byte_byte.f (l0 : List Int) : Option (List Int) := (some (([] : List Int) : List Int)).bind fun y101 => (if y101.length + l0.length < 140737488355328 then (some (y101 ++ l0)) else (none))
set_option maxHeartbeats 8000000 in
set_option maxRecDepth 100000 in
theorem slices_Clone_byte_byte.calls (A0 : Option Addr) (c0 : Nat) (l0 : List Int) (r : List Int) (w : World) (hr0 : Kd.C (Kd.int .u8) w A0 l0.length l0) (hc0 : l0.length ≤ c0) (h : slices_Clone_byte_byte.f l0 = some r) :
  Calls Try.prog 58 #[.slice A0 l0.length c0] w fun e w' => ∃ v0_ : Value, e = .returned (v0_) ∧ Kd.R (Kd.int .u8) 5 w' w.heap.size (fun _ => True) v0_ r ∧ Below w.heap.size w w' := by
 have HR0 := mk_ hr0
 have HC0 := mk_ hc0
 clear hr0 hc0
 cases A0 with
 | none =>
  have hl_ : l0 = [] := by
   rcases l0 with _ | ⟨x_, xs_⟩
   ·
    rfl
   ·
    obtain ⟨ad_, e_, _⟩ := HR0.out.2.2 (by simp)
    exact absurd e_ (by simp)
  subst hl_
  have hr_ : r = [] := by simpa [slices_Clone_byte_byte.f] using h.symm
  subst hr_
  have hnil_ := fun W : World => Lib.run_eql_slice_nil (P := Try.prog) W 22 5 none 0 c0 0 0 Try.underlying22
  go_enter Try.func58, Try.ntmps58
  go_wp2
  go_ret
  exact ⟨_, rfl, R_nil _ _ _ _ _, Below.refl _ _⟩
 | some a0_ =>
 have hnil_ := fun W : World => Lib.run_eql_slice_nil (P := Try.prog) W 22 5 (some a0_) l0.length c0 0 0 Try.underlying22
 have HB := mk_ (Below.refl w.heap.size w)
 have H : ((some (([] : List Int) : List Int)).bind fun y101 => (if y101.length + l0.length < 140737488355328 then (some (y101 ++ l0)) else (none))) = some r := h
 clear h
 obtain ⟨y101, hy101⟩ : ∃ y_ : List Int, y_ = (([] : List Int)) := ⟨_, rfl⟩
 replace H : (if y101.length + l0.length < 140737488355328 then (some (y101 ++ l0)) else (none)) = some r := by first | (rw [hy101]; with_reducible exact H) | (have H2_ := (Option.bind_some _ _).symm.trans H; rw [hy101]; with_reducible exact H2_) | (have H2_ := (Option.bind_some _ _).symm.trans H; with_reducible exact H2_) | with_reducible exact H | (rw [hy101]; exact H) | exact H
 have Ny101 := mk_ hy101
 clear hy101
 by_cases c2 : y101.length + l0.length < 140737488355328
 ·
  rw [if_pos c2] at H
  have LMc2 := mk_ c2
  clear c2
  obtain ⟨y104, hy104⟩ : ∃ y_ : List Int, y_ = (y101 ++ l0) := ⟨_, rfl⟩
  replace H : (some y104) = some r := by first | (rw [hy104]; with_reducible exact H) | (have H2_ := (Option.bind_some _ _).symm.trans H; rw [hy104]; with_reducible exact H2_) | (have H2_ := (Option.bind_some _ _).symm.trans H; with_reducible exact H2_) | with_reducible exact H | (rw [hy104]; exact H) | exact H
  have Ny104 := mk_ hy104
  clear hy104
  obtain rfl := Option.some.inj H
  go_enter Try.func58, Try.ntmps58
  go_wp2_with (first | ((with_reducible refine gate_dst (N := 5) rfl ?_); refine R_lit (Kd.int .u8) _ 5 ?hg (N := 5) ?hd (xs := ([] : List Int)) (inner := []) (ok := fun _ => True) (okp := fun _ => True) ?hr ?hp (fun _ hk => hk) trivial (Below.refl _ _) (Nat.le_refl _) (by simp) ?_; (case hd => rfl); (case hg => rfl); (case hr => first | (go_simp; done) | (go_simp; rfl)); (case hp => exact (Reps.none _ _)); intro v102 w3 ho4 hb hg_ hnew_; clear hg_ hnew_; (first | rw [← Ny101.out] at ho4 | (simp only [Int.reduceToNat] at ho4; rw [← Ny101.out] at ho4)); have n0_ := mk_ (R_lower ho4 (below_size (Short.hB HB))); have n1_ := mk_ (below_step (Short.hB HB) hb); clear HB; revert n0_ n1_; intro HO103 HB; clear hb ho4) | ((with_reducible refine gate_builtin (b := .append) (xs := #[.tmp 5, .tmp 6]) rfl ?_); at_builtin; refine R_append_rows (Kd.int .u8) (w0 := w) w.heap.size rfl (.tmp 5) (.tmp 6) 22 5 (.int .u8 0) 1 rfl Try.underlying22 info5 rfl z5_ z2_ v102 y101 l0 _ _ _ (fun _ => True) (fun _ => False) rfl rfl ?aO ?aR (fun _ _ h => h) (fun _ h => h.elim) ?aF ?aB ?aS ?aL ?_; (case aR => exact cX_ (C_below HR0.out HB.out)); (case aB => exact (Short.hB HB)); (case aF => exact (fun _ _ => trivial)); (case aO => exact (ZKR HO103)); (case aS => exact (below_size (Short.hB HB))); (case aL => have := LMc2.out; omega); intro v105 w5 ho hb hg hat; rw [← Ny104.out] at ho; have n0_ := mk_ (hb); have n1_ := mk_ (ho); clear HB HO103; revert n0_ n1_; intro HB HO106; clear ho hb hg hat))
  go_ret
  exact ⟨_, by first | rfl | (simp [errW_none, errW_some] <;> rfl) | (simp [*, errW_none, errW_some] <;> rfl), by (with_reducible repeat (first | apply R_alloc | apply R_drewN | apply R_drew)); exact HO106.out, Short.hB HB⟩
 ·
  rw [if_neg c2] at H
  exact absurd H (by simp)
def wire_big.l0 : Nat → Int → List Int → Int → Option (List Int)
 | 0, _, _, _ => none
 | k + 1, x1, x7, x8 => if x8 ≥ 0 then (if 0 ≤ (wrap64 (8 * x8)) then (if x7.length < 140737488355328 then (wire_big.l0 k x1 (x7 ++ [(shr .i64 x1 (wrap64 (8 * x8))) % 256]) (wrap64 (x8 - 1))) else (none)) else (none)) else (some x7)
def wire_big.f (k : Nat) (l0 : List Int) (a1 : Int) (a2 : Int) : Option (List Int) := (slices_Clone_byte_byte.f l0).bind fun t107 => (wire_big.l0 k a1 t107 (wrap64 (a2 - 1)))
set_option maxHeartbeats 8000000 in
set_option maxRecDepth 100000 in
theorem wire_big.calls (k : Nat) (A0 : Option Addr) (c0 : Nat) (l0 : List Int) (a1 : Int) (a2 : Int) (r : List Int) (w : World) (hr0 : Kd.C (Kd.int .u8) w A0 l0.length l0) (hc0 : l0.length ≤ c0) (h : wire_big.f k l0 a1 a2 = some r) :
  Calls Try.prog 103 #[.slice A0 l0.length c0, .int .i64 a1, .int .i64 a2] w fun e w' => ∃ v0_ : Value, e = .returned (v0_) ∧ Kd.R (Kd.int .u8) 5 w' w.heap.size (fun _ => True) v0_ r ∧ Below w.heap.size w w' := by
 have HR0 := mk_ hr0
 have HC0 := mk_ hc0
 clear hr0 hc0
 have HB := mk_ (Below.refl w.heap.size w)
 have H : ((slices_Clone_byte_byte.f l0).bind fun t107 => (wire_big.l0 k a1 t107 (wrap64 (a2 - 1)))) = some r := h
 clear h
 replace H := Option.bind_eq_some_iff.mp H
 obtain ⟨t107, A40, H⟩ := H
 replace H : (wire_big.l0 k a1 t107 (wrap64 (a2 - 1))) = some r := H
 have A4 := mk_ A40
 clear A40
 have H' := mk_ H
 clear H
 go_enter Try.func103, Try.ntmps103
 go_wp2_with (first | ((with_reducible refine gate_callee (f := 58) rfl ?_); refine Short.gL (some 10) Try.func58 #[.slice A0 l0.length c0] (h := ?_); (with_reducible refine (slices_Clone_byte_byte.calls _ _ l0 t107 _ ?side1 ?side2 A4.out).mono ?_); (case side1 => repeat (first | exact HR0.out | (with_reducible refine C_alloc ?_ _) | (with_reducible refine C_drewN ?_ _) | (with_reducible refine C_drew ?_))); (case side2 => exact HC0.out); rintro e w5 ⟨v108, rfl, ho0, hb⟩; refine ⟨_, rfl, ?_⟩; have n0_ := mk_ (R_lower ho0 (below_size (Short.hB HB))); have n1_ := mk_ (below_step (Short.hB HB) hb); clear HB; revert n0_ n1_; intro HO109 HB; (try clear hb ho0)))
 go_loopg [7, 8] k (fun kq v7 v8 w' => ∃ (x7_1 : List Int) (x8_1 : Int), v8 = .int .i64 x8_1 ∧ Aside0 (wire_big.l0 kq a1 x7_1 x8_1 = some r) ∧ Aside0 (kq ≤ k) ∧ Aside0 (Kd.R (Kd.int .u8) 5 w' w.heap.size (fun _ => True) v7 x7_1) ∧ Aside0 (Below w.heap.size w w'))
 case atStart => exact ⟨(t107), (wrap64 (a2 - 1)), z3_, H', ⟨Nat.le_refl _⟩, ⟨by (with_reducible repeat (first | apply R_alloc | apply R_drewN | apply R_drew)); exact HO109.out⟩, ⟨Short.hB HB⟩⟩
 case round =>
  clear H'
  try clear c1
  try clear p2
  try clear c5
  obtain ⟨x7_1, x8_1, rfl, HA, HK1, HO_7, HB⟩ := hrel
  cases gk with
  | zero => exact absurd HA.out (by simp [wire_big.l0])
  | succ k1 =>
   have H := HA.out
   clear HA
   simp only [wire_big.l0] at H
   by_cases c6 : x8_1 ≥ 0
   ·
    rw [if_pos c6] at H
    have c6b0 : decide (0 ≤ x8_1) = true := decide_eq_true c6
    clear c6
    obtain ⟨ji7, hji7⟩ : ∃ j_ : Int, (wrap64 (8 * x8_1)) = j_ := ⟨_, rfl⟩
    replace H : (if 0 ≤ (ji7) then (if x7_1.length < 140737488355328 then (wire_big.l0 k1 a1 (x7_1 ++ [(shr .i64 a1 (ji7)) % 256]) (wrap64 (x8_1 - 1))) else (none)) else (none)) = some r := by first | (rw [hji7] at H; exact H) | (simp only [hji7] at H ⊢; exact H)
    have hji7w : (IntKind.i64.wrap (8 * x8_1)) = ji7 := (i64_w _).trans hji7
    by_cases c8 : 0 ≤ (ji7)
    ·
     rw [if_pos c8] at H
     have c8b0 := eq_true c8
     have c8b1 : decide (0 ≤ (ji7)) = true := decide_eq_true c8
     clear c8
     obtain ⟨ji9, hji9⟩ : ∃ j_ : Int, (shr .i64 a1 (ji7)) = j_ := ⟨_, rfl⟩
     replace H : (if x7_1.length < 140737488355328 then (wire_big.l0 k1 a1 (x7_1 ++ [(ji9) % 256]) (wrap64 (x8_1 - 1))) else (none)) = some r := by first | (rw [hji9] at H; exact H) | (simp only [hji9] at H ⊢; exact H)
     have hji9_ : (a1 / 2 ^ min (ji7).toNat 64) = ji9 := hji9
     have hji9z : (ji7) ≤ 64 → (a1 / 2 ^ (ji7).toNat) = ji9 := shr_small hji9
     by_cases c10 : x7_1.length < 140737488355328
     ·
      rw [if_pos c10] at H
      have LMc10 := mk_ c10
      clear c10
      obtain ⟨y110, hy110⟩ : ∃ y_ : List Int, y_ = (x7_1 ++ [(ji9) % 256]) := ⟨_, rfl⟩
      replace H : (wire_big.l0 k1 a1 y110 (wrap64 (x8_1 - 1))) = some r := by first | (rw [hy110]; with_reducible exact H) | (have H2_ := (Option.bind_some _ _).symm.trans H; rw [hy110]; with_reducible exact H2_) | (have H2_ := (Option.bind_some _ _).symm.trans H; with_reducible exact H2_) | with_reducible exact H | (rw [hy110]; exact H) | exact H
      have Ny110 := mk_ hy110
      clear hy110
      have H' := mk_ H
      clear H
      go_wp2_with (first | ((with_reducible refine gate_builtin (b := .append) (xs := #[.tmp 17, .tmp 23]) rfl ?_); at_builtin; refine R_append (Kd.int .u8) (w0 := w) w.heap.size rfl (.tmp 17) (.tmp 23) 22 5 (.int .u8 0) 1 rfl Try.underlying22 info5 rfl z5_ z2_ u7 x7_1 ((ji9) % 256) [.int .u8 ((ji9) % 256)] (fun _ => True) (fun _ => False) rfl rfl ?aP (fun _ hk => hk.elim) ?aF ?aO ?aB ?aS ?aL ?_; (case aP => exact rfl); (case aB => exact (Short.hB HB)); (case aF => exact (fun _ _ => trivial)); (case aO => exact (ZKR HO_7)); (case aS => exact (below_size (Short.hB HB))); (case aL => have := LMc10.out; omega); intro v111 w11 ho hb hg hat; rw [← Ny110.out] at ho; have n0_ := mk_ (hb); have n1_ := mk_ (ho); clear HB HO_7; revert n0_ n1_; intro HB HO112; clear ho hb hg hat))
      go_roundg k1
      case measure => have := HK1.out; omega
      case rel => exact ⟨(y110), (wrap64 (x8_1 - 1)), z3_, H', ⟨by have := HK1.out; omega⟩, ⟨by (with_reducible repeat (first | apply R_alloc | apply R_drewN | apply R_drew)); exact HO112.out⟩, ⟨Short.hB HB⟩⟩
     ·
      rw [if_neg c10] at H
      exact absurd H (by simp)
    ·
     rw [if_neg c8] at H
     exact absurd H (by simp)
   ·
    rw [if_neg c6] at H
    have c6b0 : decide (0 ≤ x8_1) = false := decide_eq_false c6
    clear c6
    obtain rfl := Option.some.inj H
    go_wp2
    go_ret
    exact ⟨_, by first | rfl | (simp [errW_none, errW_some] <;> rfl) | (simp [*, errW_none, errW_some] <;> rfl), by (with_reducible repeat (first | apply R_alloc | apply R_drewN | apply R_drew)); exact HO_7.out, Short.hB HB⟩
def wire_Put.f (k : Nat) (l0 : List Int) (a1 : Int) (a2 : Int) : Option (List Int × Int) := if a2 < 1 then (some (([] : List Int), 1)) else (if a2 > 7 then (some (([] : List Int), 1)) else (if a1 < 0 then (some (([] : List Int), 1)) else (if 0 ≤ (wrap64 (8 * a2)) then (if a1 ≥ (shl .i64 1 (wrap64 (8 * a2))) then (some (([] : List Int), 1)) else ((wire_big.f k l0 a1 a2).bind fun t113 => (some (t113, 0)))) else (none))))
set_option maxHeartbeats 8000000 in
set_option maxRecDepth 100000 in
theorem wire_Put.calls (k : Nat) (A0 : Option Addr) (c0 : Nat) (l0 : List Int) (a1 : Int) (a2 : Int) (r1 : List Int) (r2 : Int) (w : World) (hr0 : Kd.C (Kd.int .u8) w A0 l0.length l0) (hc0 : l0.length ≤ c0) (h : wire_Put.f k l0 a1 a2 = some (r1, r2)) :
  Calls Try.prog 85 #[.slice A0 l0.length c0, .int .i64 a1, .int .i64 a2] w fun e w' => ∃ v0_ : Value, e = .returned (.tuple #[v0_, .int .i64 r2]) ∧ Kd.R (Kd.int .u8) 5 w' w.heap.size (fun _ => True) v0_ r1 ∧ Below w.heap.size w w' := by
 have HR0 := mk_ hr0
 have HC0 := mk_ hc0
 clear hr0 hc0
 have HB := mk_ (Below.refl w.heap.size w)
 have H : (if a2 < 1 then (some (([] : List Int), 1)) else (if a2 > 7 then (some (([] : List Int), 1)) else (if a1 < 0 then (some (([] : List Int), 1)) else (if 0 ≤ (wrap64 (8 * a2)) then (if a1 ≥ (shl .i64 1 (wrap64 (8 * a2))) then (some (([] : List Int), 1)) else ((wire_big.f k l0 a1 a2).bind fun t113 => (some (t113, 0)))) else (none))))) = some (r1, r2) := h
 clear h
 by_cases c4 : a2 < 1
 ·
  rw [if_pos c4] at H
  have c4b0 : decide (a2 < 1) = true := decide_eq_true c4
  clear c4
  simp only [Option.some.injEq, Prod.mk.injEq] at H
  obtain ⟨rfl, rfl⟩ := H
  go_enter Try.func85, Try.ntmps85
  go_wp2
  go_ret2
  exact ⟨_, by first | rfl | (simp [errW_none, errW_some] <;> rfl) | (simp [*, errW_none, errW_some] <;> rfl), by first | exact R_nil _ _ _ _ _ | exact N_nil _ _ _ _ _ | exact V_nil _ _ _ _ _ | exact Q_nil _ _ _ _ _ | exact S_nil _ _ _ _ _, Short.hB HB⟩
 ·
  rw [if_neg c4] at H
  have c4b0 : decide (a2 < 1) = false := decide_eq_false c4
  clear c4
  by_cases c5 : a2 > 7
  ·
   rw [if_pos c5] at H
   have c5b0 : decide (7 < a2) = true := decide_eq_true c5
   clear c5
   simp only [Option.some.injEq, Prod.mk.injEq] at H
   obtain ⟨rfl, rfl⟩ := H
   go_enter Try.func85, Try.ntmps85
   go_wp2
   go_ret2
   exact ⟨_, by first | rfl | (simp [errW_none, errW_some] <;> rfl) | (simp [*, errW_none, errW_some] <;> rfl), by first | exact R_nil _ _ _ _ _ | exact N_nil _ _ _ _ _ | exact V_nil _ _ _ _ _ | exact Q_nil _ _ _ _ _ | exact S_nil _ _ _ _ _, Short.hB HB⟩
  ·
   rw [if_neg c5] at H
   have c5b0 : decide (7 < a2) = false := decide_eq_false c5
   clear c5
   by_cases c6 : a1 < 0
   ·
    rw [if_pos c6] at H
    have c6b0 : decide (a1 < 0) = true := decide_eq_true c6
    clear c6
    simp only [Option.some.injEq, Prod.mk.injEq] at H
    obtain ⟨rfl, rfl⟩ := H
    go_enter Try.func85, Try.ntmps85
    go_wp2
    go_ret2
    exact ⟨_, by first | rfl | (simp [errW_none, errW_some] <;> rfl) | (simp [*, errW_none, errW_some] <;> rfl), by first | exact R_nil _ _ _ _ _ | exact N_nil _ _ _ _ _ | exact V_nil _ _ _ _ _ | exact Q_nil _ _ _ _ _ | exact S_nil _ _ _ _ _, Short.hB HB⟩
   ·
    rw [if_neg c6] at H
    have c6b0 : decide (a1 < 0) = false := decide_eq_false c6
    clear c6
    obtain ⟨ji7, hji7⟩ : ∃ j_ : Int, (wrap64 (8 * a2)) = j_ := ⟨_, rfl⟩
    replace H : (if 0 ≤ (ji7) then (if a1 ≥ (shl .i64 1 (ji7)) then (some (([] : List Int), 1)) else ((wire_big.f k l0 a1 a2).bind fun t113 => (some (t113, 0)))) else (none)) = some (r1, r2) := by first | (rw [hji7] at H; exact H) | (simp only [hji7] at H ⊢; exact H)
    have hji7w : (IntKind.i64.wrap (8 * a2)) = ji7 := (i64_w _).trans hji7
    by_cases c8 : 0 ≤ (ji7)
    ·
     rw [if_pos c8] at H
     have c8b0 := eq_true c8
     have c8b1 : decide (0 ≤ (ji7)) = true := decide_eq_true c8
     clear c8
     obtain ⟨ji9, hji9⟩ : ∃ j_ : Int, (shl .i64 1 (ji7)) = j_ := ⟨_, rfl⟩
     replace H : (if a1 ≥ (ji9) then (some (([] : List Int), 1)) else ((wire_big.f k l0 a1 a2).bind fun t113 => (some (t113, 0)))) = some (r1, r2) := by first | (rw [hji9] at H; exact H) | (simp only [hji9] at H ⊢; exact H)
     have hji9_ : (IntKind.i64.wrap (1 * 2 ^ min (ji7).toNat 64)) = ji9 := hji9
     have hji9z : (ji7) ≤ 64 → (IntKind.i64.wrap (1 * 2 ^ (ji7).toNat)) = ji9 := shl_small hji9
     have hji9u : (IntKind.i64.wrap (2 ^ min (ji7).toNat 64)) = ji9 := by have h_ := hji9_; rw [Int.one_mul] at h_; exact h_
     have hji9v : (ji7) ≤ 64 → (IntKind.i64.wrap (2 ^ (ji7).toNat)) = ji9 := fun hle_ => by have h_ := hji9z hle_; rw [Int.one_mul] at h_; exact h_
     have hji9y : (wrap64 (1 * 2 ^ min (ji7).toNat 64)) = ji9 := (i64_w _).symm.trans hji9_
     have hji9x : (ji7) ≤ 64 → (wrap64 (1 * 2 ^ (ji7).toNat)) = ji9 := fun h_ => (i64_w _).symm.trans (hji9z h_)
     by_cases c10 : a1 ≥ (ji9)
     ·
      rw [if_pos c10] at H
      have c10b0 : decide ((ji9) ≤ a1) = true := decide_eq_true c10
      clear c10
      simp only [Option.some.injEq, Prod.mk.injEq] at H
      obtain ⟨rfl, rfl⟩ := H
      go_enter Try.func85, Try.ntmps85
      go_wp2
      go_ret2
      exact ⟨_, by first | rfl | (simp [errW_none, errW_some] <;> rfl) | (simp only [← hji7, ← hji9]; first | rfl | (simp [errW_none, errW_some] <;> rfl)) | (simp [*, errW_none, errW_some] <;> rfl), by first | exact R_nil _ _ _ _ _ | exact N_nil _ _ _ _ _ | exact V_nil _ _ _ _ _ | exact Q_nil _ _ _ _ _ | exact S_nil _ _ _ _ _, Short.hB HB⟩
     ·
      rw [if_neg c10] at H
      have c10b0 : decide ((ji9) ≤ a1) = false := decide_eq_false c10
      clear c10
      replace H := Option.bind_eq_some_iff.mp H
      obtain ⟨t113, A110, H⟩ := H
      replace H : (some (t113, 0)) = some (r1, r2) := H
      have A11 := mk_ A110
      clear A110
      simp only [Option.some.injEq, Prod.mk.injEq] at H
      obtain ⟨rfl, rfl⟩ := H
      go_enter Try.func85, Try.ntmps85
      go_wp2_with (first | ((with_reducible refine gate_callee (f := 103) rfl ?_); refine Short.gL (some 28) Try.func103 #[.slice A0 l0.length c0, .int .i64 a1, .int .i64 a2] (h := ?_); (with_reducible refine (wire_big.calls k _ _ l0 a1 a2 t113 _ ?side1 ?side2 A11.out).mono ?_); (case side1 => repeat (first | exact HR0.out | (with_reducible refine C_alloc ?_ _) | (with_reducible refine C_drewN ?_ _) | (with_reducible refine C_drew ?_))); (case side2 => exact HC0.out); rintro e w12 ⟨v114, rfl, ho0, hb⟩; refine ⟨_, rfl, ?_⟩; have n0_ := mk_ (R_lower ho0 (below_size (Short.hB HB))); have n1_ := mk_ (below_step (Short.hB HB) hb); clear HB; revert n0_ n1_; intro HO115 HB; (try clear hb ho0)))
      go_ret2
      exact ⟨_, by first | rfl | (simp [errW_none, errW_some] <;> rfl) | (simp only [← hji7, ← hji9]; first | rfl | (simp [errW_none, errW_some] <;> rfl)) | (simp [*, errW_none, errW_some] <;> rfl), by (with_reducible repeat (first | apply R_alloc | apply R_drewN | apply R_drew)); exact HO115.out, Short.hB HB⟩
    ·
     rw [if_neg c8] at H
     exact absurd H (by simp)
def wire_PutText.f (l0 : List Int) (a1 : ByteArray) : Option (List Int × Int) := if (a1.size : Int) > 24 then (some (([] : List Int), 2)) else ((slices_Clone_byte_byte.f l0).bind fun t121 => (if t121.length < 140737488355328 then ((some (t121 ++ [((a1.size : Int)) % 256] : List Int)).bind fun y124 => (if y124.length + a1.size < 140737488355328 then (some ((y124 ++ bytesOf a1), 0)) else (none))) else (none)))
set_option maxHeartbeats 8000000 in
set_option maxRecDepth 100000 in
theorem wire_PutText.calls (A0 : Option Addr) (c0 : Nat) (l0 : List Int) (a1 : ByteArray) (r1 : List Int) (r2 : Int) (w : World) (hr0 : Kd.C (Kd.int .u8) w A0 l0.length l0) (hc0 : l0.length ≤ c0) (h : wire_PutText.f l0 a1 = some (r1, r2)) :
  Calls Try.prog 104 #[.slice A0 l0.length c0, .string a1] w fun e w' => ∃ v0_ : Value, e = .returned (.tuple #[v0_, .int .i64 r2]) ∧ Kd.R (Kd.int .u8) 5 w' w.heap.size (fun _ => True) v0_ r1 ∧ Below w.heap.size w w' := by
 have HR0 := mk_ hr0
 have HC0 := mk_ hc0
 clear hr0 hc0
 have HB := mk_ (Below.refl w.heap.size w)
 have H : (if (a1.size : Int) > 24 then (some (([] : List Int), 2)) else ((slices_Clone_byte_byte.f l0).bind fun t121 => (if t121.length < 140737488355328 then ((some (t121 ++ [((a1.size : Int)) % 256] : List Int)).bind fun y124 => (if y124.length + a1.size < 140737488355328 then (some ((y124 ++ bytesOf a1), 0)) else (none))) else (none)))) = some (r1, r2) := h
 clear h
 by_cases c3 : (a1.size : Int) > 24
 ·
  rw [if_pos c3] at H
  have c3b0 : decide (24 < (a1.size : Int)) = true := decide_eq_true c3
  have c3b1 : decide (24 < a1.size) = true := decide_eq_true z2_
  clear c3
  simp only [Option.some.injEq, Prod.mk.injEq] at H
  obtain ⟨rfl, rfl⟩ := H
  go_enter Try.func104, Try.ntmps104
  go_wp2
  go_ret2
  exact ⟨_, by first | rfl | (simp [errW_none, errW_some] <;> rfl) | (simp [*, errW_none, errW_some] <;> rfl), by first | exact R_nil _ _ _ _ _ | exact N_nil _ _ _ _ _ | exact V_nil _ _ _ _ _ | exact Q_nil _ _ _ _ _ | exact S_nil _ _ _ _ _, Short.hB HB⟩
 ·
  rw [if_neg c3] at H
  have c3b0 : decide (24 < (a1.size : Int)) = false := decide_eq_false c3
  have c3b1 : decide (24 < a1.size) = false := decide_eq_false z2_
  clear c3
  replace H := Option.bind_eq_some_iff.mp H
  obtain ⟨t121, A40, H⟩ := H
  replace H : (if t121.length < 140737488355328 then ((some (t121 ++ [((a1.size : Int)) % 256] : List Int)).bind fun y124 => (if y124.length + a1.size < 140737488355328 then (some ((y124 ++ bytesOf a1), 0)) else (none))) else (none)) = some (r1, r2) := H
  have A4 := mk_ A40
  clear A40
  by_cases c5 : t121.length < 140737488355328
  ·
   rw [if_pos c5] at H
   have LMc5 := mk_ c5
   clear c5
   obtain ⟨y124, hy124⟩ : ∃ y_ : List Int, y_ = (t121 ++ [((a1.size : Int)) % 256]) := ⟨_, rfl⟩
   replace H : (if y124.length + a1.size < 140737488355328 then (some ((y124 ++ bytesOf a1), 0)) else (none)) = some (r1, r2) := by first | (rw [hy124]; with_reducible exact H) | (have H2_ := (Option.bind_some _ _).symm.trans H; rw [hy124]; with_reducible exact H2_) | (have H2_ := (Option.bind_some _ _).symm.trans H; with_reducible exact H2_) | with_reducible exact H | (rw [hy124]; exact H) | exact H
   have Ny124 := mk_ hy124
   clear hy124
   by_cases c6 : y124.length + a1.size < 140737488355328
   ·
    rw [if_pos c6] at H
    have LMc6 := mk_ c6
    clear c6
    obtain ⟨y127, hy127⟩ : ∃ y_ : List Int, y_ = (y124 ++ bytesOf a1) := ⟨_, rfl⟩
    replace H : (some (y127, 0)) = some (r1, r2) := by first | (rw [hy127]; with_reducible exact H) | (have H2_ := (Option.bind_some _ _).symm.trans H; rw [hy127]; with_reducible exact H2_) | (have H2_ := (Option.bind_some _ _).symm.trans H; with_reducible exact H2_) | with_reducible exact H | (rw [hy127]; exact H) | exact H
    have Ny127 := mk_ hy127
    clear hy127
    simp only [Option.some.injEq, Prod.mk.injEq] at H
    obtain ⟨rfl, rfl⟩ := H
    go_enter Try.func104, Try.ntmps104
    go_wp2_with (first | ((with_reducible refine gate_callee (f := 58) rfl ?_); refine Short.gL (some 10) Try.func58 #[.slice A0 l0.length c0] (h := ?_); (with_reducible refine (slices_Clone_byte_byte.calls _ _ l0 t121 _ ?side1 ?side2 A4.out).mono ?_); (case side1 => repeat (first | exact HR0.out | (with_reducible refine C_alloc ?_ _) | (with_reducible refine C_drewN ?_ _) | (with_reducible refine C_drew ?_))); (case side2 => exact HC0.out); rintro e w7 ⟨v122, rfl, ho0, hb⟩; refine ⟨_, rfl, ?_⟩; have n0_ := mk_ (R_lower ho0 (below_size (Short.hB HB))); have n1_ := mk_ (below_step (Short.hB HB) hb); clear HB; revert n0_ n1_; intro HO123 HB; (try clear hb ho0)) | ((with_reducible refine gate_builtin (b := .append) (xs := #[.tmp 10, .tmp 14]) rfl ?_); at_builtin; refine R_append (Kd.int .u8) (w0 := w) w.heap.size rfl (.tmp 10) (.tmp 14) 22 5 (.int .u8 0) 1 rfl Try.underlying22 info5 rfl z5_ z2_ v122 t121 (((a1.size : Int)) % 256) [.int .u8 (((a1.size : Int)) % 256)] (fun _ => True) (fun _ => False) rfl rfl ?aP (fun _ hk => hk.elim) ?aF ?aO ?aB ?aS ?aL ?_; (case aP => exact rfl); (case aB => exact (Short.hB HB)); (case aF => exact (fun _ _ => trivial)); (case aO => exact (ZKR HO123)); (case aS => exact (below_size (Short.hB HB))); (case aL => have := LMc5.out; omega); intro v125 w8 ho hb hg hat; rw [← Ny124.out] at ho; have n0_ := mk_ (hb); have n1_ := mk_ (ho); clear HB HO123; revert n0_ n1_; intro HB HO126; clear ho hb hg hat) | (at_builtin; refine print_append_str (w0 := w) w.heap.size rfl (.tmp 15) _ 22 9 5 rfl Try.underlying22 Try.underlying9 info5 v125 y124 a1 rfl rfl ?aO ?aB ?aS ?aL ?_; (case aB => exact (Short.hB HB)); (case aO => exact (Kd.own_of_R (ZKR HO126))); (case aS => exact (below_size (Short.hB HB))); (case aL => have := LMc6.out; omega); intro v128 w9 ho0 hb hg; have ho := R_of_own (h1 := fun _ => rfl) (ok := fun _ => True) ho0 (fun _ _ => trivial); clear ho0; have hat := True.intro; rw [← Ny127.out] at ho; change Kd.R (Kd.int .u8) 5 w9 w.heap.size (fun _ => True) v128 y127 at ho; have n0_ := mk_ (hb); have n1_ := mk_ (ho); clear HB HO126; revert n0_ n1_; intro HB HO129; clear ho hb hg hat))
    go_ret2
    exact ⟨_, by first | rfl | (simp [errW_none, errW_some] <;> rfl) | (simp [*, errW_none, errW_some] <;> rfl), by (with_reducible repeat (first | apply R_alloc | apply R_drewN | apply R_drew)); exact HO129.out, Short.hB HB⟩
   ·
    rw [if_neg c6] at H
    exact absurd H (by simp)
  ·
   rw [if_neg c5] at H
   exact absurd H (by simp)
def value_within.f (a0 : Int) (a1 : Int) : Option (Bool) := if a0 ≥ (wrap64 (-a1)) then (some (decide (a0 ≤ a1))) else (some false)
set_option maxHeartbeats 8000000 in
set_option maxRecDepth 100000 in
theorem value_within.calls (a0 : Int) (a1 : Int) (r : Bool) (w : World) (h : value_within.f a0 a1 = some r) :
  Calls Try.prog 112 #[.int .i64 a0, .int .i64 a1] w fun e w' => e = .returned (.bool r) ∧ Drawn0 w w' := by
 have H : (if a0 ≥ (wrap64 (-a1)) then (some (decide (a0 ≤ a1))) else (some false)) = some r := h
 clear h
 by_cases c3 : a0 ≥ (wrap64 (-a1))
 ·
  rw [if_pos c3] at H
  have c3b0 : decide ((wrap64 (-a1)) ≤ a0) = true := decide_eq_true c3
  clear c3
  obtain rfl := Option.some.inj H
  go_enter Try.func112, Try.ntmps112
  go_wp2
  go_ret
  exact ⟨z3_, by repeat (first | exact Drawn0.refl _ | apply Drawn0.step)⟩
 ·
  rw [if_neg c3] at H
  have c3b0 : decide ((wrap64 (-a1)) ≤ a0) = false := decide_eq_false c3
  clear c3
  obtain rfl := Option.some.inj H
  go_enter Try.func112, Try.ntmps112
  go_wp2
  go_ret
  exact ⟨z3_, by repeat (first | exact Drawn0.refl _ | apply Drawn0.step)⟩
def value_Check.f (a0_0 : Int) (a0_1 : Int) (a0_2 : ByteArray) : Option (Int) := if a0_0 = 1 then (if a0_1 = 0 then (if (a0_2.toList = ([] : List UInt8)) then (some 0) else (some 1)) else (some 1)) else (if a0_0 = 2 then (if a0_1 = 0 then (if (a0_2.toList = ([] : List UInt8)) then (some 0) else (some 1)) else (if a0_1 = 1 then (if (a0_2.toList = ([] : List UInt8)) then (some 0) else (some 1)) else (some 1))) else (if a0_0 = 3 then ((value_within.f a0_1 1152921504606846976).bind fun t136 => (if t136 = true then (if (a0_2.toList = ([] : List UInt8)) then (some 0) else (some 1)) else (some 1))) else (if a0_0 = 4 then (if a0_1 = 0 then (if ((a0_2.size : Int) ≤ 24) then (some 0) else (some 1)) else (some 1)) else (some 1))))
set_option maxHeartbeats 8000000 in
set_option maxRecDepth 100000 in
theorem value_Check.calls (a0_0 : Int) (a0_1 : Int) (a0_2 : ByteArray) (r : Int) (w : World) (h : value_Check.f a0_0 a0_1 a0_2 = some r) :
  Calls Try.prog 108 #[.agg #[.int .i64 a0_0, .int .i64 a0_1, .string a0_2]] w fun e w' => e = .returned (.int .i64 r) ∧ Below w.heap.size w w' := by
 have hu89 := Try.underlying89
 have HB := mk_ (Below.refl w.heap.size w)
 have H : (if a0_0 = 1 then (if a0_1 = 0 then (if (a0_2.toList = ([] : List UInt8)) then (some 0) else (some 1)) else (some 1)) else (if a0_0 = 2 then (if a0_1 = 0 then (if (a0_2.toList = ([] : List UInt8)) then (some 0) else (some 1)) else (if a0_1 = 1 then (if (a0_2.toList = ([] : List UInt8)) then (some 0) else (some 1)) else (some 1))) else (if a0_0 = 3 then ((value_within.f a0_1 1152921504606846976).bind fun t136 => (if t136 = true then (if (a0_2.toList = ([] : List UInt8)) then (some 0) else (some 1)) else (some 1))) else (if a0_0 = 4 then (if a0_1 = 0 then (if ((a0_2.size : Int) ≤ 24) then (some 0) else (some 1)) else (some 1)) else (some 1))))) = some r := h
 clear h
 by_cases c2 : a0_0 = 1
 ·
  rw [if_pos c2] at H
  have c2b0 : (a0_0 == 1) = true := beq_iff_eq.mpr c2
  have c2b1 : (a0_0 != 1) = false := bne_eq_false_iff_eq.mpr c2
  clear c2
  by_cases c3 : a0_1 = 0
  ·
   rw [if_pos c3] at H
   have c3b0 : (a0_1 == 0) = true := beq_iff_eq.mpr c3
   have c3b1 : (a0_1 != 0) = false := bne_eq_false_iff_eq.mpr c3
   clear c3
   by_cases c4 : (a0_2.toList = ([] : List UInt8))
   ·
    rw [if_pos c4] at H
    have c4b0 : (a0_2.toList == ([] : List UInt8)) = true := beq_iff_eq.mpr c4
    have c4b1 : (a0_2.toList != ([] : List UInt8)) = false := bne_eq_false_iff_eq.mpr c4
    clear c4
    obtain rfl := Option.some.inj H
    go_enter Try.func108, Try.ntmps108
    go_wp2_with (first | ((with_reducible refine gate_dst (N := 1) rfl ?_); (try (refine gate_guard (by rfl) ?_; dsimp only)); refine box_event ?hg (N := 1) ?hd (cs := #[.int .i64 a0_0, .int .i64 a0_1, .string a0_2]) (t := 89) ?hr ?_; (case hd => rfl); (case hg => rfl); (case hr => first | (go_simp; done) | (go_simp; rfl)); intro gb135 hg w5 hbox hb; have n0_ := mk_ (below_step (Short.hB HB) hb); have n1_ := mk_ (hbox); have n2_ := mk_ ((by rw [hg]; exact (below_size (Short.hB HB)) : w.heap.size ≤ gb135)); have n3_ := mk_ ((by rw [hg]; exact (below_size (Short.hB HB)) : w.heap.size ≤ gb135)); clear HB; revert n0_ n1_ n2_ n3_; intro HB BK135 GW135 GE135; clear hb hbox hg; obtain ⟨hcz6_0, hcz6_1, hcz6_2, hfz6_0, hfz6_1, hfz6_2⟩ := Short.c3 BK135.out))
    go_ret
    exact ⟨by first | rfl | (simp [errW_none, errW_some] <;> rfl) | (simp [*, errW_none, errW_some] <;> rfl), Short.hB HB⟩
   ·
    rw [if_neg c4] at H
    have c4b0 : (a0_2.toList == ([] : List UInt8)) = false := beq_eq_false_iff_ne.mpr c4
    have c4b1 : (a0_2.toList != ([] : List UInt8)) = true := bne_iff_ne.mpr c4
    obtain rfl := Option.some.inj H
    go_enter Try.func108, Try.ntmps108
    go_wp2_with (first | ((with_reducible refine gate_dst (N := 1) rfl ?_); (try (refine gate_guard (by rfl) ?_; dsimp only)); refine box_event ?hg (N := 1) ?hd (cs := #[.int .i64 a0_0, .int .i64 a0_1, .string a0_2]) (t := 89) ?hr ?_; (case hd => rfl); (case hg => rfl); (case hr => first | (go_simp; done) | (go_simp; rfl)); intro gb135 hg w7 hbox hb; have n0_ := mk_ (below_step (Short.hB HB) hb); have n1_ := mk_ (hbox); have n2_ := mk_ ((by rw [hg]; exact (below_size (Short.hB HB)) : w.heap.size ≤ gb135)); have n3_ := mk_ ((by rw [hg]; exact (below_size (Short.hB HB)) : w.heap.size ≤ gb135)); clear HB; revert n0_ n1_ n2_ n3_; intro HB BK135 GW135 GE135; clear hb hbox hg; obtain ⟨hcz8_0, hcz8_1, hcz8_2, hfz8_0, hfz8_1, hfz8_2⟩ := Short.c3 BK135.out))
    go_ret
    exact ⟨by first | rfl | (simp [errW_none, errW_some] <;> rfl) | (simp [*, errW_none, errW_some] <;> rfl), Short.hB HB⟩
  ·
   rw [if_neg c3] at H
   have c3b0 : (a0_1 == 0) = false := beq_eq_false_iff_ne.mpr c3
   have c3b1 : (a0_1 != 0) = true := bne_iff_ne.mpr c3
   obtain rfl := Option.some.inj H
   go_enter Try.func108, Try.ntmps108
   go_wp2_with (first | ((with_reducible refine gate_dst (N := 1) rfl ?_); (try (refine gate_guard (by rfl) ?_; dsimp only)); refine box_event ?hg (N := 1) ?hd (cs := #[.int .i64 a0_0, .int .i64 a0_1, .string a0_2]) (t := 89) ?hr ?_; (case hd => rfl); (case hg => rfl); (case hr => first | (go_simp; done) | (go_simp; rfl)); intro gb135 hg w9 hbox hb; have n0_ := mk_ (below_step (Short.hB HB) hb); have n1_ := mk_ (hbox); have n2_ := mk_ ((by rw [hg]; exact (below_size (Short.hB HB)) : w.heap.size ≤ gb135)); have n3_ := mk_ ((by rw [hg]; exact (below_size (Short.hB HB)) : w.heap.size ≤ gb135)); clear HB; revert n0_ n1_ n2_ n3_; intro HB BK135 GW135 GE135; clear hb hbox hg; obtain ⟨hcz10_0, hcz10_1, hcz10_2, hfz10_0, hfz10_1, hfz10_2⟩ := Short.c3 BK135.out))
   go_ret
   exact ⟨by first | rfl | (simp [errW_none, errW_some] <;> rfl) | (simp [*, errW_none, errW_some] <;> rfl), Short.hB HB⟩
 ·
  rw [if_neg c2] at H
  have c2b0 : (a0_0 == 1) = false := beq_eq_false_iff_ne.mpr c2
  have c2b1 : (a0_0 != 1) = true := bne_iff_ne.mpr c2
  by_cases c11 : a0_0 = 2
  ·
   rw [if_pos c11] at H
   have c11b0 : (a0_0 == 2) = true := beq_iff_eq.mpr c11
   have c11b1 : (a0_0 != 2) = false := bne_eq_false_iff_eq.mpr c11
   clear c11
   by_cases c12 : a0_1 = 0
   ·
    rw [if_pos c12] at H
    have c12b0 : (a0_1 == 0) = true := beq_iff_eq.mpr c12
    have c12b1 : (a0_1 != 0) = false := bne_eq_false_iff_eq.mpr c12
    clear c12
    by_cases c13 : (a0_2.toList = ([] : List UInt8))
    ·
     rw [if_pos c13] at H
     have c13b0 : (a0_2.toList == ([] : List UInt8)) = true := beq_iff_eq.mpr c13
     have c13b1 : (a0_2.toList != ([] : List UInt8)) = false := bne_eq_false_iff_eq.mpr c13
     clear c13
     obtain rfl := Option.some.inj H
     go_enter Try.func108, Try.ntmps108
     go_wp2_with (first | ((with_reducible refine gate_dst (N := 1) rfl ?_); (try (refine gate_guard (by rfl) ?_; dsimp only)); refine box_event ?hg (N := 1) ?hd (cs := #[.int .i64 a0_0, .int .i64 a0_1, .string a0_2]) (t := 89) ?hr ?_; (case hd => rfl); (case hg => rfl); (case hr => first | (go_simp; done) | (go_simp; rfl)); intro gb135 hg w14 hbox hb; have n0_ := mk_ (below_step (Short.hB HB) hb); have n1_ := mk_ (hbox); have n2_ := mk_ ((by rw [hg]; exact (below_size (Short.hB HB)) : w.heap.size ≤ gb135)); have n3_ := mk_ ((by rw [hg]; exact (below_size (Short.hB HB)) : w.heap.size ≤ gb135)); clear HB; revert n0_ n1_ n2_ n3_; intro HB BK135 GW135 GE135; clear hb hbox hg; obtain ⟨hcz15_0, hcz15_1, hcz15_2, hfz15_0, hfz15_1, hfz15_2⟩ := Short.c3 BK135.out))
     go_ret
     exact ⟨by first | rfl | (simp [errW_none, errW_some] <;> rfl) | (simp [*, errW_none, errW_some] <;> rfl), Short.hB HB⟩
    ·
     rw [if_neg c13] at H
     have c13b0 : (a0_2.toList == ([] : List UInt8)) = false := beq_eq_false_iff_ne.mpr c13
     have c13b1 : (a0_2.toList != ([] : List UInt8)) = true := bne_iff_ne.mpr c13
     obtain rfl := Option.some.inj H
     go_enter Try.func108, Try.ntmps108
     go_wp2_with (first | ((with_reducible refine gate_dst (N := 1) rfl ?_); (try (refine gate_guard (by rfl) ?_; dsimp only)); refine box_event ?hg (N := 1) ?hd (cs := #[.int .i64 a0_0, .int .i64 a0_1, .string a0_2]) (t := 89) ?hr ?_; (case hd => rfl); (case hg => rfl); (case hr => first | (go_simp; done) | (go_simp; rfl)); intro gb135 hg w16 hbox hb; have n0_ := mk_ (below_step (Short.hB HB) hb); have n1_ := mk_ (hbox); have n2_ := mk_ ((by rw [hg]; exact (below_size (Short.hB HB)) : w.heap.size ≤ gb135)); have n3_ := mk_ ((by rw [hg]; exact (below_size (Short.hB HB)) : w.heap.size ≤ gb135)); clear HB; revert n0_ n1_ n2_ n3_; intro HB BK135 GW135 GE135; clear hb hbox hg; obtain ⟨hcz17_0, hcz17_1, hcz17_2, hfz17_0, hfz17_1, hfz17_2⟩ := Short.c3 BK135.out))
     go_ret
     exact ⟨by first | rfl | (simp [errW_none, errW_some] <;> rfl) | (simp [*, errW_none, errW_some] <;> rfl), Short.hB HB⟩
   ·
    rw [if_neg c12] at H
    have c12b0 : (a0_1 == 0) = false := beq_eq_false_iff_ne.mpr c12
    have c12b1 : (a0_1 != 0) = true := bne_iff_ne.mpr c12
    by_cases c18 : a0_1 = 1
    ·
     rw [if_pos c18] at H
     have c18b0 : (a0_1 == 1) = true := beq_iff_eq.mpr c18
     have c18b1 : (a0_1 != 1) = false := bne_eq_false_iff_eq.mpr c18
     clear c18
     by_cases c19 : (a0_2.toList = ([] : List UInt8))
     ·
      rw [if_pos c19] at H
      have c19b0 : (a0_2.toList == ([] : List UInt8)) = true := beq_iff_eq.mpr c19
      have c19b1 : (a0_2.toList != ([] : List UInt8)) = false := bne_eq_false_iff_eq.mpr c19
      clear c19
      obtain rfl := Option.some.inj H
      go_enter Try.func108, Try.ntmps108
      go_wp2_with (first | ((with_reducible refine gate_dst (N := 1) rfl ?_); (try (refine gate_guard (by rfl) ?_; dsimp only)); refine box_event ?hg (N := 1) ?hd (cs := #[.int .i64 a0_0, .int .i64 a0_1, .string a0_2]) (t := 89) ?hr ?_; (case hd => rfl); (case hg => rfl); (case hr => first | (go_simp; done) | (go_simp; rfl)); intro gb135 hg w20 hbox hb; have n0_ := mk_ (below_step (Short.hB HB) hb); have n1_ := mk_ (hbox); have n2_ := mk_ ((by rw [hg]; exact (below_size (Short.hB HB)) : w.heap.size ≤ gb135)); have n3_ := mk_ ((by rw [hg]; exact (below_size (Short.hB HB)) : w.heap.size ≤ gb135)); clear HB; revert n0_ n1_ n2_ n3_; intro HB BK135 GW135 GE135; clear hb hbox hg; obtain ⟨hcz21_0, hcz21_1, hcz21_2, hfz21_0, hfz21_1, hfz21_2⟩ := Short.c3 BK135.out))
      go_ret
      exact ⟨by first | rfl | (simp [errW_none, errW_some] <;> rfl) | (simp [*, errW_none, errW_some] <;> rfl), Short.hB HB⟩
     ·
      rw [if_neg c19] at H
      have c19b0 : (a0_2.toList == ([] : List UInt8)) = false := beq_eq_false_iff_ne.mpr c19
      have c19b1 : (a0_2.toList != ([] : List UInt8)) = true := bne_iff_ne.mpr c19
      obtain rfl := Option.some.inj H
      go_enter Try.func108, Try.ntmps108
      go_wp2_with (first | ((with_reducible refine gate_dst (N := 1) rfl ?_); (try (refine gate_guard (by rfl) ?_; dsimp only)); refine box_event ?hg (N := 1) ?hd (cs := #[.int .i64 a0_0, .int .i64 a0_1, .string a0_2]) (t := 89) ?hr ?_; (case hd => rfl); (case hg => rfl); (case hr => first | (go_simp; done) | (go_simp; rfl)); intro gb135 hg w22 hbox hb; have n0_ := mk_ (below_step (Short.hB HB) hb); have n1_ := mk_ (hbox); have n2_ := mk_ ((by rw [hg]; exact (below_size (Short.hB HB)) : w.heap.size ≤ gb135)); have n3_ := mk_ ((by rw [hg]; exact (below_size (Short.hB HB)) : w.heap.size ≤ gb135)); clear HB; revert n0_ n1_ n2_ n3_; intro HB BK135 GW135 GE135; clear hb hbox hg; obtain ⟨hcz23_0, hcz23_1, hcz23_2, hfz23_0, hfz23_1, hfz23_2⟩ := Short.c3 BK135.out))
      go_ret
      exact ⟨by first | rfl | (simp [errW_none, errW_some] <;> rfl) | (simp [*, errW_none, errW_some] <;> rfl), Short.hB HB⟩
    ·
     rw [if_neg c18] at H
     have c18b0 : (a0_1 == 1) = false := beq_eq_false_iff_ne.mpr c18
     have c18b1 : (a0_1 != 1) = true := bne_iff_ne.mpr c18
     obtain rfl := Option.some.inj H
     go_enter Try.func108, Try.ntmps108
     go_wp2_with (first | ((with_reducible refine gate_dst (N := 1) rfl ?_); (try (refine gate_guard (by rfl) ?_; dsimp only)); refine box_event ?hg (N := 1) ?hd (cs := #[.int .i64 a0_0, .int .i64 a0_1, .string a0_2]) (t := 89) ?hr ?_; (case hd => rfl); (case hg => rfl); (case hr => first | (go_simp; done) | (go_simp; rfl)); intro gb135 hg w24 hbox hb; have n0_ := mk_ (below_step (Short.hB HB) hb); have n1_ := mk_ (hbox); have n2_ := mk_ ((by rw [hg]; exact (below_size (Short.hB HB)) : w.heap.size ≤ gb135)); have n3_ := mk_ ((by rw [hg]; exact (below_size (Short.hB HB)) : w.heap.size ≤ gb135)); clear HB; revert n0_ n1_ n2_ n3_; intro HB BK135 GW135 GE135; clear hb hbox hg; obtain ⟨hcz25_0, hcz25_1, hcz25_2, hfz25_0, hfz25_1, hfz25_2⟩ := Short.c3 BK135.out))
     go_ret
     exact ⟨by first | rfl | (simp [errW_none, errW_some] <;> rfl) | (simp [*, errW_none, errW_some] <;> rfl), Short.hB HB⟩
  ·
   rw [if_neg c11] at H
   have c11b0 : (a0_0 == 2) = false := beq_eq_false_iff_ne.mpr c11
   have c11b1 : (a0_0 != 2) = true := bne_iff_ne.mpr c11
   by_cases c26 : a0_0 = 3
   ·
    rw [if_pos c26] at H
    have c26b0 : (a0_0 == 3) = true := beq_iff_eq.mpr c26
    have c26b1 : (a0_0 != 3) = false := bne_eq_false_iff_eq.mpr c26
    clear c26
    replace H := Option.bind_eq_some_iff.mp H
    obtain ⟨t136, A270, H⟩ := H
    replace H : (if t136 = true then (if (a0_2.toList = ([] : List UInt8)) then (some 0) else (some 1)) else (some 1)) = some r := H
    have A27 := mk_ A270
    clear A270
    by_cases c28 : t136 = true
    ·
     subst c28
     have H1 : (if (a0_2.toList = ([] : List UInt8)) then (some 0) else (some 1)) = some r := by rw [if_pos rfl] at H; exact H
     clear H
     have H := H1
     clear H1
     by_cases c29 : (a0_2.toList = ([] : List UInt8))
     ·
      rw [if_pos c29] at H
      have c29b0 : (a0_2.toList == ([] : List UInt8)) = true := beq_iff_eq.mpr c29
      have c29b1 : (a0_2.toList != ([] : List UInt8)) = false := bne_eq_false_iff_eq.mpr c29
      clear c29
      obtain rfl := Option.some.inj H
      go_enter Try.func108, Try.ntmps108
      go_wp2_with (first | ((with_reducible refine gate_dst (N := 1) rfl ?_); (try (refine gate_guard (by rfl) ?_; dsimp only)); refine box_event ?hg (N := 1) ?hd (cs := #[.int .i64 a0_0, .int .i64 a0_1, .string a0_2]) (t := 89) ?hr ?_; (case hd => rfl); (case hg => rfl); (case hr => first | (go_simp; done) | (go_simp; rfl)); intro gb135 hg w30 hbox hb; have n0_ := mk_ (below_step (Short.hB HB) hb); have n1_ := mk_ (hbox); have n2_ := mk_ ((by rw [hg]; exact (below_size (Short.hB HB)) : w.heap.size ≤ gb135)); have n3_ := mk_ ((by rw [hg]; exact (below_size (Short.hB HB)) : w.heap.size ≤ gb135)); clear HB; revert n0_ n1_ n2_ n3_; intro HB BK135 GW135 GE135; clear hb hbox hg; obtain ⟨hcz31_0, hcz31_1, hcz31_2, hfz31_0, hfz31_1, hfz31_2⟩ := Short.c3 BK135.out) | ((with_reducible refine gate_callee (f := 112) rfl ?_); refine Short.gL (some 35) Try.func112 #[.int .i64 a0_1, .int .i64 1152921504606846976] (h := ?_); (with_reducible refine (value_within.calls a0_1 1152921504606846976 true _ A27.out).mono ?_); rintro e w' ⟨rfl, ⟨nd, rfl⟩⟩; refine ⟨_, rfl, ?_⟩))
      go_ret
      exact ⟨by first | rfl | (simp [errW_none, errW_some] <;> rfl) | (simp [*, errW_none, errW_some] <;> rfl), Short.hB HB⟩
     ·
      rw [if_neg c29] at H
      have c29b0 : (a0_2.toList == ([] : List UInt8)) = false := beq_eq_false_iff_ne.mpr c29
      have c29b1 : (a0_2.toList != ([] : List UInt8)) = true := bne_iff_ne.mpr c29
      obtain rfl := Option.some.inj H
      go_enter Try.func108, Try.ntmps108
      go_wp2_with (first | ((with_reducible refine gate_dst (N := 1) rfl ?_); (try (refine gate_guard (by rfl) ?_; dsimp only)); refine box_event ?hg (N := 1) ?hd (cs := #[.int .i64 a0_0, .int .i64 a0_1, .string a0_2]) (t := 89) ?hr ?_; (case hd => rfl); (case hg => rfl); (case hr => first | (go_simp; done) | (go_simp; rfl)); intro gb135 hg w32 hbox hb; have n0_ := mk_ (below_step (Short.hB HB) hb); have n1_ := mk_ (hbox); have n2_ := mk_ ((by rw [hg]; exact (below_size (Short.hB HB)) : w.heap.size ≤ gb135)); have n3_ := mk_ ((by rw [hg]; exact (below_size (Short.hB HB)) : w.heap.size ≤ gb135)); clear HB; revert n0_ n1_ n2_ n3_; intro HB BK135 GW135 GE135; clear hb hbox hg; obtain ⟨hcz33_0, hcz33_1, hcz33_2, hfz33_0, hfz33_1, hfz33_2⟩ := Short.c3 BK135.out) | ((with_reducible refine gate_callee (f := 112) rfl ?_); refine Short.gL (some 35) Try.func112 #[.int .i64 a0_1, .int .i64 1152921504606846976] (h := ?_); (with_reducible refine (value_within.calls a0_1 1152921504606846976 true _ A27.out).mono ?_); rintro e w' ⟨rfl, ⟨nd, rfl⟩⟩; refine ⟨_, rfl, ?_⟩))
      go_ret
      exact ⟨by first | rfl | (simp [errW_none, errW_some] <;> rfl) | (simp [*, errW_none, errW_some] <;> rfl), Short.hB HB⟩
    ·
     replace c28 := Bool.eq_false_iff.mpr c28
     subst c28
     have H1 : (some 1) = some r := by rw [if_neg (show ¬ (false = true) by decide)] at H; exact H
     clear H
     have H := H1
     clear H1
     obtain rfl := Option.some.inj H
     go_enter Try.func108, Try.ntmps108
     go_wp2_with (first | ((with_reducible refine gate_dst (N := 1) rfl ?_); (try (refine gate_guard (by rfl) ?_; dsimp only)); refine box_event ?hg (N := 1) ?hd (cs := #[.int .i64 a0_0, .int .i64 a0_1, .string a0_2]) (t := 89) ?hr ?_; (case hd => rfl); (case hg => rfl); (case hr => first | (go_simp; done) | (go_simp; rfl)); intro gb135 hg w34 hbox hb; have n0_ := mk_ (below_step (Short.hB HB) hb); have n1_ := mk_ (hbox); have n2_ := mk_ ((by rw [hg]; exact (below_size (Short.hB HB)) : w.heap.size ≤ gb135)); have n3_ := mk_ ((by rw [hg]; exact (below_size (Short.hB HB)) : w.heap.size ≤ gb135)); clear HB; revert n0_ n1_ n2_ n3_; intro HB BK135 GW135 GE135; clear hb hbox hg; obtain ⟨hcz35_0, hcz35_1, hcz35_2, hfz35_0, hfz35_1, hfz35_2⟩ := Short.c3 BK135.out) | ((with_reducible refine gate_callee (f := 112) rfl ?_); refine Short.gL (some 35) Try.func112 #[.int .i64 a0_1, .int .i64 1152921504606846976] (h := ?_); (with_reducible refine (value_within.calls a0_1 1152921504606846976 false _ A27.out).mono ?_); rintro e w' ⟨rfl, ⟨nd, rfl⟩⟩; refine ⟨_, rfl, ?_⟩))
     go_ret
     exact ⟨by first | rfl | (simp [errW_none, errW_some] <;> rfl) | (simp [*, errW_none, errW_some] <;> rfl), Short.hB HB⟩
   ·
    rw [if_neg c26] at H
    have c26b0 : (a0_0 == 3) = false := beq_eq_false_iff_ne.mpr c26
    have c26b1 : (a0_0 != 3) = true := bne_iff_ne.mpr c26
    by_cases c36 : a0_0 = 4
    ·
     rw [if_pos c36] at H
     have c36b0 : (a0_0 == 4) = true := beq_iff_eq.mpr c36
     have c36b1 : (a0_0 != 4) = false := bne_eq_false_iff_eq.mpr c36
     clear c36
     by_cases c37 : a0_1 = 0
     ·
      rw [if_pos c37] at H
      have c37b0 : (a0_1 == 0) = true := beq_iff_eq.mpr c37
      have c37b1 : (a0_1 != 0) = false := bne_eq_false_iff_eq.mpr c37
      clear c37
      by_cases c38 : ((a0_2.size : Int) ≤ 24)
      ·
       rw [if_pos c38] at H
       have c38b0 : decide ((a0_2.size : Int) ≤ 24) = true := decide_eq_true c38
       have c38b1 : decide (a0_2.size ≤ 24) = true := decide_eq_true z2_
       clear c38
       obtain rfl := Option.some.inj H
       go_enter Try.func108, Try.ntmps108
       go_wp2_with (first | ((with_reducible refine gate_dst (N := 1) rfl ?_); (try (refine gate_guard (by rfl) ?_; dsimp only)); refine box_event ?hg (N := 1) ?hd (cs := #[.int .i64 a0_0, .int .i64 a0_1, .string a0_2]) (t := 89) ?hr ?_; (case hd => rfl); (case hg => rfl); (case hr => first | (go_simp; done) | (go_simp; rfl)); intro gb135 hg w39 hbox hb; have n0_ := mk_ (below_step (Short.hB HB) hb); have n1_ := mk_ (hbox); have n2_ := mk_ ((by rw [hg]; exact (below_size (Short.hB HB)) : w.heap.size ≤ gb135)); have n3_ := mk_ ((by rw [hg]; exact (below_size (Short.hB HB)) : w.heap.size ≤ gb135)); clear HB; revert n0_ n1_ n2_ n3_; intro HB BK135 GW135 GE135; clear hb hbox hg; obtain ⟨hcz40_0, hcz40_1, hcz40_2, hfz40_0, hfz40_1, hfz40_2⟩ := Short.c3 BK135.out))
       go_ret
       exact ⟨by first | rfl | (simp [errW_none, errW_some] <;> rfl) | (simp [*, errW_none, errW_some] <;> rfl), Short.hB HB⟩
      ·
       rw [if_neg c38] at H
       have c38b0 : decide ((a0_2.size : Int) ≤ 24) = false := decide_eq_false c38
       have c38b1 : decide (a0_2.size ≤ 24) = false := decide_eq_false z2_
       clear c38
       obtain rfl := Option.some.inj H
       go_enter Try.func108, Try.ntmps108
       go_wp2_with (first | ((with_reducible refine gate_dst (N := 1) rfl ?_); (try (refine gate_guard (by rfl) ?_; dsimp only)); refine box_event ?hg (N := 1) ?hd (cs := #[.int .i64 a0_0, .int .i64 a0_1, .string a0_2]) (t := 89) ?hr ?_; (case hd => rfl); (case hg => rfl); (case hr => first | (go_simp; done) | (go_simp; rfl)); intro gb135 hg w41 hbox hb; have n0_ := mk_ (below_step (Short.hB HB) hb); have n1_ := mk_ (hbox); have n2_ := mk_ ((by rw [hg]; exact (below_size (Short.hB HB)) : w.heap.size ≤ gb135)); have n3_ := mk_ ((by rw [hg]; exact (below_size (Short.hB HB)) : w.heap.size ≤ gb135)); clear HB; revert n0_ n1_ n2_ n3_; intro HB BK135 GW135 GE135; clear hb hbox hg; obtain ⟨hcz42_0, hcz42_1, hcz42_2, hfz42_0, hfz42_1, hfz42_2⟩ := Short.c3 BK135.out))
       go_ret
       exact ⟨by first | rfl | (simp [errW_none, errW_some] <;> rfl) | (simp [*, errW_none, errW_some] <;> rfl), Short.hB HB⟩
     ·
      rw [if_neg c37] at H
      have c37b0 : (a0_1 == 0) = false := beq_eq_false_iff_ne.mpr c37
      have c37b1 : (a0_1 != 0) = true := bne_iff_ne.mpr c37
      obtain rfl := Option.some.inj H
      go_enter Try.func108, Try.ntmps108
      go_wp2_with (first | ((with_reducible refine gate_dst (N := 1) rfl ?_); (try (refine gate_guard (by rfl) ?_; dsimp only)); refine box_event ?hg (N := 1) ?hd (cs := #[.int .i64 a0_0, .int .i64 a0_1, .string a0_2]) (t := 89) ?hr ?_; (case hd => rfl); (case hg => rfl); (case hr => first | (go_simp; done) | (go_simp; rfl)); intro gb135 hg w43 hbox hb; have n0_ := mk_ (below_step (Short.hB HB) hb); have n1_ := mk_ (hbox); have n2_ := mk_ ((by rw [hg]; exact (below_size (Short.hB HB)) : w.heap.size ≤ gb135)); have n3_ := mk_ ((by rw [hg]; exact (below_size (Short.hB HB)) : w.heap.size ≤ gb135)); clear HB; revert n0_ n1_ n2_ n3_; intro HB BK135 GW135 GE135; clear hb hbox hg; obtain ⟨hcz44_0, hcz44_1, hcz44_2, hfz44_0, hfz44_1, hfz44_2⟩ := Short.c3 BK135.out))
      go_ret
      exact ⟨by first | rfl | (simp [errW_none, errW_some] <;> rfl) | (simp [*, errW_none, errW_some] <;> rfl), Short.hB HB⟩
    ·
     rw [if_neg c36] at H
     have c36b0 : (a0_0 == 4) = false := beq_eq_false_iff_ne.mpr c36
     have c36b1 : (a0_0 != 4) = true := bne_iff_ne.mpr c36
     obtain rfl := Option.some.inj H
     go_enter Try.func108, Try.ntmps108
     go_wp2_with (first | ((with_reducible refine gate_dst (N := 1) rfl ?_); (try (refine gate_guard (by rfl) ?_; dsimp only)); refine box_event ?hg (N := 1) ?hd (cs := #[.int .i64 a0_0, .int .i64 a0_1, .string a0_2]) (t := 89) ?hr ?_; (case hd => rfl); (case hg => rfl); (case hr => first | (go_simp; done) | (go_simp; rfl)); intro gb135 hg w45 hbox hb; have n0_ := mk_ (below_step (Short.hB HB) hb); have n1_ := mk_ (hbox); have n2_ := mk_ ((by rw [hg]; exact (below_size (Short.hB HB)) : w.heap.size ≤ gb135)); have n3_ := mk_ ((by rw [hg]; exact (below_size (Short.hB HB)) : w.heap.size ≤ gb135)); clear HB; revert n0_ n1_ n2_ n3_; intro HB BK135 GW135 GE135; clear hb hbox hg; obtain ⟨hcz46_0, hcz46_1, hcz46_2, hfz46_0, hfz46_1, hfz46_2⟩ := Short.c3 BK135.out))
     go_ret
     exact ⟨by first | rfl | (simp [errW_none, errW_some] <;> rfl) | (simp [*, errW_none, errW_some] <;> rfl), Short.hB HB⟩
def wire_PutInt.j0 : Nat → List Int → Int → Bool → Option (List Int × Int)
 | 0, _, _, _ => none
 | k + 1, x0, x1, x12 => if x12 = true then (some (([] : List Int), 1)) else (if x1 < 0 then ((slices_Clone_byte_byte.f x0).bind fun t137 => (if t137.length < 140737488355328 then ((wire_big.f k (t137 ++ [1]) (wrap64 (-x1)) 8).bind fun t143 => (some (t143, 0))) else (none))) else ((slices_Clone_byte_byte.f x0).bind fun t146 => (if t146.length < 140737488355328 then ((wire_big.f k (t146 ++ [0]) x1 8).bind fun t152 => (some (t152, 0))) else (none))))
def wire_PutInt.f (k : Nat) (l0 : List Int) (a1 : Int) : Option (List Int × Int) := if a1 < (-1152921504606846976) then (wire_PutInt.j0 k l0 a1 true) else (wire_PutInt.j0 k l0 a1 (decide (a1 > 1152921504606846976)))
set_option maxHeartbeats 8000000 in
set_option maxRecDepth 100000 in
theorem wire_PutInt.calls (k : Nat) (A0 : Option Addr) (c0 : Nat) (l0 : List Int) (a1 : Int) (r1 : List Int) (r2 : Int) (w : World) (hr0 : Kd.C (Kd.int .u8) w A0 l0.length l0) (hc0 : l0.length ≤ c0) (h : wire_PutInt.f k l0 a1 = some (r1, r2)) :
  Calls Try.prog 109 #[.slice A0 l0.length c0, .int .i64 a1] w fun e w' => ∃ v0_ : Value, e = .returned (.tuple #[v0_, .int .i64 r2]) ∧ Kd.R (Kd.int .u8) 5 w' w.heap.size (fun _ => True) v0_ r1 ∧ Below w.heap.size w w' := by
 have HR0 := mk_ hr0
 have HC0 := mk_ hc0
 clear hr0 hc0
 have HB := mk_ (Below.refl w.heap.size w)
 have H : (if a1 < (-1152921504606846976) then (wire_PutInt.j0 k l0 a1 true) else (wire_PutInt.j0 k l0 a1 (decide (a1 > 1152921504606846976)))) = some (r1, r2) := h
 clear h
 have HC3 := mk_ H
 clear H
 go_enter Try.func109, Try.ntmps109
 go_upto_region 1 with (fail)
 go_cut [12] (fun v12 wc => ∃ (kq : Nat) (x12_2 : Bool), v12 = .bool x12_2 ∧ Aside0 (wire_PutInt.j0 kq l0 a1 x12_2 = some (r1, r2)) ∧ Aside0 (kq ≤ k) ∧ Aside0 (Below w.heap.size w wc))
 case first =>
  have H := HC3.out
  clear HC3
  by_cases c4 : a1 < (-1152921504606846976)
  ·
   rw [if_pos c4] at H
   have c4b0 : decide (a1 < (-1152921504606846976)) = true := decide_eq_true c4
   clear c4
   (first | rw [c4b0] | (simp only [i64_w, i32_w]; rw [c4b0]) | skip)
   have H' := mk_ H
   clear H
   go_wp2
   go_meet
   case rel => exact ⟨_, (true), z3_, H', ⟨by first | omega | exact Nat.le_refl _⟩, ⟨Short.hB HB⟩⟩
  ·
   rw [if_neg c4] at H
   have c4b0 : decide (a1 < (-1152921504606846976)) = false := decide_eq_false c4
   clear c4
   (first | rw [c4b0] | (simp only [i64_w, i32_w]; rw [c4b0]) | skip)
   have H' := mk_ H
   clear H
   go_wp2
   go_meet
   case rel => exact ⟨_, (decide (a1 > 1152921504606846976)), z3_, H', ⟨by first | omega | exact Nat.le_refl _⟩, ⟨Short.hB HB⟩⟩
 case rest => as_aux_lemma =>
  clear HC3
  try clear c1
  try clear p2
  try clear c4
  try clear c4b0
  obtain ⟨kq, x12_2, rfl, HA, HJ2, HB⟩ := hcut
  cases kq with
  | zero => exact absurd HA.out (by simp [wire_PutInt.j0])
  | succ kj2 =>
   have H := HA.out
   clear HA
   simp only [wire_PutInt.j0] at H
   by_cases c5 : x12_2 = true
   ·
    subst c5
    have H1 : (some (([] : List Int), 1)) = some (r1, r2) := by rw [if_pos rfl] at H; exact H
    clear H
    have H := H1
    clear H1
    simp only [Option.some.injEq, Prod.mk.injEq] at H
    obtain ⟨rfl, rfl⟩ := H
    go_wp2
    go_ret2
    exact ⟨_, by first | rfl | (simp [errW_none, errW_some] <;> rfl) | (simp [*, errW_none, errW_some] <;> rfl), by first | exact R_nil _ _ _ _ _ | exact N_nil _ _ _ _ _ | exact V_nil _ _ _ _ _ | exact Q_nil _ _ _ _ _ | exact S_nil _ _ _ _ _, Short.hB HB⟩
   ·
    replace c5 := Bool.eq_false_iff.mpr c5
    subst c5
    have H1 : (if a1 < 0 then ((slices_Clone_byte_byte.f l0).bind fun t137 => (if t137.length < 140737488355328 then ((wire_big.f kj2 (t137 ++ [1]) (wrap64 (-a1)) 8).bind fun t143 => (some (t143, 0))) else (none))) else ((slices_Clone_byte_byte.f l0).bind fun t146 => (if t146.length < 140737488355328 then ((wire_big.f kj2 (t146 ++ [0]) a1 8).bind fun t152 => (some (t152, 0))) else (none)))) = some (r1, r2) := by rw [if_neg (show ¬ (false = true) by decide)] at H; exact H
    clear H
    have H := H1
    clear H1
    by_cases c6 : a1 < 0
    ·
     rw [if_pos c6] at H
     have c6b0 : decide (a1 < 0) = true := decide_eq_true c6
     clear c6
     replace H := Option.bind_eq_some_iff.mp H
     obtain ⟨t137, A70, H⟩ := H
     replace H : (if t137.length < 140737488355328 then ((wire_big.f kj2 (t137 ++ [1]) (wrap64 (-a1)) 8).bind fun t143 => (some (t143, 0))) else (none)) = some (r1, r2) := H
     have A7 := mk_ A70
     clear A70
     by_cases c8 : t137.length < 140737488355328
     ·
      rw [if_pos c8] at H
      have LMc8 := mk_ c8
      clear c8
      obtain ⟨y140, hy140⟩ : ∃ y_ : List Int, y_ = (t137 ++ [1]) := ⟨_, rfl⟩
      replace H : ((wire_big.f kj2 y140 (wrap64 (-a1)) 8).bind fun t143 => (some (t143, 0))) = some (r1, r2) := by first | (rw [hy140]; with_reducible exact H) | (have H2_ := (Option.bind_some _ _).symm.trans H; rw [hy140]; with_reducible exact H2_) | (have H2_ := (Option.bind_some _ _).symm.trans H; with_reducible exact H2_) | with_reducible exact H | (rw [hy140]; exact H) | exact H
      have Ny140 := mk_ hy140
      clear hy140
      replace H := Option.bind_eq_some_iff.mp H
      obtain ⟨t143, A90, H⟩ := H
      replace H : (some (t143, 0)) = some (r1, r2) := H
      have A9 := mk_ A90
      clear A90
      simp only [Option.some.injEq, Prod.mk.injEq] at H
      obtain ⟨rfl, rfl⟩ := H
      go_wp2_with (first | ((with_reducible refine gate_callee (f := 58) rfl ?_); refine Short.gL (some 18) Try.func58 #[.slice A0 l0.length c0] (h := ?_); (with_reducible refine (slices_Clone_byte_byte.calls _ _ l0 t137 _ ?side1 ?side2 A7.out).mono ?_); (case side1 => exact cX_ (C_below HR0.out HB.out)); (case side2 => exact HC0.out); rintro e w10 ⟨v138, rfl, ho0, hb⟩; refine ⟨_, rfl, ?_⟩; have n0_ := mk_ (R_lower ho0 (below_size (Short.hB HB))); have n1_ := mk_ (below_step (Short.hB HB) hb); clear HB; revert n0_ n1_; intro HO139 HB; (try clear hb ho0)) | ((with_reducible refine gate_builtin (b := .append) (xs := #[.tmp 18, .tmp 20]) rfl ?_); at_builtin; refine R_append (Kd.int .u8) (w0 := w) w.heap.size rfl (.tmp 18) (.tmp 20) 22 5 (.int .u8 0) 1 rfl Try.underlying22 info5 rfl z5_ z2_ v138 t137 1 [.int .u8 1] (fun _ => True) (fun _ => False) rfl rfl ?aP (fun _ hk => hk.elim) ?aF ?aO ?aB ?aS ?aL ?_; (case aP => exact rfl); (case aB => exact (Short.hB HB)); (case aF => exact (fun _ _ => trivial)); (case aO => exact (ZKR HO139)); (case aS => exact (below_size (Short.hB HB))); (case aL => have := LMc8.out; omega); intro v141 w11 ho hb hg hat; rw [← Ny140.out] at ho; have n0_ := mk_ (hb); have n1_ := mk_ (ho); clear HB HO139; revert n0_ n1_; intro HB HO142; clear ho hb hg hat; obtain ⟨Ao12, co12, eo12⟩ := R_slice HO142.out; subst eo12) | ((with_reducible refine gate_callee (f := 103) rfl ?_); refine Short.gL (some 23) Try.func103 #[.slice Ao12 y140.length co12, .int .i64 (wrap64 (-a1)), .int .i64 8] (h := ?_); (with_reducible refine (wire_big.calls kj2 _ _ y140 (wrap64 (-a1)) 8 t143 _ ?side1 ?side2 A9.out).mono ?_); (case side1 => exact cX_ (R_reads' HO142.out).2.2); (case side2 => exact (R_reads' HO142.out).2.1); rintro e w13 ⟨v144, rfl, ho0, hb⟩; refine ⟨_, rfl, ?_⟩; have n0_ := mk_ (R_elder' (ZKR HO142) (R_base ho0) hb); have n1_ := mk_ (R_lower (R_new' ho0 (R_lt (ZKR HO142))) (below_size (Short.hB HB))); have n2_ := mk_ (below_step (Short.hB HB) hb); clear HO142 HB; revert n0_ n1_ n2_; intro HO142 HO145 HB; (try clear hb ho0)))
      go_ret2
      exact ⟨_, by first | rfl | (simp [errW_none, errW_some] <;> rfl) | (simp [*, errW_none, errW_some] <;> rfl), by (with_reducible repeat (first | apply R_alloc | apply R_drewN | apply R_drew)); exact R_mono HO145.out (fun _ hk => trivial), Short.hB HB⟩
     ·
      rw [if_neg c8] at H
      exact absurd H (by simp)
    ·
     rw [if_neg c6] at H
     have c6b0 : decide (a1 < 0) = false := decide_eq_false c6
     clear c6
     replace H := Option.bind_eq_some_iff.mp H
     obtain ⟨t146, A140, H⟩ := H
     replace H : (if t146.length < 140737488355328 then ((wire_big.f kj2 (t146 ++ [0]) a1 8).bind fun t152 => (some (t152, 0))) else (none)) = some (r1, r2) := H
     have A14 := mk_ A140
     clear A140
     by_cases c15 : t146.length < 140737488355328
     ·
      rw [if_pos c15] at H
      have LMc15 := mk_ c15
      clear c15
      obtain ⟨y149, hy149⟩ : ∃ y_ : List Int, y_ = (t146 ++ [0]) := ⟨_, rfl⟩
      replace H : ((wire_big.f kj2 y149 a1 8).bind fun t152 => (some (t152, 0))) = some (r1, r2) := by first | (rw [hy149]; with_reducible exact H) | (have H2_ := (Option.bind_some _ _).symm.trans H; rw [hy149]; with_reducible exact H2_) | (have H2_ := (Option.bind_some _ _).symm.trans H; with_reducible exact H2_) | with_reducible exact H | (rw [hy149]; exact H) | exact H
      have Ny149 := mk_ hy149
      clear hy149
      replace H := Option.bind_eq_some_iff.mp H
      obtain ⟨t152, A160, H⟩ := H
      replace H : (some (t152, 0)) = some (r1, r2) := H
      have A16 := mk_ A160
      clear A160
      simp only [Option.some.injEq, Prod.mk.injEq] at H
      obtain ⟨rfl, rfl⟩ := H
      go_wp2_with (first | ((with_reducible refine gate_callee (f := 58) rfl ?_); refine Short.gL (some 18) Try.func58 #[.slice A0 l0.length c0] (h := ?_); (with_reducible refine (slices_Clone_byte_byte.calls _ _ l0 t146 _ ?side1 ?side2 A14.out).mono ?_); (case side1 => exact cX_ (C_below HR0.out HB.out)); (case side2 => exact HC0.out); rintro e w17 ⟨v147, rfl, ho0, hb⟩; refine ⟨_, rfl, ?_⟩; have n0_ := mk_ (R_lower ho0 (below_size (Short.hB HB))); have n1_ := mk_ (below_step (Short.hB HB) hb); clear HB; revert n0_ n1_; intro HO148 HB; (try clear hb ho0)) | ((with_reducible refine gate_builtin (b := .append) (xs := #[.tmp 18, .tmp 20]) rfl ?_); at_builtin; refine R_append (Kd.int .u8) (w0 := w) w.heap.size rfl (.tmp 18) (.tmp 20) 22 5 (.int .u8 0) 1 rfl Try.underlying22 info5 rfl z5_ z2_ v147 t146 0 [.int .u8 0] (fun _ => True) (fun _ => False) rfl rfl ?aP (fun _ hk => hk.elim) ?aF ?aO ?aB ?aS ?aL ?_; (case aP => exact rfl); (case aB => exact (Short.hB HB)); (case aF => exact (fun _ _ => trivial)); (case aO => exact (ZKR HO148)); (case aS => exact (below_size (Short.hB HB))); (case aL => have := LMc15.out; omega); intro v150 w18 ho hb hg hat; rw [← Ny149.out] at ho; have n0_ := mk_ (hb); have n1_ := mk_ (ho); clear HB HO148; revert n0_ n1_; intro HB HO151; clear ho hb hg hat; obtain ⟨Ao19, co19, eo19⟩ := R_slice HO151.out; subst eo19) | ((with_reducible refine gate_callee (f := 103) rfl ?_); refine Short.gL (some 23) Try.func103 #[.slice Ao19 y149.length co19, .int .i64 a1, .int .i64 8] (h := ?_); (with_reducible refine (wire_big.calls kj2 _ _ y149 a1 8 t152 _ ?side1 ?side2 A16.out).mono ?_); (case side1 => exact cX_ (R_reads' HO151.out).2.2); (case side2 => exact (R_reads' HO151.out).2.1); rintro e w20 ⟨v153, rfl, ho0, hb⟩; refine ⟨_, rfl, ?_⟩; have n0_ := mk_ (R_elder' (ZKR HO151) (R_base ho0) hb); have n1_ := mk_ (R_lower (R_new' ho0 (R_lt (ZKR HO151))) (below_size (Short.hB HB))); have n2_ := mk_ (below_step (Short.hB HB) hb); clear HO151 HB; revert n0_ n1_ n2_; intro HO151 HO154 HB; (try clear hb ho0)))
      go_ret2
      exact ⟨_, by first | rfl | (simp [errW_none, errW_some] <;> rfl) | (simp [*, errW_none, errW_some] <;> rfl), by (with_reducible repeat (first | apply R_alloc | apply R_drewN | apply R_drew)); exact R_mono HO154.out (fun _ hk => trivial), Short.hB HB⟩
     ·
      rw [if_neg c15] at H
      exact absurd H (by simp)
def value_Bytes.f (k : Nat) (a0_0 : Int) (a0_1 : Int) (a0_2 : ByteArray) : Option (List Int × Int) := (value_Check.f a0_0 a0_1 a0_2).bind fun t156 => (if t156 = 0 then ((some (([(a0_0) % 256] : List Int) : List Int)).bind fun y157 => (if a0_0 = 2 then (if y157.length < 140737488355328 then (some ((y157 ++ [(a0_1) % 256]), 0)) else (none)) else (if a0_0 = 3 then ((wire_PutInt.f k y157 a0_1).bind fun bt163 => (some (bt163.1, bt163.2))) else (if a0_0 = 4 then ((wire_PutText.f y157 a0_2).bind fun bt167 => (some (bt167.1, bt167.2))) else (some (y157, 0)))))) else (some (([] : List Int), t156)))
set_option maxHeartbeats 8000000 in
set_option maxRecDepth 100000 in
theorem value_Bytes.calls (k : Nat) (a0_0 : Int) (a0_1 : Int) (a0_2 : ByteArray) (r1 : List Int) (r2 : Int) (w : World) (h : value_Bytes.f k a0_0 a0_1 a0_2 = some (r1, r2)) :
  Calls Try.prog 105 #[.agg #[.int .i64 a0_0, .int .i64 a0_1, .string a0_2]] w fun e w' => ∃ v0_ : Value, e = .returned (.tuple #[v0_, .int .i64 r2]) ∧ Kd.R (Kd.int .u8) 5 w' w.heap.size (fun _ => True) v0_ r1 ∧ Below w.heap.size w w' := by
 have hu89 := Try.underlying89
 have HB := mk_ (Below.refl w.heap.size w)
 have H : ((value_Check.f a0_0 a0_1 a0_2).bind fun t156 => (if t156 = 0 then ((some (([(a0_0) % 256] : List Int) : List Int)).bind fun y157 => (if a0_0 = 2 then (if y157.length < 140737488355328 then (some ((y157 ++ [(a0_1) % 256]), 0)) else (none)) else (if a0_0 = 3 then ((wire_PutInt.f k y157 a0_1).bind fun bt163 => (some (bt163.1, bt163.2))) else (if a0_0 = 4 then ((wire_PutText.f y157 a0_2).bind fun bt167 => (some (bt167.1, bt167.2))) else (some (y157, 0)))))) else (some (([] : List Int), t156)))) = some (r1, r2) := h
 clear h
 replace H := Option.bind_eq_some_iff.mp H
 obtain ⟨t156, A20, H⟩ := H
 replace H : (if t156 = 0 then ((some (([(a0_0) % 256] : List Int) : List Int)).bind fun y157 => (if a0_0 = 2 then (if y157.length < 140737488355328 then (some ((y157 ++ [(a0_1) % 256]), 0)) else (none)) else (if a0_0 = 3 then ((wire_PutInt.f k y157 a0_1).bind fun bt163 => (some (bt163.1, bt163.2))) else (if a0_0 = 4 then ((wire_PutText.f y157 a0_2).bind fun bt167 => (some (bt167.1, bt167.2))) else (some (y157, 0)))))) else (some (([] : List Int), t156))) = some (r1, r2) := H
 have A2 := mk_ A20
 clear A20
 by_cases c3 : t156 = 0
 ·
  rw [if_pos c3] at H
  have c3b0 : (t156 == 0) = true := beq_iff_eq.mpr c3
  have c3b1 : (t156 != 0) = false := bne_eq_false_iff_eq.mpr c3
  clear c3
  obtain ⟨y157, hy157⟩ : ∃ y_ : List Int, y_ = (([(a0_0) % 256] : List Int)) := ⟨_, rfl⟩
  replace H : (if a0_0 = 2 then (if y157.length < 140737488355328 then (some ((y157 ++ [(a0_1) % 256]), 0)) else (none)) else (if a0_0 = 3 then ((wire_PutInt.f k y157 a0_1).bind fun bt163 => (some (bt163.1, bt163.2))) else (if a0_0 = 4 then ((wire_PutText.f y157 a0_2).bind fun bt167 => (some (bt167.1, bt167.2))) else (some (y157, 0))))) = some (r1, r2) := by first | (rw [hy157]; with_reducible exact H) | (have H2_ := (Option.bind_some _ _).symm.trans H; rw [hy157]; with_reducible exact H2_) | (have H2_ := (Option.bind_some _ _).symm.trans H; with_reducible exact H2_) | with_reducible exact H | (rw [hy157]; exact H) | exact H
  have Ny157 := mk_ hy157
  clear hy157
  by_cases c4 : a0_0 = 2
  ·
   rw [if_pos c4] at H
   have c4b0 : (a0_0 == 2) = true := beq_iff_eq.mpr c4
   have c4b1 : (a0_0 != 2) = false := bne_eq_false_iff_eq.mpr c4
   clear c4
   by_cases c5 : y157.length < 140737488355328
   ·
    rw [if_pos c5] at H
    have LMc5 := mk_ c5
    clear c5
    obtain ⟨y160, hy160⟩ : ∃ y_ : List Int, y_ = (y157 ++ [(a0_1) % 256]) := ⟨_, rfl⟩
    replace H : (some (y160, 0)) = some (r1, r2) := by first | (rw [hy160]; with_reducible exact H) | (have H2_ := (Option.bind_some _ _).symm.trans H; rw [hy160]; with_reducible exact H2_) | (have H2_ := (Option.bind_some _ _).symm.trans H; with_reducible exact H2_) | with_reducible exact H | (rw [hy160]; exact H) | exact H
    have Ny160 := mk_ hy160
    clear hy160
    simp only [Option.some.injEq, Prod.mk.injEq] at H
    obtain ⟨rfl, rfl⟩ := H
    go_enter Try.func105, Try.ntmps105
    go_wp2_with (first | ((with_reducible refine gate_dst (N := 1) rfl ?_); refine box_event ?hg (N := 1) ?hd (cs := #[.int .i64 a0_0, .int .i64 a0_1, .string a0_2]) (t := 89) ?hr ?_; (case hd => rfl); (case hg => rfl); (case hr => first | (go_simp; done) | (go_simp; rfl)); intro gb155 hg w6 hbox hb; have n0_ := mk_ (below_step (Short.hB HB) hb); have n1_ := mk_ (hbox); have n2_ := mk_ ((by rw [hg]; exact (below_size (Short.hB HB)) : w.heap.size ≤ gb155)); have n3_ := mk_ ((by rw [hg]; exact (below_size (Short.hB HB)) : w.heap.size ≤ gb155)); clear HB; revert n0_ n1_ n2_ n3_; intro HB BK155 GW155 GE155; clear hb hbox hg; obtain ⟨hcz7_0, hcz7_1, hcz7_2, hfz7_0, hfz7_1, hfz7_2⟩ := Short.c3 BK155.out) | ((with_reducible refine gate_callee (f := 108) rfl ?_); refine Short.gL (some 7) Try.func108 #[.agg #[.int .i64 a0_0, .int .i64 a0_1, .string a0_2]] (h := ?_); (with_reducible refine (value_Check.calls a0_0 a0_1 a0_2 t156 _ A2.out).mono ?_); rintro e w8 ⟨rfl, hb⟩; refine ⟨_, rfl, ?_⟩; have n0_ := mk_ (bB_ BK155 hb); have n1_ := mk_ (below_step (Short.hB HB) hb); clear BK155 HB; revert n0_ n1_; intro BK155 HB; (try clear hb); obtain ⟨hcz9_0, hcz9_1, hcz9_2, hfz9_0, hfz9_1, hfz9_2⟩ := Short.c3 BK155.out) | ((with_reducible refine gate_dst (N := 14) rfl ?_); refine R_lit (Kd.int .u8) _ 5 ?hg (N := 14) ?hd (xs := ([(a0_0) % 256] : List Int)) (inner := [.int .u8 ((a0_0) % 256)]) (ok := fun _ => True) (okp := fun _ => True) ?hr ?hp (fun _ hk => hk) trivial (Below.refl _ _) (Nat.le_refl _) (by simp) ?_; (case hd => rfl); (case hg => rfl); (case hr => first | (go_simp; done) | (go_simp; rfl)); (case hp => exact (Reps.one (show Kd.M (Kd.int .u8) _ _ _ ((a0_0) % 256) [.int .u8 ((a0_0) % 256)] from rfl) (Reps.none _ _))); intro v158 w10 ho11 hb hg_ hnew_; clear hg_ hnew_; (first | rw [← Ny157.out] at ho11 | (simp only [Int.reduceToNat] at ho11; rw [← Ny157.out] at ho11)); have n0_ := mk_ (R_lower ho11 (below_size (Short.hB HB))); have n1_ := mk_ (bB_ BK155 hb); have n2_ := mk_ (below_step (Short.hB HB) hb); clear BK155 HB; revert n0_ n1_ n2_; intro HO159 BK155 HB; clear hb ho11; obtain ⟨hcz12_0, hcz12_1, hcz12_2, hfz12_0, hfz12_1, hfz12_2⟩ := Short.c3 BK155.out) | ((with_reducible refine gate_builtin (b := .append) (xs := #[.tmp 19, .tmp 23]) rfl ?_); at_builtin; refine R_append (Kd.int .u8) (w0 := w) w.heap.size rfl (.tmp 19) (.tmp 23) 22 5 (.int .u8 0) 1 rfl Try.underlying22 info5 rfl z5_ z2_ v158 y157 ((a0_1) % 256) [.int .u8 ((a0_1) % 256)] (fun _ => True) (fun _ => False) rfl rfl ?aP (fun _ hk => hk.elim) ?aF ?aO ?aB ?aS ?aL ?_; (case aP => exact rfl); (case aB => exact (Short.hB HB)); (case aF => exact (fun _ _ => trivial)); (case aO => exact (ZKR HO159)); (case aS => exact (below_size (Short.hB HB))); (case aL => have := LMc5.out; omega); intro v161 w13 ho hb hg hat; rw [← Ny160.out] at ho; have n0_ := mk_ (blk_grown (g := gb155) (o := .cells #[.int .i64 a0_0, .int .i64 a0_1, .string a0_2] 89 (0, 0)) (Short.bK BK155) hg (R_ne HO159.out BK155.out z5_)); have n1_ := mk_ (hb); have n2_ := mk_ (ho); clear BK155 HB HO159; revert n0_ n1_ n2_; intro BK155 HB HO162; clear ho hb hg hat))
    go_ret2
    exact ⟨_, by first | rfl | (simp [errW_none, errW_some] <;> rfl) | (simp [*, errW_none, errW_some] <;> rfl), by (with_reducible repeat (first | apply R_alloc | apply R_drewN | apply R_drew)); exact HO162.out, Short.hB HB⟩
   ·
    rw [if_neg c5] at H
    exact absurd H (by simp)
  ·
   rw [if_neg c4] at H
   have c4b0 : (a0_0 == 2) = false := beq_eq_false_iff_ne.mpr c4
   have c4b1 : (a0_0 != 2) = true := bne_iff_ne.mpr c4
   by_cases c14 : a0_0 = 3
   ·
    rw [if_pos c14] at H
    have c14b0 : (a0_0 == 3) = true := beq_iff_eq.mpr c14
    have c14b1 : (a0_0 != 3) = false := bne_eq_false_iff_eq.mpr c14
    clear c14
    replace H := Option.bind_eq_some_iff.mp H
    obtain ⟨⟨t163, t164⟩, A150, H⟩ := H
    replace H : (some (t163, t164)) = some (r1, r2) := H
    have A15 := mk_ A150
    clear A150
    simp only [Option.some.injEq, Prod.mk.injEq] at H
    obtain ⟨rfl, rfl⟩ := H
    go_enter Try.func105, Try.ntmps105
    go_wp2_with (first | ((with_reducible refine gate_dst (N := 1) rfl ?_); refine box_event ?hg (N := 1) ?hd (cs := #[.int .i64 a0_0, .int .i64 a0_1, .string a0_2]) (t := 89) ?hr ?_; (case hd => rfl); (case hg => rfl); (case hr => first | (go_simp; done) | (go_simp; rfl)); intro gb155 hg w16 hbox hb; have n0_ := mk_ (below_step (Short.hB HB) hb); have n1_ := mk_ (hbox); have n2_ := mk_ ((by rw [hg]; exact (below_size (Short.hB HB)) : w.heap.size ≤ gb155)); have n3_ := mk_ ((by rw [hg]; exact (below_size (Short.hB HB)) : w.heap.size ≤ gb155)); clear HB; revert n0_ n1_ n2_ n3_; intro HB BK155 GW155 GE155; clear hb hbox hg; obtain ⟨hcz17_0, hcz17_1, hcz17_2, hfz17_0, hfz17_1, hfz17_2⟩ := Short.c3 BK155.out) | ((with_reducible refine gate_callee (f := 108) rfl ?_); refine Short.gL (some 7) Try.func108 #[.agg #[.int .i64 a0_0, .int .i64 a0_1, .string a0_2]] (h := ?_); (with_reducible refine (value_Check.calls a0_0 a0_1 a0_2 t156 _ A2.out).mono ?_); rintro e w18 ⟨rfl, hb⟩; refine ⟨_, rfl, ?_⟩; have n0_ := mk_ (bB_ BK155 hb); have n1_ := mk_ (below_step (Short.hB HB) hb); clear BK155 HB; revert n0_ n1_; intro BK155 HB; (try clear hb); obtain ⟨hcz19_0, hcz19_1, hcz19_2, hfz19_0, hfz19_1, hfz19_2⟩ := Short.c3 BK155.out) | ((with_reducible refine gate_dst (N := 14) rfl ?_); refine R_lit (Kd.int .u8) _ 5 ?hg (N := 14) ?hd (xs := ([(a0_0) % 256] : List Int)) (inner := [.int .u8 ((a0_0) % 256)]) (ok := fun _ => True) (okp := fun _ => True) ?hr ?hp (fun _ hk => hk) trivial (Below.refl _ _) (Nat.le_refl _) (by simp) ?_; (case hd => rfl); (case hg => rfl); (case hr => first | (go_simp; done) | (go_simp; rfl)); (case hp => exact (Reps.one (show Kd.M (Kd.int .u8) _ _ _ ((a0_0) % 256) [.int .u8 ((a0_0) % 256)] from rfl) (Reps.none _ _))); intro v158 w20 ho21 hb hg_ hnew_; clear hg_ hnew_; (first | rw [← Ny157.out] at ho21 | (simp only [Int.reduceToNat] at ho21; rw [← Ny157.out] at ho21)); have n0_ := mk_ (R_lower ho21 (below_size (Short.hB HB))); have n1_ := mk_ (bB_ BK155 hb); have n2_ := mk_ (below_step (Short.hB HB) hb); clear BK155 HB; revert n0_ n1_ n2_; intro HO159 BK155 HB; clear hb ho21; obtain ⟨hcz22_0, hcz22_1, hcz22_2, hfz22_0, hfz22_1, hfz22_2⟩ := Short.c3 BK155.out; obtain ⟨Ao23, co23, eo23⟩ := R_slice HO159.out; subst eo23) | ((with_reducible refine gate_callee (f := 109) rfl ?_); refine Short.gL (some 30) Try.func109 #[.slice Ao23 y157.length co23, .int .i64 a0_1] (h := ?_); (with_reducible refine (wire_PutInt.calls k _ _ y157 a0_1 t163 t164 _ ?side1 ?side2 A15.out).mono ?_); (case side1 => exact cX_ (R_reads' HO159.out).2.2); (case side2 => exact (R_reads' HO159.out).2.1); rintro e w24 ⟨v165, rfl, ho0, hb⟩; refine ⟨_, rfl, ?_⟩; have n0_ := mk_ (R_elder' (ZKR HO159) (R_base ho0) hb); have n1_ := mk_ (R_lower (R_new' ho0 (R_lt (ZKR HO159))) (below_size (Short.hB HB))); have n2_ := mk_ (bB_ BK155 hb); have n3_ := mk_ (below_step (Short.hB HB) hb); clear HO159 BK155 HB; revert n0_ n1_ n2_ n3_; intro HO159 HO166 BK155 HB; (try clear hb ho0)))
    go_ret2
    exact ⟨_, by first | rfl | (simp [errW_none, errW_some] <;> rfl) | (simp [*, errW_none, errW_some] <;> rfl), by (with_reducible repeat (first | apply R_alloc | apply R_drewN | apply R_drew)); exact R_mono HO166.out (fun _ hk => trivial), Short.hB HB⟩
   ·
    rw [if_neg c14] at H
    have c14b0 : (a0_0 == 3) = false := beq_eq_false_iff_ne.mpr c14
    have c14b1 : (a0_0 != 3) = true := bne_iff_ne.mpr c14
    by_cases c25 : a0_0 = 4
    ·
     rw [if_pos c25] at H
     have c25b0 : (a0_0 == 4) = true := beq_iff_eq.mpr c25
     have c25b1 : (a0_0 != 4) = false := bne_eq_false_iff_eq.mpr c25
     clear c25
     replace H := Option.bind_eq_some_iff.mp H
     obtain ⟨⟨t167, t168⟩, A260, H⟩ := H
     replace H : (some (t167, t168)) = some (r1, r2) := H
     have A26 := mk_ A260
     clear A260
     simp only [Option.some.injEq, Prod.mk.injEq] at H
     obtain ⟨rfl, rfl⟩ := H
     go_enter Try.func105, Try.ntmps105
     go_wp2_with (first | ((with_reducible refine gate_dst (N := 1) rfl ?_); refine box_event ?hg (N := 1) ?hd (cs := #[.int .i64 a0_0, .int .i64 a0_1, .string a0_2]) (t := 89) ?hr ?_; (case hd => rfl); (case hg => rfl); (case hr => first | (go_simp; done) | (go_simp; rfl)); intro gb155 hg w27 hbox hb; have n0_ := mk_ (below_step (Short.hB HB) hb); have n1_ := mk_ (hbox); have n2_ := mk_ ((by rw [hg]; exact (below_size (Short.hB HB)) : w.heap.size ≤ gb155)); have n3_ := mk_ ((by rw [hg]; exact (below_size (Short.hB HB)) : w.heap.size ≤ gb155)); clear HB; revert n0_ n1_ n2_ n3_; intro HB BK155 GW155 GE155; clear hb hbox hg; obtain ⟨hcz28_0, hcz28_1, hcz28_2, hfz28_0, hfz28_1, hfz28_2⟩ := Short.c3 BK155.out) | ((with_reducible refine gate_callee (f := 108) rfl ?_); refine Short.gL (some 7) Try.func108 #[.agg #[.int .i64 a0_0, .int .i64 a0_1, .string a0_2]] (h := ?_); (with_reducible refine (value_Check.calls a0_0 a0_1 a0_2 t156 _ A2.out).mono ?_); rintro e w29 ⟨rfl, hb⟩; refine ⟨_, rfl, ?_⟩; have n0_ := mk_ (bB_ BK155 hb); have n1_ := mk_ (below_step (Short.hB HB) hb); clear BK155 HB; revert n0_ n1_; intro BK155 HB; (try clear hb); obtain ⟨hcz30_0, hcz30_1, hcz30_2, hfz30_0, hfz30_1, hfz30_2⟩ := Short.c3 BK155.out) | ((with_reducible refine gate_dst (N := 14) rfl ?_); refine R_lit (Kd.int .u8) _ 5 ?hg (N := 14) ?hd (xs := ([(a0_0) % 256] : List Int)) (inner := [.int .u8 ((a0_0) % 256)]) (ok := fun _ => True) (okp := fun _ => True) ?hr ?hp (fun _ hk => hk) trivial (Below.refl _ _) (Nat.le_refl _) (by simp) ?_; (case hd => rfl); (case hg => rfl); (case hr => first | (go_simp; done) | (go_simp; rfl)); (case hp => exact (Reps.one (show Kd.M (Kd.int .u8) _ _ _ ((a0_0) % 256) [.int .u8 ((a0_0) % 256)] from rfl) (Reps.none _ _))); intro v158 w31 ho32 hb hg_ hnew_; clear hg_ hnew_; (first | rw [← Ny157.out] at ho32 | (simp only [Int.reduceToNat] at ho32; rw [← Ny157.out] at ho32)); have n0_ := mk_ (R_lower ho32 (below_size (Short.hB HB))); have n1_ := mk_ (bB_ BK155 hb); have n2_ := mk_ (below_step (Short.hB HB) hb); clear BK155 HB; revert n0_ n1_ n2_; intro HO159 BK155 HB; clear hb ho32; obtain ⟨hcz33_0, hcz33_1, hcz33_2, hfz33_0, hfz33_1, hfz33_2⟩ := Short.c3 BK155.out; obtain ⟨Ao34, co34, eo34⟩ := R_slice HO159.out; subst eo34) | ((with_reducible refine gate_callee (f := 104) rfl ?_); refine Short.gL (some 38) Try.func104 #[.slice Ao34 y157.length co34, .string a0_2] (h := ?_); (with_reducible refine (wire_PutText.calls _ _ y157 a0_2 t167 t168 _ ?side1 ?side2 A26.out).mono ?_); (case side1 => exact cX_ (R_reads' HO159.out).2.2); (case side2 => exact (R_reads' HO159.out).2.1); rintro e w35 ⟨v169, rfl, ho0, hb⟩; refine ⟨_, rfl, ?_⟩; have n0_ := mk_ (R_elder' (ZKR HO159) (R_base ho0) hb); have n1_ := mk_ (R_lower (R_new' ho0 (R_lt (ZKR HO159))) (below_size (Short.hB HB))); have n2_ := mk_ (bB_ BK155 hb); have n3_ := mk_ (below_step (Short.hB HB) hb); clear HO159 BK155 HB; revert n0_ n1_ n2_ n3_; intro HO159 HO170 BK155 HB; (try clear hb ho0)))
     go_ret2
     exact ⟨_, by first | rfl | (simp [errW_none, errW_some] <;> rfl) | (simp [*, errW_none, errW_some] <;> rfl), by (with_reducible repeat (first | apply R_alloc | apply R_drewN | apply R_drew)); exact R_mono HO170.out (fun _ hk => trivial), Short.hB HB⟩
    ·
     rw [if_neg c25] at H
     have c25b0 : (a0_0 == 4) = false := beq_eq_false_iff_ne.mpr c25
     have c25b1 : (a0_0 != 4) = true := bne_iff_ne.mpr c25
     simp only [Option.some.injEq, Prod.mk.injEq] at H
     obtain ⟨rfl, rfl⟩ := H
     go_enter Try.func105, Try.ntmps105
     go_wp2_with (first | ((with_reducible refine gate_dst (N := 1) rfl ?_); refine box_event ?hg (N := 1) ?hd (cs := #[.int .i64 a0_0, .int .i64 a0_1, .string a0_2]) (t := 89) ?hr ?_; (case hd => rfl); (case hg => rfl); (case hr => first | (go_simp; done) | (go_simp; rfl)); intro gb155 hg w36 hbox hb; have n0_ := mk_ (below_step (Short.hB HB) hb); have n1_ := mk_ (hbox); have n2_ := mk_ ((by rw [hg]; exact (below_size (Short.hB HB)) : w.heap.size ≤ gb155)); have n3_ := mk_ ((by rw [hg]; exact (below_size (Short.hB HB)) : w.heap.size ≤ gb155)); clear HB; revert n0_ n1_ n2_ n3_; intro HB BK155 GW155 GE155; clear hb hbox hg; obtain ⟨hcz37_0, hcz37_1, hcz37_2, hfz37_0, hfz37_1, hfz37_2⟩ := Short.c3 BK155.out) | ((with_reducible refine gate_callee (f := 108) rfl ?_); refine Short.gL (some 7) Try.func108 #[.agg #[.int .i64 a0_0, .int .i64 a0_1, .string a0_2]] (h := ?_); (with_reducible refine (value_Check.calls a0_0 a0_1 a0_2 t156 _ A2.out).mono ?_); rintro e w38 ⟨rfl, hb⟩; refine ⟨_, rfl, ?_⟩; have n0_ := mk_ (bB_ BK155 hb); have n1_ := mk_ (below_step (Short.hB HB) hb); clear BK155 HB; revert n0_ n1_; intro BK155 HB; (try clear hb); obtain ⟨hcz39_0, hcz39_1, hcz39_2, hfz39_0, hfz39_1, hfz39_2⟩ := Short.c3 BK155.out) | ((with_reducible refine gate_dst (N := 14) rfl ?_); refine R_lit (Kd.int .u8) _ 5 ?hg (N := 14) ?hd (xs := ([(a0_0) % 256] : List Int)) (inner := [.int .u8 ((a0_0) % 256)]) (ok := fun _ => True) (okp := fun _ => True) ?hr ?hp (fun _ hk => hk) trivial (Below.refl _ _) (Nat.le_refl _) (by simp) ?_; (case hd => rfl); (case hg => rfl); (case hr => first | (go_simp; done) | (go_simp; rfl)); (case hp => exact (Reps.one (show Kd.M (Kd.int .u8) _ _ _ ((a0_0) % 256) [.int .u8 ((a0_0) % 256)] from rfl) (Reps.none _ _))); intro v158 w40 ho41 hb hg_ hnew_; clear hg_ hnew_; (first | rw [← Ny157.out] at ho41 | (simp only [Int.reduceToNat] at ho41; rw [← Ny157.out] at ho41)); have n0_ := mk_ (R_lower ho41 (below_size (Short.hB HB))); have n1_ := mk_ (bB_ BK155 hb); have n2_ := mk_ (below_step (Short.hB HB) hb); clear BK155 HB; revert n0_ n1_ n2_; intro HO159 BK155 HB; clear hb ho41; obtain ⟨hcz42_0, hcz42_1, hcz42_2, hfz42_0, hfz42_1, hfz42_2⟩ := Short.c3 BK155.out))
     go_ret2
     exact ⟨_, by first | rfl | (simp [errW_none, errW_some] <;> rfl) | (simp [*, errW_none, errW_some] <;> rfl), by (with_reducible repeat (first | apply R_alloc | apply R_drewN | apply R_drew)); exact HO159.out, Short.hB HB⟩
 ·
  rw [if_neg c3] at H
  have c3b0 : (t156 == 0) = false := beq_eq_false_iff_ne.mpr c3
  have c3b1 : (t156 != 0) = true := bne_iff_ne.mpr c3
  simp only [Option.some.injEq, Prod.mk.injEq] at H
  obtain ⟨rfl, rfl⟩ := H
  go_enter Try.func105, Try.ntmps105
  go_wp2_with (first | ((with_reducible refine gate_dst (N := 1) rfl ?_); refine box_event ?hg (N := 1) ?hd (cs := #[.int .i64 a0_0, .int .i64 a0_1, .string a0_2]) (t := 89) ?hr ?_; (case hd => rfl); (case hg => rfl); (case hr => first | (go_simp; done) | (go_simp; rfl)); intro gb155 hg w43 hbox hb; have n0_ := mk_ (below_step (Short.hB HB) hb); have n1_ := mk_ (hbox); have n2_ := mk_ ((by rw [hg]; exact (below_size (Short.hB HB)) : w.heap.size ≤ gb155)); have n3_ := mk_ ((by rw [hg]; exact (below_size (Short.hB HB)) : w.heap.size ≤ gb155)); clear HB; revert n0_ n1_ n2_ n3_; intro HB BK155 GW155 GE155; clear hb hbox hg; obtain ⟨hcz44_0, hcz44_1, hcz44_2, hfz44_0, hfz44_1, hfz44_2⟩ := Short.c3 BK155.out) | ((with_reducible refine gate_callee (f := 108) rfl ?_); refine Short.gL (some 7) Try.func108 #[.agg #[.int .i64 a0_0, .int .i64 a0_1, .string a0_2]] (h := ?_); (with_reducible refine (value_Check.calls a0_0 a0_1 a0_2 t156 _ A2.out).mono ?_); rintro e w45 ⟨rfl, hb⟩; refine ⟨_, rfl, ?_⟩; have n0_ := mk_ (bB_ BK155 hb); have n1_ := mk_ (below_step (Short.hB HB) hb); clear BK155 HB; revert n0_ n1_; intro BK155 HB; (try clear hb)))
  go_ret2
  exact ⟨_, by first | rfl | (simp [errW_none, errW_some] <;> rfl) | (simp [*, errW_none, errW_some] <;> rfl), by first | exact R_nil _ _ _ _ _ | exact N_nil _ _ _ _ _ | exact V_nil _ _ _ _ _ | exact Q_nil _ _ _ _ _ | exact S_nil _ _ _ _ _, Short.hB HB⟩
def row_wrong.f (a0_0 : Int) (a0_1 : Int) (a0_2 : ByteArray) : Option (Bool) := (value_Check.f a0_0 a0_1 a0_2).bind fun t172 => (some (t172 != 0))
set_option maxHeartbeats 8000000 in
set_option maxRecDepth 100000 in
theorem row_wrong.calls (a0_0 : Int) (a0_1 : Int) (a0_2 : ByteArray) (r : Bool) (w : World) (h : row_wrong.f a0_0 a0_1 a0_2 = some r) :
  Calls Try.prog 111 #[.agg #[.int .i64 a0_0, .int .i64 a0_1, .string a0_2]] w fun e w' => e = .returned (.bool r) ∧ Below w.heap.size w w' := by
 have hu89 := Try.underlying89
 have HB := mk_ (Below.refl w.heap.size w)
 have H : ((value_Check.f a0_0 a0_1 a0_2).bind fun t172 => (some (t172 != 0))) = some r := h
 clear h
 replace H := Option.bind_eq_some_iff.mp H
 obtain ⟨t172, A20, H⟩ := H
 replace H : (some (t172 != 0)) = some r := H
 have A2 := mk_ A20
 clear A20
 obtain rfl := Option.some.inj H
 go_enter Try.func111, Try.ntmps111
 go_wp2_with (first | ((with_reducible refine gate_dst (N := 1) rfl ?_); refine box_event ?hg (N := 1) ?hd (cs := #[.int .i64 a0_0, .int .i64 a0_1, .string a0_2]) (t := 89) ?hr ?_; (case hd => rfl); (case hg => rfl); (case hr => first | (go_simp; done) | (go_simp; rfl)); intro gb171 hg w3 hbox hb; have n0_ := mk_ (below_step (Short.hB HB) hb); have n1_ := mk_ (hbox); have n2_ := mk_ ((by rw [hg]; exact (below_size (Short.hB HB)) : w.heap.size ≤ gb171)); have n3_ := mk_ ((by rw [hg]; exact (below_size (Short.hB HB)) : w.heap.size ≤ gb171)); clear HB; revert n0_ n1_ n2_ n3_; intro HB BK171 GW171 GE171; clear hb hbox hg; obtain ⟨hcz4_0, hcz4_1, hcz4_2, hfz4_0, hfz4_1, hfz4_2⟩ := Short.c3 BK171.out) | ((with_reducible refine gate_callee (f := 108) rfl ?_); refine Short.gL (some 4) Try.func108 #[.agg #[.int .i64 a0_0, .int .i64 a0_1, .string a0_2]] (h := ?_); (with_reducible refine (value_Check.calls a0_0 a0_1 a0_2 t172 _ A2.out).mono ?_); rintro e w5 ⟨rfl, hb⟩; refine ⟨_, rfl, ?_⟩; have n0_ := mk_ (bB_ BK171 hb); have n1_ := mk_ (below_step (Short.hB HB) hb); clear BK171 HB; revert n0_ n1_; intro BK171 HB; (try clear hb)))
 go_ret
 exact ⟨by first | rfl | (simp [errW_none, errW_some] <;> rfl) | (simp [*, errW_none, errW_some] <;> rfl), Short.hB HB⟩
end Go.Proofs.Ytcbfliajgopdaaa.PAll
end
section
namespace Go.Proofs.Ytcbfliajgopdaaa.PAll
open Go.RowKit Go.Proofs.YtcbfliajgopdaaaW.PrintWords Go.Proofs.YtcbfliajgopdaaaW.PrintLast Go.Proofs.YtcbfliajgopdaaaW.PrintMore Go.Proofs.Ytcbfliajgopdaaa.ZipT Go.Proofs.YtcbfliajgopdaaaW.PrintWords.Kd Go.Proofs.YtcbfliajgopdaaaW.PrintMore.Kd
attribute [local go_sem] max2_int min2_int max_two min_two max_three min_three max_four min_four   -- for this text's walks alone
set_option linter.unusedVariables false
set_option linter.unusedSimpArgs false
def slices_IndexFunc_at_row_wrong.l0 : Nat → List (S89) → Int → Int → Option (Int)
 | 0, _, _, _ => none
 | k + 1, x0, x7, x8 => if x8 < x7 then (if 0 ≤ x8 then (if x8 < (x0.length : Int) then ((row_wrong.f ((rd_T89 x0 x8).f0) ((rd_T89 x0 x8).f1) ((rd_T89 x0 x8).f2)).bind fun t174 => (if t174 = true then (some x8) else (slices_IndexFunc_at_row_wrong.l0 k x0 x7 (wrap64 (x8 + 1))))) else (none)) else (none)) else (some (-1))
def slices_IndexFunc_at_row_wrong.f (k : Nat) (l0 : List (S89)) (a1 : Unit) : Option (Int) := slices_IndexFunc_at_row_wrong.l0 k l0 (l0.length : Int) 0
set_option maxHeartbeats 8000000 in
set_option maxRecDepth 100000 in
theorem slices_IndexFunc_at_row_wrong.calls (k : Nat) (A0 : Option Addr) (c0 : Nat) (l0 : List (S89)) (a1 : Unit) (r : Int) (w : World) (hr0 : Kd.C k89 w A0 l0.length l0) (hc0 : l0.length ≤ c0) (h : slices_IndexFunc_at_row_wrong.f k l0 a1 = some r) :
  Calls Try.prog 113 #[.slice A0 l0.length c0, .func (.func 111) #[] #[]] w fun e w' => e = .returned (.int .i64 r) ∧ Below w.heap.size w w' := by
 have hu89 := Try.underlying89
 have HR0 := mk_ hr0
 have HC0 := mk_ hc0
 clear hr0 hc0
 have HB := mk_ (Below.refl w.heap.size w)
 have H : (slices_IndexFunc_at_row_wrong.l0 k l0 (l0.length : Int) 0) = some r := h
 clear h
 have H' := mk_ H
 clear H
 go_enter Try.func113, Try.ntmps113
 go_wp2
 go_loopg [8] k (fun kq v8 w' => ∃ (x8_1 : Int), v8 = .int .i64 x8_1 ∧ Aside0 (slices_IndexFunc_at_row_wrong.l0 kq l0 (l0.length : Int) x8_1 = some r) ∧ Aside0 (kq ≤ k) ∧ Aside0 (Below w.heap.size w w'))
 case atStart => exact ⟨(0), z3_, H', ⟨Nat.le_refl _⟩, ⟨Short.hB HB⟩⟩
 case round =>
  clear H'
  try clear p2
  obtain ⟨x8_1, rfl, HA, HK1, HB⟩ := hrel
  cases gk with
  | zero => exact absurd HA.out (by simp [slices_IndexFunc_at_row_wrong.l0])
  | succ k1 =>
   have H := HA.out
   clear HA
   simp only [slices_IndexFunc_at_row_wrong.l0] at H
   by_cases c3 : x8_1 < (l0.length : Int)
   ·
    rw [if_pos c3] at H
    have c3b0 : decide (x8_1 < (l0.length : Int)) = true := decide_eq_true c3
    clear c3
    by_cases c4 : 0 ≤ x8_1
    ·
     rw [if_pos c4] at H
     have c4b0 : decide (0 ≤ x8_1) = true := decide_eq_true c4
     clear c4
     by_cases c5 : x8_1 < (l0.length : Int)
     ·
      rw [if_pos c5] at H
      have c5b0 : decide (x8_1 < (l0.length : Int)) = true := decide_eq_true c5
      clear c5
      replace H := Option.bind_eq_some_iff.mp H
      obtain ⟨t174, A60, H⟩ := H
      replace H : (if t174 = true then (some x8_1) else (slices_IndexFunc_at_row_wrong.l0 k1 l0 (l0.length : Int) (wrap64 (x8_1 + 1)))) = some r := H
      have A6 := mk_ A60
      clear A60
      by_cases c7 : t174 = true
      ·
       subst c7
       have H1 : (some x8_1) = some r := by rw [if_pos rfl] at H; exact H
       clear H
       have H := H1
       clear H1
       obtain rfl := Option.some.inj H
       have p173 : 0 ≤ (x8_1 : Int) := of_decide_eq_true z0_
       have q173 : x8_1 < (l0.length : Int) := of_decide_eq_true z0_
       obtain ⟨ad173, e173, hx173_0, hx173_1, hx173_2⟩ := at_T89 HR0.out x8_1 p173 q173
       cases e173
       replace hx173_0 := (HB.out.cell (World.block_lt_of_cell? w _ hx173_0)).trans hx173_0
       replace hx173_1 := (HB.out.cell (World.block_lt_of_cell? w _ hx173_1)).trans hx173_1
       replace hx173_2 := (HB.out.cell (World.block_lt_of_cell? w _ hx173_2)).trans hx173_2
       replace p173 := eq_true p173
       replace q173 := eq_true q173
       go_wp2_with (first | ((first | ((with_reducible refine gate_callee (f := 111) rfl ?_); refine Short.gL (some 16) Try.func111 #[.agg #[.int .i64 ((rd_T89 l0 x8_1).f0), .int .i64 ((rd_T89 l0 x8_1).f1), .string ((rd_T89 l0 x8_1).f2)]] (h := ?_)) | ((with_reducible refine Go.Proofs.Ytcbfliajgopdaaa.Steps.gate_any rfl ?_); refine Go.Proofs.Ytcbfliajgopdaaa.Steps.goesV_ (some 16) rfl rfl Try.func111 z1_ rfl #[.agg #[.int .i64 ((rd_T89 l0 x8_1).f0), .int .i64 ((rd_T89 l0 x8_1).f1), .string ((rd_T89 l0 x8_1).f2)]] rfl (by first | rfl | go_simp) z4_ ?_)); (with_reducible refine (row_wrong.calls ((rd_T89 l0 x8_1).f0) ((rd_T89 l0 x8_1).f1) ((rd_T89 l0 x8_1).f2) true _ A6.out).mono ?_); rintro e w8 ⟨rfl, hb⟩; refine ⟨_, rfl, ?_⟩; have n0_ := mk_ (below_step (Short.hB HB) hb); clear HB; revert n0_; intro HB; (try clear hb)))
       go_ret
       exact ⟨by first | rfl | (simp [errW_none, errW_some] <;> rfl) | (simp [*, errW_none, errW_some] <;> rfl), Short.hB HB⟩
      ·
       replace c7 := Bool.eq_false_iff.mpr c7
       subst c7
       have H1 : (slices_IndexFunc_at_row_wrong.l0 k1 l0 (l0.length : Int) (wrap64 (x8_1 + 1))) = some r := by rw [if_neg (show ¬ (false = true) by decide)] at H; exact H
       clear H
       have H := H1
       clear H1
       have H' := mk_ H
       clear H
       have p173 : 0 ≤ (x8_1 : Int) := of_decide_eq_true z0_
       have q173 : x8_1 < (l0.length : Int) := of_decide_eq_true z0_
       obtain ⟨ad173, e173, hx173_0, hx173_1, hx173_2⟩ := at_T89 HR0.out x8_1 p173 q173
       cases e173
       replace hx173_0 := (HB.out.cell (World.block_lt_of_cell? w _ hx173_0)).trans hx173_0
       replace hx173_1 := (HB.out.cell (World.block_lt_of_cell? w _ hx173_1)).trans hx173_1
       replace hx173_2 := (HB.out.cell (World.block_lt_of_cell? w _ hx173_2)).trans hx173_2
       replace p173 := eq_true p173
       replace q173 := eq_true q173
       go_wp2_with (first | ((first | ((with_reducible refine gate_callee (f := 111) rfl ?_); refine Short.gL (some 16) Try.func111 #[.agg #[.int .i64 ((rd_T89 l0 x8_1).f0), .int .i64 ((rd_T89 l0 x8_1).f1), .string ((rd_T89 l0 x8_1).f2)]] (h := ?_)) | ((with_reducible refine Go.Proofs.Ytcbfliajgopdaaa.Steps.gate_any rfl ?_); refine Go.Proofs.Ytcbfliajgopdaaa.Steps.goesV_ (some 16) rfl rfl Try.func111 z1_ rfl #[.agg #[.int .i64 ((rd_T89 l0 x8_1).f0), .int .i64 ((rd_T89 l0 x8_1).f1), .string ((rd_T89 l0 x8_1).f2)]] rfl (by first | rfl | go_simp) z4_ ?_)); (with_reducible refine (row_wrong.calls ((rd_T89 l0 x8_1).f0) ((rd_T89 l0 x8_1).f1) ((rd_T89 l0 x8_1).f2) false _ A6.out).mono ?_); rintro e w9 ⟨rfl, hb⟩; refine ⟨_, rfl, ?_⟩; have n0_ := mk_ (below_step (Short.hB HB) hb); clear HB; revert n0_; intro HB; (try clear hb)))
       go_roundg k1
       case measure => have := HK1.out; omega
       case rel => exact ⟨(wrap64 (x8_1 + 1)), z3_, H', ⟨by have := HK1.out; omega⟩, ⟨Short.hB HB⟩⟩
     ·
      rw [if_neg c5] at H
      exact absurd H (by simp)
    ·
     rw [if_neg c4] at H
     exact absurd H (by simp)
   ·
    rw [if_neg c3] at H
    have c3b0 : decide (x8_1 < (l0.length : Int)) = false := decide_eq_false c3
    clear c3
    obtain rfl := Option.some.inj H
    go_wp2
    go_ret
    exact ⟨by first | rfl | (simp [errW_none, errW_some] <;> rfl) | (simp [*, errW_none, errW_some] <;> rfl), Short.hB HB⟩
def slices_ContainsFunc_at_row_wrong.f (k : Nat) (l0 : List (S89)) (a1 : Unit) : Option (Bool) := (slices_IndexFunc_at_row_wrong.f k l0 a1).bind fun t175 => (some (decide (t175 ≥ 0)))
set_option maxHeartbeats 8000000 in
set_option maxRecDepth 100000 in
theorem slices_ContainsFunc_at_row_wrong.calls (k : Nat) (A0 : Option Addr) (c0 : Nat) (l0 : List (S89)) (a1 : Unit) (r : Bool) (w : World) (hr0 : Kd.C k89 w A0 l0.length l0) (hc0 : l0.length ≤ c0) (h : slices_ContainsFunc_at_row_wrong.f k l0 a1 = some r) :
  Calls Try.prog 110 #[.slice A0 l0.length c0, .func (.func 111) #[] #[]] w fun e w' => e = .returned (.bool r) ∧ Below w.heap.size w w' := by
 have HR0 := mk_ hr0
 have HC0 := mk_ hc0
 clear hr0 hc0
 have HB := mk_ (Below.refl w.heap.size w)
 have H : ((slices_IndexFunc_at_row_wrong.f k l0 a1).bind fun t175 => (some (decide (t175 ≥ 0)))) = some r := h
 clear h
 replace H := Option.bind_eq_some_iff.mp H
 obtain ⟨t175, A30, H⟩ := H
 replace H : (some (decide (t175 ≥ 0))) = some r := H
 have A3 := mk_ A30
 clear A30
 obtain rfl := Option.some.inj H
 go_enter Try.func110, Try.ntmps110
 go_wp2_with (first | ((first | ((with_reducible refine gate_callee (f := 113) rfl ?_); refine Short.gL (some 7) Try.func113 #[.slice A0 l0.length c0, .func (.func 111) #[] #[]] (h := ?_)) | ((with_reducible refine Go.Proofs.Ytcbfliajgopdaaa.Steps.gate_any rfl ?_); refine Go.Proofs.Ytcbfliajgopdaaa.Steps.goesV_ (some 7) rfl rfl Try.func113 z1_ rfl #[.slice A0 l0.length c0, .func (.func 111) #[] #[]] rfl (by first | rfl | go_simp) z4_ ?_)); (with_reducible refine (slices_IndexFunc_at_row_wrong.calls k _ _ l0 a1 t175 _ ?side1 ?side2 A3.out).mono ?_); (case side1 => repeat (first | exact HR0.out | (with_reducible refine C_alloc ?_ _) | (with_reducible refine C_drewN ?_ _) | (with_reducible refine C_drew ?_))); (case side2 => exact HC0.out); rintro e w4 ⟨rfl, hb⟩; refine ⟨_, rfl, ?_⟩; have n0_ := mk_ (below_step (Short.hB HB) hb); clear HB; revert n0_; intro HB; (try clear hb)))
 go_ret
 exact ⟨by first | rfl | (simp [errW_none, errW_some] <;> rfl) | (simp [*, errW_none, errW_some] <;> rfl), Short.hB HB⟩
def row_Check.f (k : Nat) (l0 : List (S89)) : Option (Int) := if (l0.length : Int) > 12 then (some 2) else ((slices_ContainsFunc_at_row_wrong.f k l0 ()).bind fun t176 => (if t176 = true then (some 1) else (some 0)))
set_option maxHeartbeats 8000000 in
set_option maxRecDepth 100000 in
theorem row_Check.calls (k : Nat) (A0 : Option Addr) (c0 : Nat) (l0 : List (S89)) (r : Int) (w : World) (hr0 : Kd.C k89 w A0 l0.length l0) (hc0 : l0.length ≤ c0) (h : row_Check.f k l0 = some r) :
  Calls Try.prog 106 #[.slice A0 l0.length c0] w fun e w' => e = .returned (.int .i64 r) ∧ Below w.heap.size w w' := by
 have HR0 := mk_ hr0
 have HC0 := mk_ hc0
 clear hr0 hc0
 have HB := mk_ (Below.refl w.heap.size w)
 have H : (if (l0.length : Int) > 12 then (some 2) else ((slices_ContainsFunc_at_row_wrong.f k l0 ()).bind fun t176 => (if t176 = true then (some 1) else (some 0)))) = some r := h
 clear h
 by_cases c2 : (l0.length : Int) > 12
 ·
  rw [if_pos c2] at H
  have c2b0 : decide (12 < (l0.length : Int)) = true := decide_eq_true c2
  have c2b1 : decide (12 < l0.length) = true := decide_eq_true z2_
  clear c2
  obtain rfl := Option.some.inj H
  go_enter Try.func106, Try.ntmps106
  go_wp2
  go_ret
  exact ⟨by first | rfl | (simp [errW_none, errW_some] <;> rfl) | (simp [*, errW_none, errW_some] <;> rfl), Short.hB HB⟩
 ·
  rw [if_neg c2] at H
  have c2b0 : decide (12 < (l0.length : Int)) = false := decide_eq_false c2
  have c2b1 : decide (12 < l0.length) = false := decide_eq_false z2_
  clear c2
  replace H := Option.bind_eq_some_iff.mp H
  obtain ⟨t176, A30, H⟩ := H
  replace H : (if t176 = true then (some 1) else (some 0)) = some r := H
  have A3 := mk_ A30
  clear A30
  by_cases c4 : t176 = true
  ·
   subst c4
   have H1 : (some 1) = some r := by rw [if_pos rfl] at H; exact H
   clear H
   have H := H1
   clear H1
   obtain rfl := Option.some.inj H
   go_enter Try.func106, Try.ntmps106
   go_wp2_with (first | ((with_reducible refine gate_callee (f := 110) rfl ?_); refine Short.gL (some 9) Try.func110 #[.slice A0 l0.length c0, .func (.func 111) #[] #[]] (h := ?_); (with_reducible refine (slices_ContainsFunc_at_row_wrong.calls k _ _ l0 () true _ ?side1 ?side2 A3.out).mono ?_); (case side1 => repeat (first | exact HR0.out | (with_reducible refine C_alloc ?_ _) | (with_reducible refine C_drewN ?_ _) | (with_reducible refine C_drew ?_))); (case side2 => exact HC0.out); rintro e w5 ⟨rfl, hb⟩; refine ⟨_, rfl, ?_⟩; have n0_ := mk_ (below_step (Short.hB HB) hb); clear HB; revert n0_; intro HB; (try clear hb)))
   go_ret
   exact ⟨by first | rfl | (simp [errW_none, errW_some] <;> rfl) | (simp [*, errW_none, errW_some] <;> rfl), Short.hB HB⟩
  ·
   replace c4 := Bool.eq_false_iff.mpr c4
   subst c4
   have H1 : (some 0) = some r := by rw [if_neg (show ¬ (false = true) by decide)] at H; exact H
   clear H
   have H := H1
   clear H1
   obtain rfl := Option.some.inj H
   go_enter Try.func106, Try.ntmps106
   go_wp2_with (first | ((with_reducible refine gate_callee (f := 110) rfl ?_); refine Short.gL (some 9) Try.func110 #[.slice A0 l0.length c0, .func (.func 111) #[] #[]] (h := ?_); (with_reducible refine (slices_ContainsFunc_at_row_wrong.calls k _ _ l0 () false _ ?side1 ?side2 A3.out).mono ?_); (case side1 => repeat (first | exact HR0.out | (with_reducible refine C_alloc ?_ _) | (with_reducible refine C_drewN ?_ _) | (with_reducible refine C_drew ?_))); (case side2 => exact HC0.out); rintro e w6 ⟨rfl, hb⟩; refine ⟨_, rfl, ?_⟩; have n0_ := mk_ (below_step (Short.hB HB) hb); clear HB; revert n0_; intro HB; (try clear hb)))
   go_ret
   exact ⟨by first | rfl | (simp [errW_none, errW_some] <;> rfl) | (simp [*, errW_none, errW_some] <;> rfl), Short.hB HB⟩
def row_Bytes.l0 : Nat → List Int → List (S89) → Int → Int → Option (List Int × Int)
 | 0, _, _, _, _ => none
 | k + 1, x5, x19, x20, x21 => if x21 < x20 then (if 0 ≤ x21 then (if x21 < (x19.length : Int) then ((value_Bytes.f k ((rd_T89 x19 x21).f0) ((rd_T89 x19 x21).f1) ((rd_T89 x19 x21).f2)).bind fun bt183 => (if x5.length + bt183.1.length < 140737488355328 then (row_Bytes.l0 k (x5 ++ bt183.1) x19 x20 (wrap64 (x21 + 1))) else (none))) else (none)) else (none)) else (some (x5, 0))
def row_Bytes.f (k : Nat) (l0 : List (S89)) : Option (List Int × Int) := (row_Check.f k l0).bind fun t177 => (if t177 = 0 then (row_Bytes.l0 k (([((l0.length : Int)) % 256] : List Int)) l0 (l0.length : Int) 0) else (some (([] : List Int), t177)))
set_option maxHeartbeats 8000000 in
set_option maxRecDepth 100000 in
theorem row_Bytes.calls (k : Nat) (A0 : Option Addr) (c0 : Nat) (l0 : List (S89)) (r1 : List Int) (r2 : Int) (w : World) (hr0 : Kd.C k89 w A0 l0.length l0) (hc0 : l0.length ≤ c0) (h : row_Bytes.f k l0 = some (r1, r2)) :
  Calls Try.prog 90 #[.slice A0 l0.length c0] w fun e w' => ∃ v0_ : Value, e = .returned (.tuple #[v0_, .int .i64 r2]) ∧ Kd.R (Kd.int .u8) 5 w' w.heap.size (fun _ => True) v0_ r1 ∧ Below w.heap.size w w' := by
 have hu89 := Try.underlying89
 have HR0 := mk_ hr0
 have HC0 := mk_ hc0
 clear hr0 hc0
 have HB := mk_ (Below.refl w.heap.size w)
 have H : ((row_Check.f k l0).bind fun t177 => (if t177 = 0 then (row_Bytes.l0 k (([((l0.length : Int)) % 256] : List Int)) l0 (l0.length : Int) 0) else (some (([] : List Int), t177)))) = some (r1, r2) := h
 clear h
 replace H := Option.bind_eq_some_iff.mp H
 obtain ⟨t177, A20, H⟩ := H
 replace H : (if t177 = 0 then (row_Bytes.l0 k (([((l0.length : Int)) % 256] : List Int)) l0 (l0.length : Int) 0) else (some (([] : List Int), t177))) = some (r1, r2) := H
 have A2 := mk_ A20
 clear A20
 by_cases c3 : t177 = 0
 ·
  rw [if_pos c3] at H
  have c3b0 : (t177 == 0) = true := beq_iff_eq.mpr c3
  have c3b1 : (t177 != 0) = false := bne_eq_false_iff_eq.mpr c3
  clear c3
  obtain ⟨y178, hy178⟩ : ∃ y_ : List Int, y_ = (([((l0.length : Int)) % 256] : List Int)) := ⟨_, rfl⟩
  replace H : (row_Bytes.l0 k y178 l0 (l0.length : Int) 0) = some (r1, r2) := by first | (rw [hy178]; with_reducible exact H) | (have H2_ := (Option.bind_some _ _).symm.trans H; rw [hy178]; with_reducible exact H2_) | (have H2_ := (Option.bind_some _ _).symm.trans H; with_reducible exact H2_) | with_reducible exact H | (rw [hy178]; exact H) | exact H
  have Ny178 := mk_ hy178
  clear hy178
  have H' := mk_ H
  clear H
  go_enter Try.func90, Try.ntmps90
  go_wp2_with (first | ((with_reducible refine gate_callee (f := 106) rfl ?_); refine Short.gL (some 11) Try.func106 #[.slice A0 l0.length c0] (h := ?_); (with_reducible refine (row_Check.calls k _ _ l0 t177 _ ?side1 ?side2 A2.out).mono ?_); (case side1 => repeat (first | exact HR0.out | (with_reducible refine C_alloc ?_ _) | (with_reducible refine C_drewN ?_ _) | (with_reducible refine C_drew ?_))); (case side2 => exact HC0.out); rintro e w4 ⟨rfl, hb⟩; refine ⟨_, rfl, ?_⟩; have n0_ := mk_ (below_step (Short.hB HB) hb); clear HB; revert n0_; intro HB; (try clear hb)) | ((with_reducible refine gate_dst (N := 18) rfl ?_); refine R_lit (Kd.int .u8) _ 5 ?hg (N := 18) ?hd (xs := ([((l0.length : Int)) % 256] : List Int)) (inner := [.int .u8 (((l0.length : Int)) % 256)]) (ok := fun _ => True) (okp := fun _ => True) ?hr ?hp (fun _ hk => hk) trivial (Below.refl _ _) (Nat.le_refl _) (by simp) ?_; (case hd => rfl); (case hg => rfl); (case hr => first | (go_simp; done) | (go_simp; rfl)); (case hp => exact (Reps.one (show Kd.M (Kd.int .u8) _ _ _ (((l0.length : Int)) % 256) [.int .u8 (((l0.length : Int)) % 256)] from rfl) (Reps.none _ _))); intro v179 w5 ho6 hb hg_ hnew_; clear hg_ hnew_; (first | rw [← Ny178.out] at ho6 | (simp only [Int.reduceToNat] at ho6; rw [← Ny178.out] at ho6)); have n0_ := mk_ (R_lower ho6 (below_size (Short.hB HB))); have n1_ := mk_ (below_step (Short.hB HB) hb); clear HB; revert n0_ n1_; intro HO180 HB; clear hb ho6))
  go_loopg [5, 21] k (fun kq v5 v21 w' => ∃ (x5_1 : List Int) (x21_1 : Int), v21 = .int .i64 x21_1 ∧ Aside0 (row_Bytes.l0 kq x5_1 l0 (l0.length : Int) x21_1 = some (r1, r2)) ∧ Aside0 (kq ≤ k) ∧ Aside0 (Kd.R (Kd.int .u8) 5 w' w.heap.size (fun _ => True) v5 x5_1) ∧ Aside0 (Below w.heap.size w w'))
  case atStart => exact ⟨(y178), (0), z3_, H', ⟨Nat.le_refl _⟩, ⟨by (with_reducible repeat (first | apply R_alloc | apply R_drewN | apply R_drew)); exact HO180.out⟩, ⟨Short.hB HB⟩⟩
  case round =>
   clear H'
   try clear c1
   try clear p2
   try clear c3
   try clear c3b0
   try clear c3b1
   obtain ⟨x5_1, x21_1, rfl, HA, HK1, HO_5, HB⟩ := hrel
   cases gk with
   | zero => exact absurd HA.out (by simp [row_Bytes.l0])
   | succ k1 =>
    have H := HA.out
    clear HA
    simp only [row_Bytes.l0] at H
    by_cases c7 : x21_1 < (l0.length : Int)
    ·
     rw [if_pos c7] at H
     have c7b0 : decide (x21_1 < (l0.length : Int)) = true := decide_eq_true c7
     clear c7
     by_cases c8 : 0 ≤ x21_1
     ·
      rw [if_pos c8] at H
      have c8b0 : decide (0 ≤ x21_1) = true := decide_eq_true c8
      clear c8
      by_cases c9 : x21_1 < (l0.length : Int)
      ·
       rw [if_pos c9] at H
       have c9b0 : decide (x21_1 < (l0.length : Int)) = true := decide_eq_true c9
       clear c9
       replace H := Option.bind_eq_some_iff.mp H
       obtain ⟨⟨t183, t186⟩, A100, H⟩ := H
       replace H : (if x5_1.length + t183.length < 140737488355328 then (row_Bytes.l0 k1 (x5_1 ++ t183) l0 (l0.length : Int) (wrap64 (x21_1 + 1))) else (none)) = some (r1, r2) := H
       have A10 := mk_ A100
       clear A100
       by_cases c11 : x5_1.length + t183.length < 140737488355328
       ·
        rw [if_pos c11] at H
        have LMc11 := mk_ c11
        clear c11
        obtain ⟨y187, hy187⟩ : ∃ y_ : List Int, y_ = (x5_1 ++ t183) := ⟨_, rfl⟩
        replace H : (row_Bytes.l0 k1 y187 l0 (l0.length : Int) (wrap64 (x21_1 + 1))) = some (r1, r2) := by first | (rw [hy187]; with_reducible exact H) | (have H2_ := (Option.bind_some _ _).symm.trans H; rw [hy187]; with_reducible exact H2_) | (have H2_ := (Option.bind_some _ _).symm.trans H; with_reducible exact H2_) | with_reducible exact H | (rw [hy187]; exact H) | exact H
        have Ny187 := mk_ hy187
        clear hy187
        have H' := mk_ H
        clear H
        have p181 : 0 ≤ (x21_1 : Int) := of_decide_eq_true z0_
        have q181 : x21_1 < (l0.length : Int) := of_decide_eq_true z0_
        obtain ⟨ad181, e181, hx181_0, hx181_1, hx181_2⟩ := at_T89 HR0.out x21_1 p181 q181
        cases e181
        replace hx181_0 := (HB.out.cell (World.block_lt_of_cell? w _ hx181_0)).trans hx181_0
        replace hx181_1 := (HB.out.cell (World.block_lt_of_cell? w _ hx181_1)).trans hx181_1
        replace hx181_2 := (HB.out.cell (World.block_lt_of_cell? w _ hx181_2)).trans hx181_2
        replace p181 := eq_true p181
        replace q181 := eq_true q181
        go_wp2_with (first | ((with_reducible refine gate_dst (N := 7) rfl ?_); refine box_event ?hg (N := 7) ?hd (cs := #[.int .i64 0, .int .i64 0, .string (⟨#[]⟩ : ByteArray)]) (t := 89) ?hr ?_; (case hd => rfl); (case hg => rfl); (case hr => first | (go_simp; done) | (go_simp; rfl)); intro gb182 hg w12 hbox hb; have n0_ := mk_ (R_below (ZKR HO_5) hb); have n1_ := mk_ (below_step (Short.hB HB) hb); have n2_ := mk_ (hbox); have n3_ := mk_ ((by rw [hg]; exact (below_size (Short.hB HB)) : w.heap.size ≤ gb182)); have n4_ := mk_ ((by rw [hg]; exact (below_size (Short.hB HB)) : w.heap.size ≤ gb182)); clear HO_5 HB; revert n0_ n1_ n2_ n3_ n4_; intro HO_5 HB BK182 GW182 GE182; clear hb hbox hg; obtain ⟨hcz13_0, hcz13_1, hcz13_2, hfz13_0, hfz13_1, hfz13_2⟩ := Short.c3 BK182.out) | ((with_reducible refine gate_callee (f := 105) rfl ?_); refine Short.gL (some 27) Try.func105 #[.agg #[.int .i64 ((rd_T89 l0 x21_1).f0), .int .i64 ((rd_T89 l0 x21_1).f1), .string ((rd_T89 l0 x21_1).f2)]] (h := ?_); (with_reducible refine (value_Bytes.calls k1 ((rd_T89 l0 x21_1).f0) ((rd_T89 l0 x21_1).f1) ((rd_T89 l0 x21_1).f2) t183 t186 _ A10.out).mono ?_); rintro e w14 ⟨v184, rfl, ho0, hb⟩; refine ⟨_, rfl, ?_⟩; have n0_ := mk_ (R_elder' (by (with_reducible repeat (first | apply R_alloc | apply R_drewN | apply R_drew)); exact (R_mono (R_far (p := ⟨gb182, 2, none⟩) (R_far (p := ⟨gb182, 1, none⟩) (R_far (p := ⟨gb182, 0, none⟩) (R_types HO_5.out BK182.out z5_) (fun _ hk => hk.2) (.int .i64 ((rd_T89 l0 x21_1).f0))) (fun _ hk => hk.2) (.int .i64 ((rd_T89 l0 x21_1).f1))) (fun _ hk => hk.2) (.string ((rd_T89 l0 x21_1).f2))) (fun _ h_ => h_.1))) (R_base ho0) hb); have n1_ := mk_ (R_lower (R_new' ho0 (R_lt (by (with_reducible repeat (first | apply R_alloc | apply R_drewN | apply R_drew)); exact (R_mono (R_far (p := ⟨gb182, 2, none⟩) (R_far (p := ⟨gb182, 1, none⟩) (R_far (p := ⟨gb182, 0, none⟩) (R_types HO_5.out BK182.out z5_) (fun _ hk => hk.2) (.int .i64 ((rd_T89 l0 x21_1).f0))) (fun _ hk => hk.2) (.int .i64 ((rd_T89 l0 x21_1).f1))) (fun _ hk => hk.2) (.string ((rd_T89 l0 x21_1).f2))) (fun _ h_ => h_.1))))) (below_size (Short.hB HB))); have n2_ := mk_ (blk_below (g := gb182) (o := .cells #[.int .i64 ((rd_T89 l0 x21_1).f0), .int .i64 ((rd_T89 l0 x21_1).f1), .string ((rd_T89 l0 x21_1).f2)] 89 (0, 0)) (by (with_reducible repeat (first | refine blk_drewN ?_ _ | refine blk_drew ?_ | refine blk_alloc ?_ _)); refine blk_put (cs := #[.int .i64 ((rd_T89 l0 x21_1).f0), .int .i64 ((rd_T89 l0 x21_1).f1), .string (⟨#[]⟩ : ByteArray)]) ?_ 2 _ rfl; (with_reducible repeat (first | refine blk_drewN ?_ _ | refine blk_drew ?_ | refine blk_alloc ?_ _)); refine blk_put (cs := #[.int .i64 ((rd_T89 l0 x21_1).f0), .int .i64 0, .string (⟨#[]⟩ : ByteArray)]) ?_ 1 _ rfl; (with_reducible repeat (first | refine blk_drewN ?_ _ | refine blk_drew ?_ | refine blk_alloc ?_ _)); refine blk_put (cs := #[.int .i64 0, .int .i64 0, .string (⟨#[]⟩ : ByteArray)]) ?_ 0 _ rfl; (with_reducible repeat (first | refine blk_drewN ?_ _ | refine blk_drew ?_ | refine blk_alloc ?_ _)); exact BK182.out) hb); have n3_ := mk_ (below_step (Short.hB HB) hb); clear HO_5 BK182 HB; revert n0_ n1_ n2_ n3_; intro HO_5 HO185 BK182 HB; (try clear hb ho0); obtain ⟨Ao16, co16, eo16⟩ := R_slice HO185.out; subst eo16) | ((with_reducible refine gate_builtin (b := .append) (xs := #[.tmp 30, .tmp 31]) rfl ?_); at_builtin; refine R_append_rows (Kd.int .u8) (w0 := w) w.heap.size rfl (.tmp 30) (.tmp 31) 22 5 (.int .u8 0) 1 rfl Try.underlying22 info5 rfl z5_ z2_ u5 x5_1 t183 _ _ _ (fun k_ => nb_ k_ (.slice Ao16 t183.length co16)) (fun _ => False) rfl rfl ?aO ?aR (fun _ _ h => h) (fun _ h => h.elim) ?aF ?aB ?aS ?aL ?_; (case aR => exact cX_ (R_reads' HO185.out).2.2); (case aB => exact (Short.hB HB)); (case aF => exact (fun k_ hk => Kd.fresh' (R_lt (ZKR HO185)) k_ hk)); (case aO => exact (rM_ HO_5 (fun _ hk => hk.2))); (case aS => exact (below_size (Short.hB HB))); (case aL => have := LMc11.out; omega); intro v188 w15 ho hb hg hat; rw [← Ny187.out] at ho; have n0_ := mk_ (blk_grown (g := gb182) (o := .cells #[.int .i64 ((rd_T89 l0 x21_1).f0), .int .i64 ((rd_T89 l0 x21_1).f1), .string ((rd_T89 l0 x21_1).f2)] 89 (0, 0)) (Short.bK BK182) hg (R_ne HO_5.out BK182.out z5_)); have n1_ := mk_ (R_after (ok := (fun _ => True)) (ZKR HO185) hg hat); have n2_ := mk_ (hb); have n3_ := mk_ (ho); clear BK182 HO185 HB HO_5; revert n0_ n1_ n2_ n3_; intro BK182 HO185 HB HO189; clear ho hb hg hat))
        go_roundg k1
        case measure => have := HK1.out; omega
        case rel => exact ⟨(y187), (wrap64 (x21_1 + 1)), z3_, H', ⟨by have := HK1.out; omega⟩, ⟨by (with_reducible repeat (first | apply R_alloc | apply R_drewN | apply R_drew)); exact R_mono HO189.out (fun _ hk => trivial)⟩, ⟨Short.hB HB⟩⟩
       ·
        rw [if_neg c11] at H
        exact absurd H (by simp)
      ·
       rw [if_neg c9] at H
       exact absurd H (by simp)
     ·
      rw [if_neg c8] at H
      exact absurd H (by simp)
    ·
     rw [if_neg c7] at H
     have c7b0 : decide (x21_1 < (l0.length : Int)) = false := decide_eq_false c7
     clear c7
     simp only [Option.some.injEq, Prod.mk.injEq] at H
     obtain ⟨rfl, rfl⟩ := H
     go_wp2
     go_ret2
     exact ⟨_, by first | rfl | (simp [errW_none, errW_some] <;> rfl) | (simp [*, errW_none, errW_some] <;> rfl), by (with_reducible repeat (first | apply R_alloc | apply R_drewN | apply R_drew)); exact HO_5.out, Short.hB HB⟩
 ·
  rw [if_neg c3] at H
  have c3b0 : (t177 == 0) = false := beq_eq_false_iff_ne.mpr c3
  have c3b1 : (t177 != 0) = true := bne_iff_ne.mpr c3
  simp only [Option.some.injEq, Prod.mk.injEq] at H
  obtain ⟨rfl, rfl⟩ := H
  go_enter Try.func90, Try.ntmps90
  go_wp2_with (first | ((with_reducible refine gate_callee (f := 106) rfl ?_); refine Short.gL (some 11) Try.func106 #[.slice A0 l0.length c0] (h := ?_); (with_reducible refine (row_Check.calls k _ _ l0 t177 _ ?side1 ?side2 A2.out).mono ?_); (case side1 => repeat (first | exact HR0.out | (with_reducible refine C_alloc ?_ _) | (with_reducible refine C_drewN ?_ _) | (with_reducible refine C_drew ?_))); (case side2 => exact HC0.out); rintro e w17 ⟨rfl, hb⟩; refine ⟨_, rfl, ?_⟩; have n0_ := mk_ (below_step (Short.hB HB) hb); clear HB; revert n0_; intro HB; (try clear hb)))
  go_ret2
  exact ⟨_, by first | rfl | (simp [errW_none, errW_some] <;> rfl) | (simp [*, errW_none, errW_some] <;> rfl), by first | exact R_nil _ _ _ _ _ | exact N_nil _ _ _ _ _ | exact V_nil _ _ _ _ _ | exact Q_nil _ _ _ _ _ | exact S_nil _ _ _ _ _, Short.hB HB⟩
def wire_num.l0 : Nat → Int → List Int → Int → Int → Option (Int)
 | 0, _, _, _, _ => none
 | k + 1, x3, x6, x7, x8 => if x8 < x7 then (if 0 ≤ x8 then (if x8 < (x6.length : Int) then (wire_num.l0 k (Go.bits .or .u64 (IntKind.u64.wrap (x3 * 256)) (IntKind.u64.wrap (rd x6 x8))) x6 x7 (wrap64 (x8 + 1))) else (none)) else (none)) else (some x3)
def wire_num.f (k : Nat) (l0 : List Int) : Option (Int) := wire_num.l0 k 0 l0 (l0.length : Int) 0
set_option maxHeartbeats 8000000 in
set_option maxRecDepth 100000 in
theorem wire_num.calls (k : Nat) (A0 : Option Addr) (c0 : Nat) (l0 : List Int) (r : Int) (w : World) (hr0 : Kd.C (Kd.int .u8) w A0 l0.length l0) (hc0 : l0.length ≤ c0) (h : wire_num.f k l0 = some r) :
  Calls Try.prog 95 #[.slice A0 l0.length c0] w fun e w' => e = .returned (.int .u64 r) ∧ Drawn0 w w' := by
 have HR0 := mk_ hr0
 have HC0 := mk_ hc0
 clear hr0 hc0
 have H : (wire_num.l0 k 0 l0 (l0.length : Int) 0) = some r := h
 clear h
 have H' := mk_ H
 clear H
 go_enter Try.func95, Try.ntmps95
 go_wp2
 go_loopg [3, 8] k (fun kq v3 v8 w' => ∃ (x3_1 : Int) (x8_1 : Int), v3 = .int .u64 x3_1 ∧ v8 = .int .i64 x8_1 ∧ Aside0 (wire_num.l0 kq x3_1 l0 (l0.length : Int) x8_1 = some r) ∧ Aside0 (kq ≤ k) ∧ Drawn0 w w')
 case atStart => exact ⟨(0), (0), z3_, z3_, H', ⟨Nat.le_refl _⟩, by repeat (first | exact Drawn0.refl _ | apply Drawn0.step)⟩
 case round =>
  clear H'
  obtain ⟨x3_1, x8_1, rfl, rfl, HA, HK1, ⟨m1, rfl⟩⟩ := hrel
  cases gk with
  | zero => exact absurd HA.out (by simp [wire_num.l0])
  | succ k1 =>
   have H := HA.out
   clear HA
   simp only [wire_num.l0] at H
   by_cases c2 : x8_1 < (l0.length : Int)
   ·
    rw [if_pos c2] at H
    have c2b0 : decide (x8_1 < (l0.length : Int)) = true := decide_eq_true c2
    clear c2
    by_cases c3 : 0 ≤ x8_1
    ·
     rw [if_pos c3] at H
     have c3b0 : decide (0 ≤ x8_1) = true := decide_eq_true c3
     clear c3
     by_cases c4 : x8_1 < (l0.length : Int)
     ·
      rw [if_pos c4] at H
      have c4b0 : decide (x8_1 < (l0.length : Int)) = true := decide_eq_true c4
      clear c4
      have H' := mk_ H
      clear H
      have p202 : 0 ≤ (x8_1 : Int) := of_decide_eq_true z0_
      have q202 : x8_1 < (l0.length : Int) := of_decide_eq_true z0_
      obtain ⟨ad202, e202, hx202_0⟩ := Kd.at_int HR0.out x8_1 p202 q202
      cases e202
      replace p202 := eq_true p202
      replace q202 := eq_true q202
      go_wp2
      go_roundg k1
      case measure => have := HK1.out; omega
      case rel => exact ⟨(Go.bits .or .u64 (IntKind.u64.wrap (x3_1 * 256)) (IntKind.u64.wrap (rd l0 x8_1))), (wrap64 (x8_1 + 1)), z3_, z3_, H', ⟨by have := HK1.out; omega⟩, by repeat (first | exact Drawn0.refl _ | apply Drawn0.step)⟩
     ·
      rw [if_neg c4] at H
      exact absurd H (by simp)
    ·
     rw [if_neg c3] at H
     exact absurd H (by simp)
   ·
    rw [if_neg c2] at H
    have c2b0 : decide (x8_1 < (l0.length : Int)) = false := decide_eq_false c2
    clear c2
    obtain rfl := Option.some.inj H
    go_wp2
    go_ret
    exact ⟨z3_, by repeat (first | exact Drawn0.refl _ | apply Drawn0.step)⟩
def wire_Get.j0 : Nat → List Int → Int → Int → Bool → Option (Int × Int × Int)
 | 0, _, _, _, _ => none
 | k + 1, x0, x1, x2, x9 => if x9 = true then (some (0, 0, 1)) else (if (wrap64 ((x0.length : Int) - x1)) < x2 then (some (0, 0, 3)) else (if 0 ≤ x1 then (if x1 ≤ (wrap64 (x1 + x2)) then (if (wrap64 (x1 + x2)) ≤ (x0.length : Int) then ((wire_num.f k ((x0.take ((wrap64 (x1 + x2)) : Int).toNat).drop (x1 : Int).toNat)).bind fun t204 => (some (wrap64 (t204), wrap64 (x1 + x2), 0))) else (none)) else (none)) else (none)))
def wire_Get.f (k : Nat) (l0 : List Int) (a1 : Int) (a2 : Int) : Option (Int × Int × Int) := if a2 < 1 then (wire_Get.j0 k l0 a1 a2 true) else (if a2 > 7 then (wire_Get.j0 k l0 a1 a2 true) else (if a1 < 0 then (wire_Get.j0 k l0 a1 a2 true) else (wire_Get.j0 k l0 a1 a2 (decide (a1 > (l0.length : Int))))))
set_option maxHeartbeats 8000000 in
set_option maxRecDepth 100000 in
theorem wire_Get.calls (k : Nat) (A0 : Option Addr) (c0 : Nat) (l0 : List Int) (a1 : Int) (a2 : Int) (r1 : Int) (r2 : Int) (r3 : Int) (w : World) (hr0 : Kd.C (Kd.int .u8) w A0 l0.length l0) (hc0 : l0.length ≤ c0) (h : wire_Get.f k l0 a1 a2 = some (r1, r2, r3)) :
  Calls Try.prog 72 #[.slice A0 l0.length c0, .int .i64 a1, .int .i64 a2] w fun e w' => e = .returned (.tuple #[.int .i64 r1, .int .i64 r2, .int .i64 r3]) ∧ Drawn0 w w' := by
 have HR0 := mk_ hr0
 have HC0 := mk_ hc0
 clear hr0 hc0
 have H : (if a2 < 1 then (wire_Get.j0 k l0 a1 a2 true) else (if a2 > 7 then (wire_Get.j0 k l0 a1 a2 true) else (if a1 < 0 then (wire_Get.j0 k l0 a1 a2 true) else (wire_Get.j0 k l0 a1 a2 (decide (a1 > (l0.length : Int))))))) = some (r1, r2, r3) := h
 clear h
 have HC4 := mk_ H
 clear H
 go_enter Try.func72, Try.ntmps72
 go_upto_region 1 with (fail)
 go_cut [9] (fun v9 wc => ∃ (kq : Nat) (x9_3 : Bool), v9 = .bool x9_3 ∧ Aside0 (wire_Get.j0 kq l0 a1 a2 x9_3 = some (r1, r2, r3)) ∧ Aside0 (kq ≤ k) ∧ Drawn0 w wc)
 case first =>
  have H := HC4.out
  clear HC4
  by_cases c5 : a2 < 1
  ·
   rw [if_pos c5] at H
   have c5b0 : decide (a2 < 1) = true := decide_eq_true c5
   clear c5
   (first | rw [c5b0] | (simp only [i64_w, i32_w]; rw [c5b0]) | skip)
   have H' := mk_ H
   clear H
   go_wp2
   go_meet
   case rel => exact ⟨_, (true), z3_, H', ⟨by first | omega | exact Nat.le_refl _⟩, by repeat (first | exact Drawn0.refl _ | apply Drawn0.step)⟩
  ·
   rw [if_neg c5] at H
   have c5b0 : decide (a2 < 1) = false := decide_eq_false c5
   clear c5
   (first | rw [c5b0] | (simp only [i64_w, i32_w]; rw [c5b0]) | skip)
   by_cases c6 : a2 > 7
   ·
    rw [if_pos c6] at H
    have c6b0 : decide (7 < a2) = true := decide_eq_true c6
    clear c6
    have H' := mk_ H
    clear H
    go_wp2
    go_meet
    case rel => exact ⟨_, (true), z3_, H', ⟨by first | omega | exact Nat.le_refl _⟩, by repeat (first | exact Drawn0.refl _ | apply Drawn0.step)⟩
   ·
    rw [if_neg c6] at H
    have c6b0 : decide (7 < a2) = false := decide_eq_false c6
    clear c6
    by_cases c7 : a1 < 0
    ·
     rw [if_pos c7] at H
     have c7b0 : decide (a1 < 0) = true := decide_eq_true c7
     clear c7
     have H' := mk_ H
     clear H
     go_wp2
     go_meet
     case rel => exact ⟨_, (true), z3_, H', ⟨by first | omega | exact Nat.le_refl _⟩, by repeat (first | exact Drawn0.refl _ | apply Drawn0.step)⟩
    ·
     rw [if_neg c7] at H
     have c7b0 : decide (a1 < 0) = false := decide_eq_false c7
     clear c7
     have H' := mk_ H
     clear H
     go_wp2
     go_meet
     case rel => exact ⟨_, (decide (a1 > (l0.length : Int))), z3_, H', ⟨by first | omega | exact Nat.le_refl _⟩, by repeat (first | exact Drawn0.refl _ | apply Drawn0.step)⟩
 case rest => as_aux_lemma =>
  clear HC4
  try clear p2
  try clear c5
  try clear c5b0
  try clear c6
  try clear c6b0
  try clear c7
  try clear c7b0
  obtain ⟨kq, x9_3, rfl, HA, HJ3, ⟨mc3, rfl⟩⟩ := hcut
  cases kq with
  | zero => exact absurd HA.out (by simp [wire_Get.j0])
  | succ kj3 =>
   have H := HA.out
   clear HA
   simp only [wire_Get.j0] at H
   by_cases c8 : x9_3 = true
   ·
    subst c8
    have H1 : (some (0, 0, 1)) = some (r1, r2, r3) := by rw [if_pos rfl] at H; exact H
    clear H
    have H := H1
    clear H1
    simp only [Option.some.injEq, Prod.mk.injEq] at H
    obtain ⟨rfl, rfl, rfl⟩ := H
    go_wp2
    go_ret3
    exact ⟨z3_, by repeat (first | exact Drawn0.refl _ | apply Drawn0.step)⟩
   ·
    replace c8 := Bool.eq_false_iff.mpr c8
    subst c8
    have H1 : (if (wrap64 ((l0.length : Int) - a1)) < a2 then (some (0, 0, 3)) else (if 0 ≤ a1 then (if a1 ≤ (wrap64 (a1 + a2)) then (if (wrap64 (a1 + a2)) ≤ (l0.length : Int) then ((wire_num.f kj3 ((l0.take ((wrap64 (a1 + a2)) : Int).toNat).drop (a1 : Int).toNat)).bind fun t204 => (some (wrap64 (t204), wrap64 (a1 + a2), 0))) else (none)) else (none)) else (none))) = some (r1, r2, r3) := by rw [if_neg (show ¬ (false = true) by decide)] at H; exact H
    clear H
    have H := H1
    clear H1
    by_cases c9 : (wrap64 ((l0.length : Int) - a1)) < a2
    ·
     rw [if_pos c9] at H
     have c9b0 : decide ((wrap64 ((l0.length : Int) - a1)) < a2) = true := decide_eq_true c9
     clear c9
     simp only [Option.some.injEq, Prod.mk.injEq] at H
     obtain ⟨rfl, rfl, rfl⟩ := H
     go_wp2
     go_ret3
     exact ⟨z3_, by repeat (first | exact Drawn0.refl _ | apply Drawn0.step)⟩
    ·
     rw [if_neg c9] at H
     have c9b0 : decide ((wrap64 ((l0.length : Int) - a1)) < a2) = false := decide_eq_false c9
     clear c9
     by_cases c10 : 0 ≤ a1
     ·
      rw [if_pos c10] at H
      have c10b0 := eq_true c10
      have c10b1 : decide (0 ≤ a1) = true := decide_eq_true c10
      clear c10
      by_cases c11 : a1 ≤ (wrap64 (a1 + a2))
      ·
       rw [if_pos c11] at H
       have c11b0 := eq_true c11
       have c11b1 : decide (a1 ≤ (wrap64 (a1 + a2))) = true := decide_eq_true c11
       by_cases c12 : (wrap64 (a1 + a2)) ≤ (l0.length : Int)
       ·
        rw [if_pos c12] at H
        have c12b0 := eq_true c12
        have c12b1 : decide ((wrap64 (a1 + a2)) ≤ (l0.length : Int)) = true := decide_eq_true c12
        replace H := Option.bind_eq_some_iff.mp H
        obtain ⟨t204, A130, H⟩ := H
        replace H : (some (wrap64 (t204), wrap64 (a1 + a2), 0)) = some (r1, r2, r3) := H
        have A13 := mk_ A130
        clear A130
        simp only [Option.some.injEq, Prod.mk.injEq] at H
        obtain ⟨rfl, rfl, rfl⟩ := H
        obtain ⟨i014, hi014, _, hsz14, _⟩ := info_parts info5
        obtain ⟨A14, hcut14, hA14, hC14⟩ := print_mid_of (P := Try.prog) (Value.int .u8) 0 22 5 .i64 .i64 Try.underlying22 hi014 hsz14 A0 c0 l0 a1 (wrap64 (a1 + a2)) (of_decide_eq_true z0_) (by first | omega | exact of_decide_eq_true z0_) (of_decide_eq_true z0_) HC0.out
        have HR203 := mk_ (C_of_reads (h1 := fun _ => rfl) (hA14 _ (Kd.reads_of_C HR0.out)))
        have HC203 := mk_ hC14
        clear hA14 hC14 hi014 hsz14
        go_wp2_with (first | ((with_reducible refine gate_callee (f := 95) rfl ?_); refine goesL_ (some 39) rfl rfl Try.func95 z1_ rfl #[.slice A14 ((l0.take ((wrap64 (a1 + a2)) : Int).toNat).drop (a1 : Int).toNat).length (c0 - a1.toNat)] rfl (by (try simp only [List.map_toArray, List.map_cons, List.map_nil]); first | done | (rw [show ((l0.take ((wrap64 (a1 + a2)) : Int).toNat).drop (a1 : Int).toNat).length = ((wrap64 (a1 + a2)).toNat - a1.toNat) from (by rw [List.length_drop, List.length_take]; have h_ : ((wrap64 (a1 + a2)) : Int) ≤ (l0.length : Int) := of_decide_eq_true z0_; omega)] <;> rfl) | rfl | (simp only [List.length_drop, List.length_take]; rfl) | (go_simp; done) | (simp; done)) ?_; (with_reducible refine (wire_num.calls kj3 _ _ ((l0.take ((wrap64 (a1 + a2)) : Int).toNat).drop (a1 : Int).toNat) t204 _ ?side1 ?side2 A13.out).mono ?_); (case side1 => repeat (first | exact HR203.out | (with_reducible refine C_alloc ?_ _) | (with_reducible refine C_drewN ?_ _) | (with_reducible refine C_drew ?_))); (case side2 => exact HC203.out); rintro e w' ⟨rfl, ⟨nd, rfl⟩⟩; refine ⟨_, rfl, ?_⟩))
        go_ret3
        exact ⟨z3_, by repeat (first | exact Drawn0.refl _ | apply Drawn0.step)⟩
       ·
        rw [if_neg c12] at H
        exact absurd H (by simp)
      ·
       rw [if_neg c11] at H
       exact absurd H (by simp)
     ·
      rw [if_neg c10] at H
      exact absurd H (by simp)
def wire_GetText.j0 : Nat → List Int → Int → Bool → Option (ByteArray × Int × Int)
 | 0, _, _, _ => none
 | k + 1, x0, x1, x7 => if x7 = true then (some ((⟨#[]⟩ : ByteArray), 0, 1)) else (if x1 = (x0.length : Int) then (some ((⟨#[]⟩ : ByteArray), 0, 3)) else (if 0 ≤ x1 then (if x1 < (x0.length : Int) then (if (wrap64 (rd x0 x1)) > 24 then (some ((⟨#[]⟩ : ByteArray), 0, 3)) else (if (wrap64 ((wrap64 ((x0.length : Int) - x1)) - 1)) < (wrap64 (rd x0 x1)) then (some ((⟨#[]⟩ : ByteArray), 0, 3)) else (if 0 ≤ (wrap64 (x1 + 1)) then (if (wrap64 (x1 + 1)) ≤ (wrap64 ((wrap64 (x1 + 1)) + (wrap64 (rd x0 x1)))) then (if (wrap64 ((wrap64 (x1 + 1)) + (wrap64 (rd x0 x1)))) ≤ (x0.length : Int) then (some (strOfNums ((x0.take ((wrap64 ((wrap64 (x1 + 1)) + (wrap64 (rd x0 x1)))) : Int).toNat).drop ((wrap64 (x1 + 1)) : Int).toNat), wrap64 ((wrap64 (x1 + 1)) + (wrap64 (rd x0 x1))), 0)) else (none)) else (none)) else (none)))) else (none)) else (none)))
def wire_GetText.f (k : Nat) (l0 : List Int) (a1 : Int) : Option (ByteArray × Int × Int) := if a1 < 0 then (wire_GetText.j0 k l0 a1 true) else (wire_GetText.j0 k l0 a1 (decide (a1 > (l0.length : Int))))
set_option maxHeartbeats 8000000 in
set_option maxRecDepth 100000 in
theorem wire_GetText.calls (k : Nat) (A0 : Option Addr) (c0 : Nat) (l0 : List Int) (a1 : Int) (r1 : ByteArray) (r2 : Int) (r3 : Int) (w : World) (hr0 : Kd.C (Kd.int .u8) w A0 l0.length l0) (hc0 : l0.length ≤ c0) (h : wire_GetText.f k l0 a1 = some (r1, r2, r3)) :
  Calls Try.prog 96 #[.slice A0 l0.length c0, .int .i64 a1] w fun e w' => e = .returned (.tuple #[.string r1, .int .i64 r2, .int .i64 r3]) ∧ Drawn0 w w' := by
 have HR0 := mk_ hr0
 have HC0 := mk_ hc0
 clear hr0 hc0
 have H : (if a1 < 0 then (wire_GetText.j0 k l0 a1 true) else (wire_GetText.j0 k l0 a1 (decide (a1 > (l0.length : Int))))) = some (r1, r2, r3) := h
 clear h
 have HC3 := mk_ H
 clear H
 go_enter Try.func96, Try.ntmps96
 go_upto_region 1 with (fail)
 go_cut [7] (fun v7 wc => ∃ (kq : Nat) (x7_2 : Bool), v7 = .bool x7_2 ∧ Aside0 (wire_GetText.j0 kq l0 a1 x7_2 = some (r1, r2, r3)) ∧ Aside0 (kq ≤ k) ∧ Drawn0 w wc)
 case first =>
  have H := HC3.out
  clear HC3
  by_cases c4 : a1 < 0
  ·
   rw [if_pos c4] at H
   have c4b0 : decide (a1 < 0) = true := decide_eq_true c4
   clear c4
   (first | rw [c4b0] | (simp only [i64_w, i32_w]; rw [c4b0]) | skip)
   have H' := mk_ H
   clear H
   go_wp2
   go_meet
   case rel => exact ⟨_, (true), z3_, H', ⟨by first | omega | exact Nat.le_refl _⟩, by repeat (first | exact Drawn0.refl _ | apply Drawn0.step)⟩
  ·
   rw [if_neg c4] at H
   have c4b0 : decide (a1 < 0) = false := decide_eq_false c4
   clear c4
   (first | rw [c4b0] | (simp only [i64_w, i32_w]; rw [c4b0]) | skip)
   have H' := mk_ H
   clear H
   go_wp2
   go_meet
   case rel => exact ⟨_, (decide (a1 > (l0.length : Int))), z3_, H', ⟨by first | omega | exact Nat.le_refl _⟩, by repeat (first | exact Drawn0.refl _ | apply Drawn0.step)⟩
 case rest => as_aux_lemma =>
  clear HC3
  try clear p2
  try clear c4
  try clear c4b0
  obtain ⟨kq, x7_2, rfl, HA, HJ2, ⟨mc2, rfl⟩⟩ := hcut
  cases kq with
  | zero => exact absurd HA.out (by simp [wire_GetText.j0])
  | succ kj2 =>
   have H := HA.out
   clear HA
   simp only [wire_GetText.j0] at H
   by_cases c5 : x7_2 = true
   ·
    subst c5
    have H1 : (some ((⟨#[]⟩ : ByteArray), 0, 1)) = some (r1, r2, r3) := by rw [if_pos rfl] at H; exact H
    clear H
    have H := H1
    clear H1
    simp only [Option.some.injEq, Prod.mk.injEq] at H
    obtain ⟨rfl, rfl, rfl⟩ := H
    go_wp2
    go_ret3
    exact ⟨z3_, by repeat (first | exact Drawn0.refl _ | apply Drawn0.step)⟩
   ·
    replace c5 := Bool.eq_false_iff.mpr c5
    subst c5
    have H1 : (if a1 = (l0.length : Int) then (some ((⟨#[]⟩ : ByteArray), 0, 3)) else (if 0 ≤ a1 then (if a1 < (l0.length : Int) then (if (wrap64 (rd l0 a1)) > 24 then (some ((⟨#[]⟩ : ByteArray), 0, 3)) else (if (wrap64 ((wrap64 ((l0.length : Int) - a1)) - 1)) < (wrap64 (rd l0 a1)) then (some ((⟨#[]⟩ : ByteArray), 0, 3)) else (if 0 ≤ (wrap64 (a1 + 1)) then (if (wrap64 (a1 + 1)) ≤ (wrap64 ((wrap64 (a1 + 1)) + (wrap64 (rd l0 a1)))) then (if (wrap64 ((wrap64 (a1 + 1)) + (wrap64 (rd l0 a1)))) ≤ (l0.length : Int) then (some (strOfNums ((l0.take ((wrap64 ((wrap64 (a1 + 1)) + (wrap64 (rd l0 a1)))) : Int).toNat).drop ((wrap64 (a1 + 1)) : Int).toNat), wrap64 ((wrap64 (a1 + 1)) + (wrap64 (rd l0 a1))), 0)) else (none)) else (none)) else (none)))) else (none)) else (none))) = some (r1, r2, r3) := by rw [if_neg (show ¬ (false = true) by decide)] at H; exact H
    clear H
    have H := H1
    clear H1
    by_cases c6 : a1 = (l0.length : Int)
    ·
     rw [if_pos c6] at H
     have c6b0 : (a1 == (l0.length : Int)) = true := beq_iff_eq.mpr c6
     have c6b1 : (a1 != (l0.length : Int)) = false := bne_eq_false_iff_eq.mpr c6
     clear c6
     simp only [Option.some.injEq, Prod.mk.injEq] at H
     obtain ⟨rfl, rfl, rfl⟩ := H
     go_wp2
     go_ret3
     exact ⟨z3_, by repeat (first | exact Drawn0.refl _ | apply Drawn0.step)⟩
    ·
     rw [if_neg c6] at H
     have c6b0 : (a1 == (l0.length : Int)) = false := beq_eq_false_iff_ne.mpr c6
     have c6b1 : (a1 != (l0.length : Int)) = true := bne_iff_ne.mpr c6
     by_cases c7 : 0 ≤ a1
     ·
      rw [if_pos c7] at H
      have c7b0 : decide (0 ≤ a1) = true := decide_eq_true c7
      clear c7
      by_cases c8 : a1 < (l0.length : Int)
      ·
       rw [if_pos c8] at H
       have c8b0 : decide (a1 < (l0.length : Int)) = true := decide_eq_true c8
       clear c8
       by_cases c9 : (wrap64 (rd l0 a1)) > 24
       ·
        rw [if_pos c9] at H
        have c9b0 : decide (24 < (wrap64 (rd l0 a1))) = true := decide_eq_true c9
        clear c9
        simp only [Option.some.injEq, Prod.mk.injEq] at H
        obtain ⟨rfl, rfl, rfl⟩ := H
        have p205 : 0 ≤ (a1 : Int) := of_decide_eq_true z0_
        have q205 : a1 < (l0.length : Int) := of_decide_eq_true z0_
        obtain ⟨ad205, e205, hx205_0⟩ := Kd.at_int HR0.out a1 p205 q205
        cases e205
        replace p205 := eq_true p205
        replace q205 := eq_true q205
        go_wp2
        go_ret3
        exact ⟨z3_, by repeat (first | exact Drawn0.refl _ | apply Drawn0.step)⟩
       ·
        rw [if_neg c9] at H
        have c9b0 : decide (24 < (wrap64 (rd l0 a1))) = false := decide_eq_false c9
        clear c9
        by_cases c10 : (wrap64 ((wrap64 ((l0.length : Int) - a1)) - 1)) < (wrap64 (rd l0 a1))
        ·
         rw [if_pos c10] at H
         have c10b0 : decide ((wrap64 ((wrap64 ((l0.length : Int) - a1)) - 1)) < (wrap64 (rd l0 a1))) = true := decide_eq_true c10
         clear c10
         simp only [Option.some.injEq, Prod.mk.injEq] at H
         obtain ⟨rfl, rfl, rfl⟩ := H
         have p205 : 0 ≤ (a1 : Int) := of_decide_eq_true z0_
         have q205 : a1 < (l0.length : Int) := of_decide_eq_true z0_
         obtain ⟨ad205, e205, hx205_0⟩ := Kd.at_int HR0.out a1 p205 q205
         cases e205
         replace p205 := eq_true p205
         replace q205 := eq_true q205
         have p206 : 0 ≤ (a1 : Int) := of_decide_eq_true z0_
         have q206 : a1 < (l0.length : Int) := of_decide_eq_true z0_
         obtain ⟨ad206, e206, hx206_0⟩ := Kd.at_int HR0.out a1 p206 q206
         obtain rfl : ad205 = ad206 := (by injection e206)
         replace p206 := eq_true p206
         replace q206 := eq_true q206
         go_wp2
         go_ret3
         exact ⟨z3_, by repeat (first | exact Drawn0.refl _ | apply Drawn0.step)⟩
        ·
         rw [if_neg c10] at H
         have c10b0 : decide ((wrap64 ((wrap64 ((l0.length : Int) - a1)) - 1)) < (wrap64 (rd l0 a1))) = false := decide_eq_false c10
         clear c10
         obtain ⟨ji11, hji11⟩ : ∃ j_ : Int, (wrap64 (a1 + 1)) = j_ := ⟨_, rfl⟩
         replace H : (if 0 ≤ (ji11) then (if (ji11) ≤ (wrap64 ((ji11) + (wrap64 (rd l0 a1)))) then (if (wrap64 ((ji11) + (wrap64 (rd l0 a1)))) ≤ (l0.length : Int) then (some (strOfNums ((l0.take ((wrap64 ((ji11) + (wrap64 (rd l0 a1)))) : Int).toNat).drop ((ji11) : Int).toNat), wrap64 ((ji11) + (wrap64 (rd l0 a1))), 0)) else (none)) else (none)) else (none)) = some (r1, r2, r3) := by first | (rw [hji11] at H; exact H) | (simp only [hji11] at H ⊢; exact H)
         have hji11w : (IntKind.i64.wrap (a1 + 1)) = ji11 := (i64_w _).trans hji11
         by_cases c12 : 0 ≤ (ji11)
         ·
          rw [if_pos c12] at H
          have c12b0 := eq_true c12
          have c12b1 : decide (0 ≤ (ji11)) = true := decide_eq_true c12
          clear c12
          by_cases c13 : (ji11) ≤ (wrap64 ((ji11) + (wrap64 (rd l0 a1))))
          ·
           rw [if_pos c13] at H
           have c13b0 := eq_true c13
           have c13b1 : decide ((ji11) ≤ (wrap64 ((ji11) + (wrap64 (rd l0 a1))))) = true := decide_eq_true c13
           by_cases c14 : (wrap64 ((ji11) + (wrap64 (rd l0 a1)))) ≤ (l0.length : Int)
           ·
            rw [if_pos c14] at H
            have c14b0 := eq_true c14
            have c14b1 : decide ((wrap64 ((ji11) + (wrap64 (rd l0 a1)))) ≤ (l0.length : Int)) = true := decide_eq_true c14
            simp only [Option.some.injEq, Prod.mk.injEq] at H
            obtain ⟨rfl, rfl, rfl⟩ := H
            have p205 : 0 ≤ (a1 : Int) := of_decide_eq_true z0_
            have q205 : a1 < (l0.length : Int) := of_decide_eq_true z0_
            obtain ⟨ad205, e205, hx205_0⟩ := Kd.at_int HR0.out a1 p205 q205
            cases e205
            replace p205 := eq_true p205
            replace q205 := eq_true q205
            have p206 : 0 ≤ (a1 : Int) := of_decide_eq_true z0_
            have q206 : a1 < (l0.length : Int) := of_decide_eq_true z0_
            obtain ⟨ad206, e206, hx206_0⟩ := Kd.at_int HR0.out a1 p206 q206
            obtain rfl : ad205 = ad206 := (by injection e206)
            replace p206 := eq_true p206
            replace q206 := eq_true q206
            have p207 : 0 ≤ (a1 : Int) := of_decide_eq_true z0_
            have q207 : a1 < (l0.length : Int) := of_decide_eq_true z0_
            obtain ⟨ad207, e207, hx207_0⟩ := Kd.at_int HR0.out a1 p207 q207
            obtain rfl : ad205 = ad207 := (by injection e207)
            replace p207 := eq_true p207
            replace q207 := eq_true q207
            obtain ⟨i015, hi015, _, hsz15, _⟩ := info_parts info5
            obtain ⟨A15, hcut15, hA15, hC15⟩ := print_mid_of (P := Try.prog) (Value.int .u8) 0 22 5 .i64 .i64 Try.underlying22 hi015 hsz15 (some ad205) c0 l0 (ji11) (wrap64 ((ji11) + (wrap64 (rd l0 a1)))) (of_decide_eq_true z0_) (by first | omega | exact of_decide_eq_true z0_) (of_decide_eq_true z0_) HC0.out
            have HR208 := mk_ (C_of_reads (h1 := fun _ => rfl) (hA15 _ (Kd.reads_of_C HR0.out)))
            have HC208 := mk_ hC15
            clear hA15 hC15 hi015 hsz15
            have hcv16 := C_string (P := Try.prog) (A := A15) (c := (c0 - (ji11).toNat)) Try.underlying22 Try.underlying5 Try.underlying9 HR208.out
            have hcv17 : ∀ (m_ n_ : Nat), n_ = ((l0.take ((wrap64 ((ji11) + (wrap64 (rd l0 a1)))) : Int).toNat).drop ((ji11) : Int).toNat).length → (convert 22 9 (.slice A15 n_ (c0 - (ji11).toNat))).run Try.prog (w.drewN m_) = .ok (.string (strOfNums ((l0.take ((wrap64 ((ji11) + (wrap64 (rd l0 a1)))) : Int).toNat).drop ((ji11) : Int).toNat))) (w.drewN m_) := fun m_ n_ h_ => by rw [h_]; exact C_string Try.underlying22 Try.underlying5 Try.underlying9 (C_drewN HR208.out m_)
            go_wp2
            go_ret3
            exact ⟨by first | rfl | (simp; done) | (simp only [← hji11] <;> (first | rfl | simp)) | (simp [*]; done), by repeat (first | exact Drawn0.refl _ | apply Drawn0.step)⟩
           ·
            rw [if_neg c14] at H
            exact absurd H (by simp)
          ·
           rw [if_neg c13] at H
           exact absurd H (by simp)
         ·
          rw [if_neg c12] at H
          exact absurd H (by simp)
      ·
       rw [if_neg c8] at H
       exact absurd H (by simp)
     ·
      rw [if_neg c7] at H
      exact absurd H (by simp)
end Go.Proofs.Ytcbfliajgopdaaa.PAll
end
section
namespace Go.Proofs.Ytcbfliajgopdaaa.PAll
open Go.RowKit Go.Proofs.YtcbfliajgopdaaaW.PrintWords Go.Proofs.YtcbfliajgopdaaaW.PrintLast Go.Proofs.YtcbfliajgopdaaaW.PrintMore Go.Proofs.Ytcbfliajgopdaaa.ZipT Go.Proofs.YtcbfliajgopdaaaW.PrintWords.Kd Go.Proofs.YtcbfliajgopdaaaW.PrintMore.Kd
attribute [local go_sem] max2_int min2_int max_two min_two max_three min_three max_four min_four   -- for this text's walks alone
set_option linter.unusedVariables false
set_option linter.unusedSimpArgs false
mutual
def wire_GetInt.j0 : Nat → List Int → Int → Bool → Option (Int × Int × Int)
 | 0, _, _, _ => none
 | k + 1, x0, x1, x15 => if x15 = true then (some (0, 0, 1)) else (if (wrap64 ((x0.length : Int) - x1)) < 9 then (wire_GetInt.j1 k x0 x1 true) else (if 0 ≤ x1 then (if x1 < (x0.length : Int) then (wire_GetInt.j1 k x0 x1 (decide ((rd x0 x1) > 1))) else (none)) else (none)))
def wire_GetInt.j1 : Nat → List Int → Int → Bool → Option (Int × Int × Int)
 | 0, _, _, _ => none
 | k + 1, x0, x1, x27 => if x27 = true then (some (0, 0, 3)) else (if 0 ≤ (wrap64 (x1 + 1)) then (if (wrap64 (x1 + 1)) ≤ (wrap64 (x1 + 9)) then (if (wrap64 (x1 + 9)) ≤ (x0.length : Int) then ((wire_num.f k ((x0.take ((wrap64 (x1 + 9)) : Int).toNat).drop ((wrap64 (x1 + 1)) : Int).toNat)).bind fun t211 => (if t211 > 1152921504606846976 then (wire_GetInt.j2 k x0 x1 t211 true) else (if 0 ≤ x1 then (if x1 < (x0.length : Int) then (if (rd x0 x1) = 1 then (wire_GetInt.j2 k x0 x1 t211 (t211 == 0)) else (wire_GetInt.j2 k x0 x1 t211 false)) else (none)) else (none)))) else (none)) else (none)) else (none))
def wire_GetInt.j2 : Nat → List Int → Int → Int → Bool → Option (Int × Int × Int)
 | 0, _, _, _, _ => none
 | k + 1, x0, x1, x7, x35 => if x35 = true then (some (0, 0, 3)) else (if 0 ≤ x1 then (if x1 < (x0.length : Int) then (if (rd x0 x1) = 1 then (some (wrap64 (-(wrap64 (x7))), wrap64 (x1 + 9), 0)) else (some (wrap64 (x7), wrap64 (x1 + 9), 0))) else (none)) else (none))
end
def wire_GetInt.f (k : Nat) (l0 : List Int) (a1 : Int) : Option (Int × Int × Int) := if a1 < 0 then (wire_GetInt.j0 k l0 a1 true) else (wire_GetInt.j0 k l0 a1 (decide (a1 > (l0.length : Int))))
set_option maxHeartbeats 8000000 in
set_option maxRecDepth 100000 in
theorem wire_GetInt.calls (k : Nat) (A0 : Option Addr) (c0 : Nat) (l0 : List Int) (a1 : Int) (r1 : Int) (r2 : Int) (r3 : Int) (w : World) (hr0 : Kd.C (Kd.int .u8) w A0 l0.length l0) (hc0 : l0.length ≤ c0) (h : wire_GetInt.f k l0 a1 = some (r1, r2, r3)) :
  Calls Try.prog 107 #[.slice A0 l0.length c0, .int .i64 a1] w fun e w' => e = .returned (.tuple #[.int .i64 r1, .int .i64 r2, .int .i64 r3]) ∧ Drawn0 w w' := by
 have HR0 := mk_ hr0
 have HC0 := mk_ hc0
 clear hr0 hc0
 have H : (if a1 < 0 then (wire_GetInt.j0 k l0 a1 true) else (wire_GetInt.j0 k l0 a1 (decide (a1 > (l0.length : Int))))) = some (r1, r2, r3) := h
 clear h
 have HC3 := mk_ H
 clear H
 go_enter Try.func107, Try.ntmps107
 go_upto_region 1 with (fail)
 go_cut [15] (fun v15 wc => ∃ (kq : Nat) (x15_2 : Bool), v15 = .bool x15_2 ∧ Aside0 (wire_GetInt.j0 kq l0 a1 x15_2 = some (r1, r2, r3)) ∧ Aside0 (kq ≤ k) ∧ Drawn0 w wc)
 case first =>
  have H := HC3.out
  clear HC3
  by_cases c4 : a1 < 0
  ·
   rw [if_pos c4] at H
   have c4b0 : decide (a1 < 0) = true := decide_eq_true c4
   clear c4
   (first | rw [c4b0] | (simp only [i64_w, i32_w]; rw [c4b0]) | skip)
   have H' := mk_ H
   clear H
   go_wp2
   go_meet
   case rel => exact ⟨_, (true), z3_, H', ⟨by first | omega | exact Nat.le_refl _⟩, by repeat (first | exact Drawn0.refl _ | apply Drawn0.step)⟩
  ·
   rw [if_neg c4] at H
   have c4b0 : decide (a1 < 0) = false := decide_eq_false c4
   clear c4
   (first | rw [c4b0] | (simp only [i64_w, i32_w]; rw [c4b0]) | skip)
   have H' := mk_ H
   clear H
   go_wp2
   go_meet
   case rel => exact ⟨_, (decide (a1 > (l0.length : Int))), z3_, H', ⟨by first | omega | exact Nat.le_refl _⟩, by repeat (first | exact Drawn0.refl _ | apply Drawn0.step)⟩
 case rest => as_aux_lemma =>
  clear HC3
  try clear c1
  try clear p2
  try clear c4
  try clear c4b0
  obtain ⟨kq, x15_2, rfl, HA, HJ2, ⟨mc2, rfl⟩⟩ := hcut
  cases kq with
  | zero => exact absurd HA.out (by simp [wire_GetInt.j0])
  | succ kj2 =>
   have H := HA.out
   clear HA
   simp only [wire_GetInt.j0] at H
   by_cases c5 : x15_2 = true
   ·
    subst c5
    have H1 : (some (0, 0, 1)) = some (r1, r2, r3) := by rw [if_pos rfl] at H; exact H
    clear H
    have H := H1
    clear H1
    simp only [Option.some.injEq, Prod.mk.injEq] at H
    obtain ⟨rfl, rfl, rfl⟩ := H
    go_wp2
    go_ret3
    exact ⟨z3_, by repeat (first | exact Drawn0.refl _ | apply Drawn0.step)⟩
   ·
    replace c5 := Bool.eq_false_iff.mpr c5
    subst c5
    have H1 : (if (wrap64 ((l0.length : Int) - a1)) < 9 then (wire_GetInt.j1 kj2 l0 a1 true) else (if 0 ≤ a1 then (if a1 < (l0.length : Int) then (wire_GetInt.j1 kj2 l0 a1 (decide ((rd l0 a1) > 1))) else (none)) else (none))) = some (r1, r2, r3) := by rw [if_neg (show ¬ (false = true) by decide)] at H; exact H
    clear H
    have H := H1
    clear H1
    have HC6 := mk_ H
    clear H
    go_upto_region 3 with (fail)
    go_cut [27] (fun v27 wc => ∃ (kq : Nat) (x27_5 : Bool), v27 = .bool x27_5 ∧ Aside0 (wire_GetInt.j1 kq l0 a1 x27_5 = some (r1, r2, r3)) ∧ Aside0 (kq ≤ kj2) ∧ Drawn0 w wc)
    case first =>
     have H := HC6.out
     clear HC6
     by_cases c7 : (wrap64 ((l0.length : Int) - a1)) < 9
     ·
      rw [if_pos c7] at H
      have c7b0 : decide ((wrap64 ((l0.length : Int) - a1)) < 9) = true := decide_eq_true c7
      clear c7
      (first | rw [c7b0] | (simp only [i64_w, i32_w]; rw [c7b0]) | skip)
      have H' := mk_ H
      clear H
      go_wp2
      go_meet
      case rel => exact ⟨_, (true), z3_, H', ⟨by have := HJ2.out; first | omega | exact Nat.le_refl _⟩, by repeat (first | exact Drawn0.refl _ | apply Drawn0.step)⟩
     ·
      rw [if_neg c7] at H
      have c7b0 : decide ((wrap64 ((l0.length : Int) - a1)) < 9) = false := decide_eq_false c7
      clear c7
      (first | rw [c7b0] | (simp only [i64_w, i32_w]; rw [c7b0]) | skip)
      by_cases c8 : 0 ≤ a1
      ·
       rw [if_pos c8] at H
       have c8b0 : decide (0 ≤ a1) = true := decide_eq_true c8
       clear c8
       by_cases c9 : a1 < (l0.length : Int)
       ·
        rw [if_pos c9] at H
        have c9b0 : decide (a1 < (l0.length : Int)) = true := decide_eq_true c9
        clear c9
        have H' := mk_ H
        clear H
        have p209 : 0 ≤ (a1 : Int) := of_decide_eq_true z0_
        have q209 : a1 < (l0.length : Int) := of_decide_eq_true z0_
        obtain ⟨ad209, e209, hx209_0⟩ := Kd.at_int HR0.out a1 p209 q209
        cases e209
        replace p209 := eq_true p209
        replace q209 := eq_true q209
        go_wp2
        go_meet
        case rel => exact ⟨_, (decide ((rd l0 a1) > 1)), z3_, H', ⟨by have := HJ2.out; first | omega | exact Nat.le_refl _⟩, by repeat (first | exact Drawn0.refl _ | apply Drawn0.step)⟩
       ·
        rw [if_neg c9] at H
        exact absurd H (by simp)
      ·
       rw [if_neg c8] at H
       exact absurd H (by simp)
    case rest => as_aux_lemma =>
     clear HC6
     try clear c1
     try clear c2
     try clear p2
     try clear q2
     try clear hx2
     try clear c4
     try clear c4b0
     try clear c5
     try clear p6
     try clear c7
     try clear c7b0
     try clear c8
     try clear c8b0
     try clear c9
     try clear c9b0
     try clear hx209_0
     try clear p2
     try clear p209
     try clear q209
     obtain ⟨kq, x27_5, rfl, HA, HJ5, ⟨mc5, rfl⟩⟩ := hcut
     cases kq with
     | zero => exact absurd HA.out (by simp [wire_GetInt.j1])
     | succ kj5 =>
      have H := HA.out
      clear HA
      simp only [wire_GetInt.j1] at H
      by_cases c10 : x27_5 = true
      ·
       subst c10
       have H1 : (some (0, 0, 3)) = some (r1, r2, r3) := by rw [if_pos rfl] at H; exact H
       clear H
       have H := H1
       clear H1
       simp only [Option.some.injEq, Prod.mk.injEq] at H
       obtain ⟨rfl, rfl, rfl⟩ := H
       go_wp2
       go_ret3
       exact ⟨z3_, by repeat (first | exact Drawn0.refl _ | apply Drawn0.step)⟩
      ·
       replace c10 := Bool.eq_false_iff.mpr c10
       subst c10
       have H1 : (if 0 ≤ (wrap64 (a1 + 1)) then (if (wrap64 (a1 + 1)) ≤ (wrap64 (a1 + 9)) then (if (wrap64 (a1 + 9)) ≤ (l0.length : Int) then ((wire_num.f kj5 ((l0.take ((wrap64 (a1 + 9)) : Int).toNat).drop ((wrap64 (a1 + 1)) : Int).toNat)).bind fun t211 => (if t211 > 1152921504606846976 then (wire_GetInt.j2 kj5 l0 a1 t211 true) else (if 0 ≤ a1 then (if a1 < (l0.length : Int) then (if (rd l0 a1) = 1 then (wire_GetInt.j2 kj5 l0 a1 t211 (t211 == 0)) else (wire_GetInt.j2 kj5 l0 a1 t211 false)) else (none)) else (none)))) else (none)) else (none)) else (none)) = some (r1, r2, r3) := by rw [if_neg (show ¬ (false = true) by decide)] at H; exact H
       clear H
       have H := H1
       clear H1
       obtain ⟨ji11, hji11⟩ : ∃ j_ : Int, (wrap64 (a1 + 1)) = j_ := ⟨_, rfl⟩
       replace H : (if 0 ≤ (ji11) then (if (ji11) ≤ (wrap64 (a1 + 9)) then (if (wrap64 (a1 + 9)) ≤ (l0.length : Int) then ((wire_num.f kj5 ((l0.take ((wrap64 (a1 + 9)) : Int).toNat).drop ((ji11) : Int).toNat)).bind fun t211 => (if t211 > 1152921504606846976 then (wire_GetInt.j2 kj5 l0 a1 t211 true) else (if 0 ≤ a1 then (if a1 < (l0.length : Int) then (if (rd l0 a1) = 1 then (wire_GetInt.j2 kj5 l0 a1 t211 (t211 == 0)) else (wire_GetInt.j2 kj5 l0 a1 t211 false)) else (none)) else (none)))) else (none)) else (none)) else (none)) = some (r1, r2, r3) := by first | (rw [hji11] at H; exact H) | (simp only [hji11] at H ⊢; exact H)
       have hji11w : (IntKind.i64.wrap (a1 + 1)) = ji11 := (i64_w _).trans hji11
       by_cases c12 : 0 ≤ (ji11)
       ·
        rw [if_pos c12] at H
        have c12b0 := eq_true c12
        have c12b1 : decide (0 ≤ (ji11)) = true := decide_eq_true c12
        clear c12
        by_cases c13 : (ji11) ≤ (wrap64 (a1 + 9))
        ·
         rw [if_pos c13] at H
         have c13b0 := eq_true c13
         have c13b1 : decide ((ji11) ≤ (wrap64 (a1 + 9))) = true := decide_eq_true c13
         by_cases c14 : (wrap64 (a1 + 9)) ≤ (l0.length : Int)
         ·
          rw [if_pos c14] at H
          have c14b0 := eq_true c14
          have c14b1 : decide ((wrap64 (a1 + 9)) ≤ (l0.length : Int)) = true := decide_eq_true c14
          replace H := Option.bind_eq_some_iff.mp H
          obtain ⟨t211, A150, H⟩ := H
          replace H : (if t211 > 1152921504606846976 then (wire_GetInt.j2 kj5 l0 a1 t211 true) else (if 0 ≤ a1 then (if a1 < (l0.length : Int) then (if (rd l0 a1) = 1 then (wire_GetInt.j2 kj5 l0 a1 t211 (t211 == 0)) else (wire_GetInt.j2 kj5 l0 a1 t211 false)) else (none)) else (none))) = some (r1, r2, r3) := H
          have A15 := mk_ A150
          clear A150
          have HC16 := mk_ H
          clear H
          obtain ⟨i017, hi017, _, hsz17, _⟩ := info_parts info5
          obtain ⟨A17, hcut17, hA17, hC17⟩ := print_mid_of (P := Try.prog) (Value.int .u8) 0 22 5 .i64 .i64 Try.underlying22 hi017 hsz17 A0 c0 l0 (ji11) (wrap64 (a1 + 9)) (of_decide_eq_true z0_) (by first | omega | exact of_decide_eq_true z0_) (of_decide_eq_true z0_) HC0.out
          have HR210 := mk_ (C_of_reads (h1 := fun _ => rfl) (hA17 _ (Kd.reads_of_C HR0.out)))
          have HC210 := mk_ hC17
          clear hA17 hC17 hi017 hsz17
          go_upto_region 6 with (first | ((with_reducible refine gate_callee (f := 95) rfl ?_); refine goesL_ (some 34) rfl rfl Try.func95 z1_ rfl #[.slice A17 ((l0.take ((wrap64 (a1 + 9)) : Int).toNat).drop ((ji11) : Int).toNat).length (c0 - (ji11).toNat)] rfl (by (try simp only [List.map_toArray, List.map_cons, List.map_nil]); first | done | (rw [show ((l0.take ((wrap64 (a1 + 9)) : Int).toNat).drop ((ji11) : Int).toNat).length = ((wrap64 (a1 + 9)).toNat - (ji11).toNat) from (by rw [List.length_drop, List.length_take]; have h_ : ((wrap64 (a1 + 9)) : Int) ≤ (l0.length : Int) := of_decide_eq_true z0_; omega)] <;> rfl) | (simp only [hji11]; rfl) | rfl | (simp only [List.length_drop, List.length_take]; rfl) | (go_simp; done) | (simp; done)) ?_; (with_reducible refine (wire_num.calls kj5 _ _ ((l0.take ((wrap64 (a1 + 9)) : Int).toNat).drop ((ji11) : Int).toNat) t211 _ ?side1 ?side2 A15.out).mono ?_); (case side1 => repeat (first | exact HR210.out | (with_reducible refine C_alloc ?_ _) | (with_reducible refine C_drewN ?_ _) | (with_reducible refine C_drew ?_))); (case side2 => exact HC210.out); rintro e w' ⟨rfl, ⟨nd, rfl⟩⟩; refine ⟨_, rfl, ?_⟩))
          (try simp only [Act.put, List.setIfInBounds_toArray, List.set_cons_zero, List.set_cons_succ])
          go_cut [35] (fun v35 wc => ∃ (kq : Nat) (x35_15 : Bool), v35 = .bool x35_15 ∧ Aside0 (wire_GetInt.j2 kq l0 a1 t211 x35_15 = some (r1, r2, r3)) ∧ Aside0 (kq ≤ kj5) ∧ Drawn0 w wc)
          case first =>
           have H := HC16.out
           clear HC16
           by_cases c18 : t211 > 1152921504606846976
           ·
            rw [if_pos c18] at H
            have c18b0 : decide (1152921504606846976 < t211) = true := decide_eq_true c18
            clear c18
            (first | rw [c18b0] | (simp only [i64_w, i32_w]; rw [c18b0]) | skip)
            have H' := mk_ H
            clear H
            go_wp2
            go_meet
            case rel => exact ⟨_, (true), z3_, H', ⟨by have := HJ2.out; have := HJ5.out; first | omega | exact Nat.le_refl _⟩, by repeat (first | exact Drawn0.refl _ | apply Drawn0.step)⟩
           ·
            rw [if_neg c18] at H
            have c18b0 : decide (1152921504606846976 < t211) = false := decide_eq_false c18
            clear c18
            (first | rw [c18b0] | (simp only [i64_w, i32_w]; rw [c18b0]) | skip)
            by_cases c19 : 0 ≤ a1
            ·
             rw [if_pos c19] at H
             have c19b0 : decide (0 ≤ a1) = true := decide_eq_true c19
             clear c19
             by_cases c20 : a1 < (l0.length : Int)
             ·
              rw [if_pos c20] at H
              have c20b0 : decide (a1 < (l0.length : Int)) = true := decide_eq_true c20
              clear c20
              by_cases c21 : (rd l0 a1) = 1
              ·
               rw [if_pos c21] at H
               have c21b0 : ((rd l0 a1) == 1) = true := beq_iff_eq.mpr c21
               have c21b1 : ((rd l0 a1) != 1) = false := bne_eq_false_iff_eq.mpr c21
               clear c21
               have H' := mk_ H
               clear H
               have p212 : 0 ≤ (a1 : Int) := of_decide_eq_true z0_
               have q212 : a1 < (l0.length : Int) := of_decide_eq_true z0_
               obtain ⟨ad212, e212, hx212_0⟩ := Kd.at_int HR0.out a1 p212 q212
               cases e212
               replace p212 := eq_true p212
               replace q212 := eq_true q212
               go_wp2
               go_meet
               case rel => exact ⟨_, ((t211 == 0)), z3_, H', ⟨by have := HJ2.out; have := HJ5.out; first | omega | exact Nat.le_refl _⟩, by repeat (first | exact Drawn0.refl _ | apply Drawn0.step)⟩
              ·
               rw [if_neg c21] at H
               have c21b0 : ((rd l0 a1) == 1) = false := beq_eq_false_iff_ne.mpr c21
               have c21b1 : ((rd l0 a1) != 1) = true := bne_iff_ne.mpr c21
               have H' := mk_ H
               clear H
               have p212 : 0 ≤ (a1 : Int) := of_decide_eq_true z0_
               have q212 : a1 < (l0.length : Int) := of_decide_eq_true z0_
               obtain ⟨ad212, e212, hx212_0⟩ := Kd.at_int HR0.out a1 p212 q212
               cases e212
               replace p212 := eq_true p212
               replace q212 := eq_true q212
               go_wp2
               go_meet
               case rel => exact ⟨_, (false), z3_, H', ⟨by have := HJ2.out; have := HJ5.out; first | omega | exact Nat.le_refl _⟩, by repeat (first | exact Drawn0.refl _ | apply Drawn0.step)⟩
             ·
              rw [if_neg c20] at H
              exact absurd H (by simp)
            ·
             rw [if_neg c19] at H
             exact absurd H (by simp)
          case rest => as_aux_lemma =>
           clear HC16
           try clear c1
           try clear c2
           try clear p2
           try clear q2
           try clear hx2
           try clear c4
           try clear c4b0
           try clear c5
           try clear p6
           try clear c7
           try clear c7b0
           try clear c8
           try clear c8b0
           try clear c9
           try clear c9b0
           try clear c10
           try clear c12
           try clear c12b0
           try clear c12b1
           try clear c13
           try clear c13b0
           try clear c13b1
           try clear c14
           try clear c14b0
           try clear c14b1
           try clear c18
           try clear c18b0
           try clear c19
           try clear c19b0
           try clear c20
           try clear c20b0
           try clear p20
           try clear q20
           try clear hx20
           try clear c21
           try clear c21b0
           try clear c21b1
           try clear p21
           try clear q21
           try clear hx21
           try clear hx209_0
           try clear hx212_0
           try clear p2
           try clear p209
           try clear p212
           try clear p6
           try clear q2
           try clear q209
           try clear q212
           obtain ⟨kq, x35_15, rfl, HA, HJ15, ⟨mc15, rfl⟩⟩ := hcut
           cases kq with
           | zero => exact absurd HA.out (by simp [wire_GetInt.j2])
           | succ kj15 =>
            have H := HA.out
            clear HA
            simp only [wire_GetInt.j2] at H
            by_cases c22 : x35_15 = true
            ·
             subst c22
             have H1 : (some (0, 0, 3)) = some (r1, r2, r3) := by rw [if_pos rfl] at H; exact H
             clear H
             have H := H1
             clear H1
             simp only [Option.some.injEq, Prod.mk.injEq] at H
             obtain ⟨rfl, rfl, rfl⟩ := H
             go_wp2
             go_ret3
             exact ⟨by first | rfl | (simp; done) | (simp only [← hji11] <;> (first | rfl | simp)) | (simp [*]; done), by repeat (first | exact Drawn0.refl _ | apply Drawn0.step)⟩
            ·
             replace c22 := Bool.eq_false_iff.mpr c22
             subst c22
             have H1 : (if 0 ≤ a1 then (if a1 < (l0.length : Int) then (if (rd l0 a1) = 1 then (some (wrap64 (-(wrap64 (t211))), wrap64 (a1 + 9), 0)) else (some (wrap64 (t211), wrap64 (a1 + 9), 0))) else (none)) else (none)) = some (r1, r2, r3) := by rw [if_neg (show ¬ (false = true) by decide)] at H; exact H
             clear H
             have H := H1
             clear H1
             by_cases c23 : 0 ≤ a1
             ·
              rw [if_pos c23] at H
              have c23b0 : decide (0 ≤ a1) = true := decide_eq_true c23
              clear c23
              by_cases c24 : a1 < (l0.length : Int)
              ·
               rw [if_pos c24] at H
               have c24b0 : decide (a1 < (l0.length : Int)) = true := decide_eq_true c24
               clear c24
               by_cases c25 : (rd l0 a1) = 1
               ·
                rw [if_pos c25] at H
                have c25b0 : ((rd l0 a1) == 1) = true := beq_iff_eq.mpr c25
                have c25b1 : ((rd l0 a1) != 1) = false := bne_eq_false_iff_eq.mpr c25
                clear c25
                simp only [Option.some.injEq, Prod.mk.injEq] at H
                obtain ⟨rfl, rfl, rfl⟩ := H
                have p213 : 0 ≤ (a1 : Int) := of_decide_eq_true z0_
                have q213 : a1 < (l0.length : Int) := of_decide_eq_true z0_
                obtain ⟨ad213, e213, hx213_0⟩ := Kd.at_int HR0.out a1 p213 q213
                cases e213
                replace p213 := eq_true p213
                replace q213 := eq_true q213
                go_wp2
                go_ret3
                exact ⟨by first | rfl | (simp; done) | (simp only [← hji11] <;> (first | rfl | simp)) | (simp [*]; done), by repeat (first | exact Drawn0.refl _ | apply Drawn0.step)⟩
               ·
                rw [if_neg c25] at H
                have c25b0 : ((rd l0 a1) == 1) = false := beq_eq_false_iff_ne.mpr c25
                have c25b1 : ((rd l0 a1) != 1) = true := bne_iff_ne.mpr c25
                simp only [Option.some.injEq, Prod.mk.injEq] at H
                obtain ⟨rfl, rfl, rfl⟩ := H
                have p213 : 0 ≤ (a1 : Int) := of_decide_eq_true z0_
                have q213 : a1 < (l0.length : Int) := of_decide_eq_true z0_
                obtain ⟨ad213, e213, hx213_0⟩ := Kd.at_int HR0.out a1 p213 q213
                cases e213
                replace p213 := eq_true p213
                replace q213 := eq_true q213
                go_wp2
                go_ret3
                exact ⟨by first | rfl | (simp; done) | (simp only [← hji11] <;> (first | rfl | simp)) | (simp [*]; done), by repeat (first | exact Drawn0.refl _ | apply Drawn0.step)⟩
              ·
               rw [if_neg c24] at H
               exact absurd H (by simp)
             ·
              rw [if_neg c23] at H
              exact absurd H (by simp)
         ·
          rw [if_neg c14] at H
          exact absurd H (by simp)
        ·
         rw [if_neg c13] at H
         exact absurd H (by simp)
       ·
        rw [if_neg c12] at H
        exact absurd H (by simp)
def value_Read.f (k : Nat) (l0 : List Int) (a1 : Int) : Option (Int × Int × ByteArray × Int × Int) := (wire_Get.f k l0 a1 1).bind fun bt215 => (if bt215.2.2 = 0 then (if bt215.1 = 2 then ((wire_Get.f k l0 bt215.2.1 1).bind fun bt218 => (if bt218.2.2 = 0 then ((value_Check.f bt215.1 bt218.1 (⟨#[]⟩ : ByteArray)).bind fun t221 => (if t221 = 0 then (some (bt215.1, bt218.1, (⟨#[]⟩ : ByteArray), bt218.2.1, 0)) else (some (0, 0, (⟨#[]⟩ : ByteArray), 0, 3)))) else (some (0, 0, (⟨#[]⟩ : ByteArray), 0, 3)))) else (if bt215.1 = 3 then ((wire_GetInt.f k l0 bt215.2.1).bind fun bt222 => (if bt222.2.2 = 0 then ((value_Check.f bt215.1 bt222.1 (⟨#[]⟩ : ByteArray)).bind fun t225 => (if t225 = 0 then (some (bt215.1, bt222.1, (⟨#[]⟩ : ByteArray), bt222.2.1, 0)) else (some (0, 0, (⟨#[]⟩ : ByteArray), 0, 3)))) else (some (0, 0, (⟨#[]⟩ : ByteArray), 0, 3)))) else (if bt215.1 = 4 then ((wire_GetText.f k l0 bt215.2.1).bind fun bt226 => (if bt226.2.2 = 0 then ((value_Check.f bt215.1 0 bt226.1).bind fun t229 => (if t229 = 0 then (some (bt215.1, 0, bt226.1, bt226.2.1, 0)) else (some (0, 0, (⟨#[]⟩ : ByteArray), 0, 3)))) else (some (0, 0, (⟨#[]⟩ : ByteArray), 0, 3)))) else ((value_Check.f bt215.1 0 (⟨#[]⟩ : ByteArray)).bind fun t230 => (if t230 = 0 then (some (bt215.1, 0, (⟨#[]⟩ : ByteArray), bt215.2.1, 0)) else (some (0, 0, (⟨#[]⟩ : ByteArray), 0, 3))))))) else (some (0, 0, (⟨#[]⟩ : ByteArray), 0, bt215.2.2)))
set_option maxHeartbeats 8000000 in
set_option maxRecDepth 100000 in
theorem value_Read.calls (k : Nat) (A0 : Option Addr) (c0 : Nat) (l0 : List Int) (a1 : Int) (r1 : Int) (r2 : Int) (r3 : ByteArray) (r4 : Int) (r5 : Int) (w : World) (hr0 : Kd.C (Kd.int .u8) w A0 l0.length l0) (hc0 : l0.length ≤ c0) (h : value_Read.f k l0 a1 = some (r1, r2, r3, r4, r5)) :
  Calls Try.prog 97 #[.slice A0 l0.length c0, .int .i64 a1] w fun e w' => e = .returned (.tuple #[.agg #[.int .i64 r1, .int .i64 r2, .string r3], .int .i64 r4, .int .i64 r5]) ∧ Below w.heap.size w w' := by
 have hu89 := Try.underlying89
 have HR0 := mk_ hr0
 have HC0 := mk_ hc0
 clear hr0 hc0
 have HB := mk_ (Below.refl w.heap.size w)
 have H : ((wire_Get.f k l0 a1 1).bind fun bt215 => (if bt215.2.2 = 0 then (if bt215.1 = 2 then ((wire_Get.f k l0 bt215.2.1 1).bind fun bt218 => (if bt218.2.2 = 0 then ((value_Check.f bt215.1 bt218.1 (⟨#[]⟩ : ByteArray)).bind fun t221 => (if t221 = 0 then (some (bt215.1, bt218.1, (⟨#[]⟩ : ByteArray), bt218.2.1, 0)) else (some (0, 0, (⟨#[]⟩ : ByteArray), 0, 3)))) else (some (0, 0, (⟨#[]⟩ : ByteArray), 0, 3)))) else (if bt215.1 = 3 then ((wire_GetInt.f k l0 bt215.2.1).bind fun bt222 => (if bt222.2.2 = 0 then ((value_Check.f bt215.1 bt222.1 (⟨#[]⟩ : ByteArray)).bind fun t225 => (if t225 = 0 then (some (bt215.1, bt222.1, (⟨#[]⟩ : ByteArray), bt222.2.1, 0)) else (some (0, 0, (⟨#[]⟩ : ByteArray), 0, 3)))) else (some (0, 0, (⟨#[]⟩ : ByteArray), 0, 3)))) else (if bt215.1 = 4 then ((wire_GetText.f k l0 bt215.2.1).bind fun bt226 => (if bt226.2.2 = 0 then ((value_Check.f bt215.1 0 bt226.1).bind fun t229 => (if t229 = 0 then (some (bt215.1, 0, bt226.1, bt226.2.1, 0)) else (some (0, 0, (⟨#[]⟩ : ByteArray), 0, 3)))) else (some (0, 0, (⟨#[]⟩ : ByteArray), 0, 3)))) else ((value_Check.f bt215.1 0 (⟨#[]⟩ : ByteArray)).bind fun t230 => (if t230 = 0 then (some (bt215.1, 0, (⟨#[]⟩ : ByteArray), bt215.2.1, 0)) else (some (0, 0, (⟨#[]⟩ : ByteArray), 0, 3))))))) else (some (0, 0, (⟨#[]⟩ : ByteArray), 0, bt215.2.2)))) = some (r1, r2, r3, r4, r5) := h
 clear h
 replace H := Option.bind_eq_some_iff.mp H
 obtain ⟨⟨t215, t216, t217⟩, A30, H⟩ := H
 replace H : (if t217 = 0 then (if t215 = 2 then ((wire_Get.f k l0 t216 1).bind fun bt218 => (if bt218.2.2 = 0 then ((value_Check.f t215 bt218.1 (⟨#[]⟩ : ByteArray)).bind fun t221 => (if t221 = 0 then (some (t215, bt218.1, (⟨#[]⟩ : ByteArray), bt218.2.1, 0)) else (some (0, 0, (⟨#[]⟩ : ByteArray), 0, 3)))) else (some (0, 0, (⟨#[]⟩ : ByteArray), 0, 3)))) else (if t215 = 3 then ((wire_GetInt.f k l0 t216).bind fun bt222 => (if bt222.2.2 = 0 then ((value_Check.f t215 bt222.1 (⟨#[]⟩ : ByteArray)).bind fun t225 => (if t225 = 0 then (some (t215, bt222.1, (⟨#[]⟩ : ByteArray), bt222.2.1, 0)) else (some (0, 0, (⟨#[]⟩ : ByteArray), 0, 3)))) else (some (0, 0, (⟨#[]⟩ : ByteArray), 0, 3)))) else (if t215 = 4 then ((wire_GetText.f k l0 t216).bind fun bt226 => (if bt226.2.2 = 0 then ((value_Check.f t215 0 bt226.1).bind fun t229 => (if t229 = 0 then (some (t215, 0, bt226.1, bt226.2.1, 0)) else (some (0, 0, (⟨#[]⟩ : ByteArray), 0, 3)))) else (some (0, 0, (⟨#[]⟩ : ByteArray), 0, 3)))) else ((value_Check.f t215 0 (⟨#[]⟩ : ByteArray)).bind fun t230 => (if t230 = 0 then (some (t215, 0, (⟨#[]⟩ : ByteArray), t216, 0)) else (some (0, 0, (⟨#[]⟩ : ByteArray), 0, 3))))))) else (some (0, 0, (⟨#[]⟩ : ByteArray), 0, t217))) = some (r1, r2, r3, r4, r5) := H
 have A3 := mk_ A30
 clear A30
 by_cases c4 : t217 = 0
 ·
  rw [if_pos c4] at H
  have c4b0 : (t217 == 0) = true := beq_iff_eq.mpr c4
  have c4b1 : (t217 != 0) = false := bne_eq_false_iff_eq.mpr c4
  clear c4
  by_cases c5 : t215 = 2
  ·
   rw [if_pos c5] at H
   have c5b0 : (t215 == 2) = true := beq_iff_eq.mpr c5
   have c5b1 : (t215 != 2) = false := bne_eq_false_iff_eq.mpr c5
   clear c5
   replace H := Option.bind_eq_some_iff.mp H
   obtain ⟨⟨t218, t219, t220⟩, A60, H⟩ := H
   replace H : (if t220 = 0 then ((value_Check.f t215 t218 (⟨#[]⟩ : ByteArray)).bind fun t221 => (if t221 = 0 then (some (t215, t218, (⟨#[]⟩ : ByteArray), t219, 0)) else (some (0, 0, (⟨#[]⟩ : ByteArray), 0, 3)))) else (some (0, 0, (⟨#[]⟩ : ByteArray), 0, 3))) = some (r1, r2, r3, r4, r5) := H
   have A6 := mk_ A60
   clear A60
   by_cases c7 : t220 = 0
   ·
    rw [if_pos c7] at H
    have c7b0 : (t220 == 0) = true := beq_iff_eq.mpr c7
    have c7b1 : (t220 != 0) = false := bne_eq_false_iff_eq.mpr c7
    clear c7
    replace H := Option.bind_eq_some_iff.mp H
    obtain ⟨t221, A80, H⟩ := H
    replace H : (if t221 = 0 then (some (t215, t218, (⟨#[]⟩ : ByteArray), t219, 0)) else (some (0, 0, (⟨#[]⟩ : ByteArray), 0, 3))) = some (r1, r2, r3, r4, r5) := H
    have A8 := mk_ A80
    clear A80
    by_cases c9 : t221 = 0
    ·
     rw [if_pos c9] at H
     have c9b0 : (t221 == 0) = true := beq_iff_eq.mpr c9
     have c9b1 : (t221 != 0) = false := bne_eq_false_iff_eq.mpr c9
     clear c9
     simp only [Option.some.injEq, Prod.mk.injEq] at H
     obtain ⟨rfl, rfl, rfl, rfl, rfl⟩ := H
     go_enter Try.func97, Try.ntmps97
     go_wp2_with (first | ((with_reducible refine gate_dst (N := 4) rfl ?_); refine box_event ?hg (N := 4) ?hd (cs := #[.int .i64 0, .int .i64 0, .string (⟨#[]⟩ : ByteArray)]) (t := 89) ?hr ?_; (case hd => rfl); (case hg => rfl); (case hr => first | (go_simp; done) | (go_simp; rfl)); intro gb214 hg w10 hbox hb; have n0_ := mk_ (below_step (Short.hB HB) hb); have n1_ := mk_ (hbox); have n2_ := mk_ ((by rw [hg]; exact (below_size (Short.hB HB)) : w.heap.size ≤ gb214)); have n3_ := mk_ ((by rw [hg]; exact (below_size (Short.hB HB)) : w.heap.size ≤ gb214)); clear HB; revert n0_ n1_ n2_ n3_; intro HB BK214 GW214 GE214; clear hb hbox hg) | ((with_reducible refine gate_callee (f := 72) rfl ?_); refine Short.gL (some 11) Try.func72 #[.slice A0 l0.length c0, .int .i64 a1, .int .i64 1] (h := ?_); (with_reducible refine (wire_Get.calls k _ _ l0 a1 1 t215 t216 t217 _ ?side1 ?side2 A3.out).mono ?_); (case side1 => exact cX_ (C_below HR0.out HB.out)); (case side2 => exact HC0.out); rintro e w' ⟨rfl, ⟨nd, rfl⟩⟩; refine ⟨_, rfl, ?_⟩; (try (rw [drewN_self w10]; generalize hq_ : World.drewN w10 _ = w10; have n0_ : Aside0 (w10.heap[gb214]? = some (.cells #[.int .i64 0, .int .i64 0, .string (⟨#[]⟩ : ByteArray)] 89 (0, 0))) := ⟨by rw [← hq_]; exact (Short.bK BK214)⟩; have n1_ : Aside0 (Below w.heap.size w w10) := ⟨by rw [← hq_]; exact (Short.hB HB)⟩; clear BK214 HB hq_; revert n0_ n1_; intro BK214 HB)); obtain ⟨hcz11_0, hcz11_1, hcz11_2, hfz11_0, hfz11_1, hfz11_2⟩ := Short.c3 BK214.out) | ((with_reducible refine gate_callee (f := 72) rfl ?_); refine Short.gL (some 27) Try.func72 #[.slice A0 l0.length c0, .int .i64 t216, .int .i64 1] (h := ?_); (with_reducible refine (wire_Get.calls k _ _ l0 t216 1 t218 t219 t220 _ ?side1 ?side2 A6.out).mono ?_); (case side1 => exact C_below HR0.out (Short.hB HB)); (case side2 => exact HC0.out); rintro e w' ⟨rfl, ⟨nd, rfl⟩⟩; refine ⟨_, rfl, ?_⟩) | (go_at_call 108; (with_reducible refine (value_Check.calls t215 t218 (⟨#[]⟩ : ByteArray) t221 _ A8.out).mono ?_); rintro e w12 ⟨rfl, hb⟩; have n0_ := mk_ (blk_below (g := gb214) (o := .cells #[.int .i64 t215, .int .i64 t218, .string (⟨#[]⟩ : ByteArray)] 89 (0, 0)) (by (with_reducible repeat (first | refine blk_drewN ?_ _ | refine blk_drew ?_ | refine blk_alloc ?_ _)); refine blk_put (cs := #[.int .i64 t215, .int .i64 0, .string (⟨#[]⟩ : ByteArray)]) ?_ 1 _ rfl; (with_reducible repeat (first | refine blk_drewN ?_ _ | refine blk_drew ?_ | refine blk_alloc ?_ _)); refine blk_put (cs := #[.int .i64 0, .int .i64 0, .string (⟨#[]⟩ : ByteArray)]) ?_ 0 _ rfl; (with_reducible repeat (first | refine blk_drewN ?_ _ | refine blk_drew ?_ | refine blk_alloc ?_ _)); exact BK214.out) hb); have n1_ := mk_ (below_step (Short.hB HB) hb); clear BK214 HB; revert n0_ n1_; intro BK214 HB; (try clear hb); (try clear hb2); (try clear hk); (try clear hi); obtain ⟨hcz13_0, hcz13_1, hcz13_2, hfz13_0, hfz13_1, hfz13_2⟩ := Short.c3 BK214.out))
     refine bodyPost_ret (results_ctt rfl _ _ gb214 89 #[.int .i64 t215, .int .i64 t218, .string (⟨#[]⟩ : ByteArray)] (0, 0) _ rfl (by (with_reducible repeat (first | refine blk_drewN ?_ _ | refine blk_drew ?_ | refine blk_alloc ?_ _)); refine blk_put (cs := #[.int .i64 t215, .int .i64 t218, .string (⟨#[]⟩ : ByteArray)]) ?_ 2 _ rfl; (with_reducible repeat (first | refine blk_drewN ?_ _ | refine blk_drew ?_ | refine blk_alloc ?_ _)); refine blk_put (cs := #[.int .i64 t215, .int .i64 t218, .string (⟨#[]⟩ : ByteArray)]) ?_ 1 _ rfl; (with_reducible repeat (first | refine blk_drewN ?_ _ | refine blk_drew ?_ | refine blk_alloc ?_ _)); refine blk_put (cs := #[.int .i64 t215, .int .i64 t218, .string (⟨#[]⟩ : ByteArray)]) ?_ 0 _ rfl; (with_reducible repeat (first | refine blk_drewN ?_ _ | refine blk_drew ?_ | refine blk_alloc ?_ _)); exact BK214.out) Try.underlying89 rfl z1_) rfl ?_
     exact ⟨by first | rfl | (simp [errW_none, errW_some] <;> rfl) | (simp [*, errW_none, errW_some] <;> rfl), Short.hB HB⟩
    ·
     rw [if_neg c9] at H
     have c9b0 : (t221 == 0) = false := beq_eq_false_iff_ne.mpr c9
     have c9b1 : (t221 != 0) = true := bne_iff_ne.mpr c9
     simp only [Option.some.injEq, Prod.mk.injEq] at H
     obtain ⟨rfl, rfl, rfl, rfl, rfl⟩ := H
     go_enter Try.func97, Try.ntmps97
     go_wp2_with (first | ((with_reducible refine gate_dst (N := 4) rfl ?_); refine box_event ?hg (N := 4) ?hd (cs := #[.int .i64 0, .int .i64 0, .string (⟨#[]⟩ : ByteArray)]) (t := 89) ?hr ?_; (case hd => rfl); (case hg => rfl); (case hr => first | (go_simp; done) | (go_simp; rfl)); intro gb214 hg w14 hbox hb; have n0_ := mk_ (below_step (Short.hB HB) hb); have n1_ := mk_ (hbox); have n2_ := mk_ ((by rw [hg]; exact (below_size (Short.hB HB)) : w.heap.size ≤ gb214)); have n3_ := mk_ ((by rw [hg]; exact (below_size (Short.hB HB)) : w.heap.size ≤ gb214)); clear HB; revert n0_ n1_ n2_ n3_; intro HB BK214 GW214 GE214; clear hb hbox hg) | ((with_reducible refine gate_callee (f := 72) rfl ?_); refine Short.gL (some 11) Try.func72 #[.slice A0 l0.length c0, .int .i64 a1, .int .i64 1] (h := ?_); (with_reducible refine (wire_Get.calls k _ _ l0 a1 1 t215 t216 t217 _ ?side1 ?side2 A3.out).mono ?_); (case side1 => exact cX_ (C_below HR0.out HB.out)); (case side2 => exact HC0.out); rintro e w' ⟨rfl, ⟨nd, rfl⟩⟩; refine ⟨_, rfl, ?_⟩; (try (rw [drewN_self w14]; generalize hq_ : World.drewN w14 _ = w14; have n0_ : Aside0 (w14.heap[gb214]? = some (.cells #[.int .i64 0, .int .i64 0, .string (⟨#[]⟩ : ByteArray)] 89 (0, 0))) := ⟨by rw [← hq_]; exact (Short.bK BK214)⟩; have n1_ : Aside0 (Below w.heap.size w w14) := ⟨by rw [← hq_]; exact (Short.hB HB)⟩; clear BK214 HB hq_; revert n0_ n1_; intro BK214 HB)); obtain ⟨hcz15_0, hcz15_1, hcz15_2, hfz15_0, hfz15_1, hfz15_2⟩ := Short.c3 BK214.out) | ((with_reducible refine gate_callee (f := 72) rfl ?_); refine Short.gL (some 27) Try.func72 #[.slice A0 l0.length c0, .int .i64 t216, .int .i64 1] (h := ?_); (with_reducible refine (wire_Get.calls k _ _ l0 t216 1 t218 t219 t220 _ ?side1 ?side2 A6.out).mono ?_); (case side1 => exact C_below HR0.out (Short.hB HB)); (case side2 => exact HC0.out); rintro e w' ⟨rfl, ⟨nd, rfl⟩⟩; refine ⟨_, rfl, ?_⟩) | (go_at_call 108; (with_reducible refine (value_Check.calls t215 t218 (⟨#[]⟩ : ByteArray) t221 _ A8.out).mono ?_); rintro e w16 ⟨rfl, hb⟩; have n0_ := mk_ (blk_below (g := gb214) (o := .cells #[.int .i64 t215, .int .i64 t218, .string (⟨#[]⟩ : ByteArray)] 89 (0, 0)) (by (with_reducible repeat (first | refine blk_drewN ?_ _ | refine blk_drew ?_ | refine blk_alloc ?_ _)); refine blk_put (cs := #[.int .i64 t215, .int .i64 0, .string (⟨#[]⟩ : ByteArray)]) ?_ 1 _ rfl; (with_reducible repeat (first | refine blk_drewN ?_ _ | refine blk_drew ?_ | refine blk_alloc ?_ _)); refine blk_put (cs := #[.int .i64 0, .int .i64 0, .string (⟨#[]⟩ : ByteArray)]) ?_ 0 _ rfl; (with_reducible repeat (first | refine blk_drewN ?_ _ | refine blk_drew ?_ | refine blk_alloc ?_ _)); exact BK214.out) hb); have n1_ := mk_ (below_step (Short.hB HB) hb); clear BK214 HB; revert n0_ n1_; intro BK214 HB; (try clear hb); (try clear hb2); (try clear hk); (try clear hi); obtain ⟨hcz17_0, hcz17_1, hcz17_2, hfz17_0, hfz17_1, hfz17_2⟩ := Short.c3 BK214.out))
     refine bodyPost_ret (results_ctt rfl _ _ gb214 89 #[.int .i64 0, .int .i64 0, .string (⟨#[]⟩ : ByteArray)] (0, 0) _ rfl (by (with_reducible repeat (first | refine blk_drewN ?_ _ | refine blk_drew ?_ | refine blk_alloc ?_ _)); refine blk_put (cs := #[.int .i64 0, .int .i64 0, .string (⟨#[]⟩ : ByteArray)]) ?_ 2 _ rfl; (with_reducible repeat (first | refine blk_drewN ?_ _ | refine blk_drew ?_ | refine blk_alloc ?_ _)); refine blk_put (cs := #[.int .i64 0, .int .i64 t218, .string (⟨#[]⟩ : ByteArray)]) ?_ 1 _ rfl; (with_reducible repeat (first | refine blk_drewN ?_ _ | refine blk_drew ?_ | refine blk_alloc ?_ _)); refine blk_put (cs := #[.int .i64 t215, .int .i64 t218, .string (⟨#[]⟩ : ByteArray)]) ?_ 0 _ rfl; (with_reducible repeat (first | refine blk_drewN ?_ _ | refine blk_drew ?_ | refine blk_alloc ?_ _)); exact BK214.out) Try.underlying89 rfl z1_) rfl ?_
     exact ⟨by first | rfl | (simp [errW_none, errW_some] <;> rfl) | (simp [*, errW_none, errW_some] <;> rfl), Short.hB HB⟩
   ·
    rw [if_neg c7] at H
    have c7b0 : (t220 == 0) = false := beq_eq_false_iff_ne.mpr c7
    have c7b1 : (t220 != 0) = true := bne_iff_ne.mpr c7
    simp only [Option.some.injEq, Prod.mk.injEq] at H
    obtain ⟨rfl, rfl, rfl, rfl, rfl⟩ := H
    go_enter Try.func97, Try.ntmps97
    go_wp2_with (first | ((with_reducible refine gate_dst (N := 4) rfl ?_); refine box_event ?hg (N := 4) ?hd (cs := #[.int .i64 0, .int .i64 0, .string (⟨#[]⟩ : ByteArray)]) (t := 89) ?hr ?_; (case hd => rfl); (case hg => rfl); (case hr => first | (go_simp; done) | (go_simp; rfl)); intro gb214 hg w18 hbox hb; have n0_ := mk_ (below_step (Short.hB HB) hb); have n1_ := mk_ (hbox); have n2_ := mk_ ((by rw [hg]; exact (below_size (Short.hB HB)) : w.heap.size ≤ gb214)); have n3_ := mk_ ((by rw [hg]; exact (below_size (Short.hB HB)) : w.heap.size ≤ gb214)); clear HB; revert n0_ n1_ n2_ n3_; intro HB BK214 GW214 GE214; clear hb hbox hg) | ((with_reducible refine gate_callee (f := 72) rfl ?_); refine Short.gL (some 11) Try.func72 #[.slice A0 l0.length c0, .int .i64 a1, .int .i64 1] (h := ?_); (with_reducible refine (wire_Get.calls k _ _ l0 a1 1 t215 t216 t217 _ ?side1 ?side2 A3.out).mono ?_); (case side1 => exact cX_ (C_below HR0.out HB.out)); (case side2 => exact HC0.out); rintro e w' ⟨rfl, ⟨nd, rfl⟩⟩; refine ⟨_, rfl, ?_⟩; (try (rw [drewN_self w18]; generalize hq_ : World.drewN w18 _ = w18; have n0_ : Aside0 (w18.heap[gb214]? = some (.cells #[.int .i64 0, .int .i64 0, .string (⟨#[]⟩ : ByteArray)] 89 (0, 0))) := ⟨by rw [← hq_]; exact (Short.bK BK214)⟩; have n1_ : Aside0 (Below w.heap.size w w18) := ⟨by rw [← hq_]; exact (Short.hB HB)⟩; clear BK214 HB hq_; revert n0_ n1_; intro BK214 HB)); obtain ⟨hcz19_0, hcz19_1, hcz19_2, hfz19_0, hfz19_1, hfz19_2⟩ := Short.c3 BK214.out) | ((with_reducible refine gate_callee (f := 72) rfl ?_); refine Short.gL (some 27) Try.func72 #[.slice A0 l0.length c0, .int .i64 t216, .int .i64 1] (h := ?_); (with_reducible refine (wire_Get.calls k _ _ l0 t216 1 t218 t219 t220 _ ?side1 ?side2 A6.out).mono ?_); (case side1 => exact C_below HR0.out (Short.hB HB)); (case side2 => exact HC0.out); rintro e w' ⟨rfl, ⟨nd, rfl⟩⟩; refine ⟨_, rfl, ?_⟩))
    refine bodyPost_ret (results_ctt rfl _ _ gb214 89 #[.int .i64 0, .int .i64 0, .string (⟨#[]⟩ : ByteArray)] (0, 0) _ rfl (by (with_reducible repeat (first | refine blk_drewN ?_ _ | refine blk_drew ?_ | refine blk_alloc ?_ _)); refine blk_put (cs := #[.int .i64 0, .int .i64 0, .string (⟨#[]⟩ : ByteArray)]) ?_ 2 _ rfl; (with_reducible repeat (first | refine blk_drewN ?_ _ | refine blk_drew ?_ | refine blk_alloc ?_ _)); refine blk_put (cs := #[.int .i64 0, .int .i64 t218, .string (⟨#[]⟩ : ByteArray)]) ?_ 1 _ rfl; (with_reducible repeat (first | refine blk_drewN ?_ _ | refine blk_drew ?_ | refine blk_alloc ?_ _)); refine blk_put (cs := #[.int .i64 t215, .int .i64 t218, .string (⟨#[]⟩ : ByteArray)]) ?_ 0 _ rfl; (with_reducible repeat (first | refine blk_drewN ?_ _ | refine blk_drew ?_ | refine blk_alloc ?_ _)); refine blk_put (cs := #[.int .i64 t215, .int .i64 0, .string (⟨#[]⟩ : ByteArray)]) ?_ 1 _ rfl; (with_reducible repeat (first | refine blk_drewN ?_ _ | refine blk_drew ?_ | refine blk_alloc ?_ _)); refine blk_put (cs := #[.int .i64 0, .int .i64 0, .string (⟨#[]⟩ : ByteArray)]) ?_ 0 _ rfl; (with_reducible repeat (first | refine blk_drewN ?_ _ | refine blk_drew ?_ | refine blk_alloc ?_ _)); exact BK214.out) Try.underlying89 rfl z1_) rfl ?_
    exact ⟨by first | rfl | (simp [errW_none, errW_some] <;> rfl) | (simp [*, errW_none, errW_some] <;> rfl), Short.hB HB⟩
  ·
   rw [if_neg c5] at H
   have c5b0 : (t215 == 2) = false := beq_eq_false_iff_ne.mpr c5
   have c5b1 : (t215 != 2) = true := bne_iff_ne.mpr c5
   by_cases c20 : t215 = 3
   ·
    rw [if_pos c20] at H
    have c20b0 : (t215 == 3) = true := beq_iff_eq.mpr c20
    have c20b1 : (t215 != 3) = false := bne_eq_false_iff_eq.mpr c20
    clear c20
    replace H := Option.bind_eq_some_iff.mp H
    obtain ⟨⟨t222, t223, t224⟩, A210, H⟩ := H
    replace H : (if t224 = 0 then ((value_Check.f t215 t222 (⟨#[]⟩ : ByteArray)).bind fun t225 => (if t225 = 0 then (some (t215, t222, (⟨#[]⟩ : ByteArray), t223, 0)) else (some (0, 0, (⟨#[]⟩ : ByteArray), 0, 3)))) else (some (0, 0, (⟨#[]⟩ : ByteArray), 0, 3))) = some (r1, r2, r3, r4, r5) := H
    have A21 := mk_ A210
    clear A210
    by_cases c22 : t224 = 0
    ·
     rw [if_pos c22] at H
     have c22b0 : (t224 == 0) = true := beq_iff_eq.mpr c22
     have c22b1 : (t224 != 0) = false := bne_eq_false_iff_eq.mpr c22
     clear c22
     replace H := Option.bind_eq_some_iff.mp H
     obtain ⟨t225, A230, H⟩ := H
     replace H : (if t225 = 0 then (some (t215, t222, (⟨#[]⟩ : ByteArray), t223, 0)) else (some (0, 0, (⟨#[]⟩ : ByteArray), 0, 3))) = some (r1, r2, r3, r4, r5) := H
     have A23 := mk_ A230
     clear A230
     by_cases c24 : t225 = 0
     ·
      rw [if_pos c24] at H
      have c24b0 : (t225 == 0) = true := beq_iff_eq.mpr c24
      have c24b1 : (t225 != 0) = false := bne_eq_false_iff_eq.mpr c24
      clear c24
      simp only [Option.some.injEq, Prod.mk.injEq] at H
      obtain ⟨rfl, rfl, rfl, rfl, rfl⟩ := H
      go_enter Try.func97, Try.ntmps97
      go_wp2_with (first | ((with_reducible refine gate_dst (N := 4) rfl ?_); refine box_event ?hg (N := 4) ?hd (cs := #[.int .i64 0, .int .i64 0, .string (⟨#[]⟩ : ByteArray)]) (t := 89) ?hr ?_; (case hd => rfl); (case hg => rfl); (case hr => first | (go_simp; done) | (go_simp; rfl)); intro gb214 hg w25 hbox hb; have n0_ := mk_ (below_step (Short.hB HB) hb); have n1_ := mk_ (hbox); have n2_ := mk_ ((by rw [hg]; exact (below_size (Short.hB HB)) : w.heap.size ≤ gb214)); have n3_ := mk_ ((by rw [hg]; exact (below_size (Short.hB HB)) : w.heap.size ≤ gb214)); clear HB; revert n0_ n1_ n2_ n3_; intro HB BK214 GW214 GE214; clear hb hbox hg) | ((with_reducible refine gate_callee (f := 72) rfl ?_); refine Short.gL (some 11) Try.func72 #[.slice A0 l0.length c0, .int .i64 a1, .int .i64 1] (h := ?_); (with_reducible refine (wire_Get.calls k _ _ l0 a1 1 t215 t216 t217 _ ?side1 ?side2 A3.out).mono ?_); (case side1 => exact cX_ (C_below HR0.out HB.out)); (case side2 => exact HC0.out); rintro e w' ⟨rfl, ⟨nd, rfl⟩⟩; refine ⟨_, rfl, ?_⟩; (try (rw [drewN_self w25]; generalize hq_ : World.drewN w25 _ = w25; have n0_ : Aside0 (w25.heap[gb214]? = some (.cells #[.int .i64 0, .int .i64 0, .string (⟨#[]⟩ : ByteArray)] 89 (0, 0))) := ⟨by rw [← hq_]; exact (Short.bK BK214)⟩; have n1_ : Aside0 (Below w.heap.size w w25) := ⟨by rw [← hq_]; exact (Short.hB HB)⟩; clear BK214 HB hq_; revert n0_ n1_; intro BK214 HB)); obtain ⟨hcz26_0, hcz26_1, hcz26_2, hfz26_0, hfz26_1, hfz26_2⟩ := Short.c3 BK214.out) | ((with_reducible refine gate_callee (f := 107) rfl ?_); refine Short.gL (some 37) Try.func107 #[.slice A0 l0.length c0, .int .i64 t216] (h := ?_); (with_reducible refine (wire_GetInt.calls k _ _ l0 t216 t222 t223 t224 _ ?side1 ?side2 A21.out).mono ?_); (case side1 => exact C_below HR0.out (Short.hB HB)); (case side2 => exact HC0.out); rintro e w' ⟨rfl, ⟨nd, rfl⟩⟩; refine ⟨_, rfl, ?_⟩) | (go_at_call 108; (with_reducible refine (value_Check.calls t215 t222 (⟨#[]⟩ : ByteArray) t225 _ A23.out).mono ?_); rintro e w27 ⟨rfl, hb⟩; have n0_ := mk_ (blk_below (g := gb214) (o := .cells #[.int .i64 t215, .int .i64 t222, .string (⟨#[]⟩ : ByteArray)] 89 (0, 0)) (by (with_reducible repeat (first | refine blk_drewN ?_ _ | refine blk_drew ?_ | refine blk_alloc ?_ _)); refine blk_put (cs := #[.int .i64 t215, .int .i64 0, .string (⟨#[]⟩ : ByteArray)]) ?_ 1 _ rfl; (with_reducible repeat (first | refine blk_drewN ?_ _ | refine blk_drew ?_ | refine blk_alloc ?_ _)); refine blk_put (cs := #[.int .i64 0, .int .i64 0, .string (⟨#[]⟩ : ByteArray)]) ?_ 0 _ rfl; (with_reducible repeat (first | refine blk_drewN ?_ _ | refine blk_drew ?_ | refine blk_alloc ?_ _)); exact BK214.out) hb); have n1_ := mk_ (below_step (Short.hB HB) hb); clear BK214 HB; revert n0_ n1_; intro BK214 HB; (try clear hb); (try clear hb2); (try clear hk); (try clear hi); obtain ⟨hcz28_0, hcz28_1, hcz28_2, hfz28_0, hfz28_1, hfz28_2⟩ := Short.c3 BK214.out))
      refine bodyPost_ret (results_ctt rfl _ _ gb214 89 #[.int .i64 t215, .int .i64 t222, .string (⟨#[]⟩ : ByteArray)] (0, 0) _ rfl (by (with_reducible repeat (first | refine blk_drewN ?_ _ | refine blk_drew ?_ | refine blk_alloc ?_ _)); refine blk_put (cs := #[.int .i64 t215, .int .i64 t222, .string (⟨#[]⟩ : ByteArray)]) ?_ 2 _ rfl; (with_reducible repeat (first | refine blk_drewN ?_ _ | refine blk_drew ?_ | refine blk_alloc ?_ _)); refine blk_put (cs := #[.int .i64 t215, .int .i64 t222, .string (⟨#[]⟩ : ByteArray)]) ?_ 1 _ rfl; (with_reducible repeat (first | refine blk_drewN ?_ _ | refine blk_drew ?_ | refine blk_alloc ?_ _)); refine blk_put (cs := #[.int .i64 t215, .int .i64 t222, .string (⟨#[]⟩ : ByteArray)]) ?_ 0 _ rfl; (with_reducible repeat (first | refine blk_drewN ?_ _ | refine blk_drew ?_ | refine blk_alloc ?_ _)); exact BK214.out) Try.underlying89 rfl z1_) rfl ?_
      exact ⟨by first | rfl | (simp [errW_none, errW_some] <;> rfl) | (simp [*, errW_none, errW_some] <;> rfl), Short.hB HB⟩
     ·
      rw [if_neg c24] at H
      have c24b0 : (t225 == 0) = false := beq_eq_false_iff_ne.mpr c24
      have c24b1 : (t225 != 0) = true := bne_iff_ne.mpr c24
      simp only [Option.some.injEq, Prod.mk.injEq] at H
      obtain ⟨rfl, rfl, rfl, rfl, rfl⟩ := H
      go_enter Try.func97, Try.ntmps97
      go_wp2_with (first | ((with_reducible refine gate_dst (N := 4) rfl ?_); refine box_event ?hg (N := 4) ?hd (cs := #[.int .i64 0, .int .i64 0, .string (⟨#[]⟩ : ByteArray)]) (t := 89) ?hr ?_; (case hd => rfl); (case hg => rfl); (case hr => first | (go_simp; done) | (go_simp; rfl)); intro gb214 hg w29 hbox hb; have n0_ := mk_ (below_step (Short.hB HB) hb); have n1_ := mk_ (hbox); have n2_ := mk_ ((by rw [hg]; exact (below_size (Short.hB HB)) : w.heap.size ≤ gb214)); have n3_ := mk_ ((by rw [hg]; exact (below_size (Short.hB HB)) : w.heap.size ≤ gb214)); clear HB; revert n0_ n1_ n2_ n3_; intro HB BK214 GW214 GE214; clear hb hbox hg) | ((with_reducible refine gate_callee (f := 72) rfl ?_); refine Short.gL (some 11) Try.func72 #[.slice A0 l0.length c0, .int .i64 a1, .int .i64 1] (h := ?_); (with_reducible refine (wire_Get.calls k _ _ l0 a1 1 t215 t216 t217 _ ?side1 ?side2 A3.out).mono ?_); (case side1 => exact cX_ (C_below HR0.out HB.out)); (case side2 => exact HC0.out); rintro e w' ⟨rfl, ⟨nd, rfl⟩⟩; refine ⟨_, rfl, ?_⟩; (try (rw [drewN_self w29]; generalize hq_ : World.drewN w29 _ = w29; have n0_ : Aside0 (w29.heap[gb214]? = some (.cells #[.int .i64 0, .int .i64 0, .string (⟨#[]⟩ : ByteArray)] 89 (0, 0))) := ⟨by rw [← hq_]; exact (Short.bK BK214)⟩; have n1_ : Aside0 (Below w.heap.size w w29) := ⟨by rw [← hq_]; exact (Short.hB HB)⟩; clear BK214 HB hq_; revert n0_ n1_; intro BK214 HB)); obtain ⟨hcz30_0, hcz30_1, hcz30_2, hfz30_0, hfz30_1, hfz30_2⟩ := Short.c3 BK214.out) | ((with_reducible refine gate_callee (f := 107) rfl ?_); refine Short.gL (some 37) Try.func107 #[.slice A0 l0.length c0, .int .i64 t216] (h := ?_); (with_reducible refine (wire_GetInt.calls k _ _ l0 t216 t222 t223 t224 _ ?side1 ?side2 A21.out).mono ?_); (case side1 => exact C_below HR0.out (Short.hB HB)); (case side2 => exact HC0.out); rintro e w' ⟨rfl, ⟨nd, rfl⟩⟩; refine ⟨_, rfl, ?_⟩) | (go_at_call 108; (with_reducible refine (value_Check.calls t215 t222 (⟨#[]⟩ : ByteArray) t225 _ A23.out).mono ?_); rintro e w31 ⟨rfl, hb⟩; have n0_ := mk_ (blk_below (g := gb214) (o := .cells #[.int .i64 t215, .int .i64 t222, .string (⟨#[]⟩ : ByteArray)] 89 (0, 0)) (by (with_reducible repeat (first | refine blk_drewN ?_ _ | refine blk_drew ?_ | refine blk_alloc ?_ _)); refine blk_put (cs := #[.int .i64 t215, .int .i64 0, .string (⟨#[]⟩ : ByteArray)]) ?_ 1 _ rfl; (with_reducible repeat (first | refine blk_drewN ?_ _ | refine blk_drew ?_ | refine blk_alloc ?_ _)); refine blk_put (cs := #[.int .i64 0, .int .i64 0, .string (⟨#[]⟩ : ByteArray)]) ?_ 0 _ rfl; (with_reducible repeat (first | refine blk_drewN ?_ _ | refine blk_drew ?_ | refine blk_alloc ?_ _)); exact BK214.out) hb); have n1_ := mk_ (below_step (Short.hB HB) hb); clear BK214 HB; revert n0_ n1_; intro BK214 HB; (try clear hb); (try clear hb2); (try clear hk); (try clear hi); obtain ⟨hcz32_0, hcz32_1, hcz32_2, hfz32_0, hfz32_1, hfz32_2⟩ := Short.c3 BK214.out))
      refine bodyPost_ret (results_ctt rfl _ _ gb214 89 #[.int .i64 0, .int .i64 0, .string (⟨#[]⟩ : ByteArray)] (0, 0) _ rfl (by (with_reducible repeat (first | refine blk_drewN ?_ _ | refine blk_drew ?_ | refine blk_alloc ?_ _)); refine blk_put (cs := #[.int .i64 0, .int .i64 0, .string (⟨#[]⟩ : ByteArray)]) ?_ 2 _ rfl; (with_reducible repeat (first | refine blk_drewN ?_ _ | refine blk_drew ?_ | refine blk_alloc ?_ _)); refine blk_put (cs := #[.int .i64 0, .int .i64 t222, .string (⟨#[]⟩ : ByteArray)]) ?_ 1 _ rfl; (with_reducible repeat (first | refine blk_drewN ?_ _ | refine blk_drew ?_ | refine blk_alloc ?_ _)); refine blk_put (cs := #[.int .i64 t215, .int .i64 t222, .string (⟨#[]⟩ : ByteArray)]) ?_ 0 _ rfl; (with_reducible repeat (first | refine blk_drewN ?_ _ | refine blk_drew ?_ | refine blk_alloc ?_ _)); exact BK214.out) Try.underlying89 rfl z1_) rfl ?_
      exact ⟨by first | rfl | (simp [errW_none, errW_some] <;> rfl) | (simp [*, errW_none, errW_some] <;> rfl), Short.hB HB⟩
    ·
     rw [if_neg c22] at H
     have c22b0 : (t224 == 0) = false := beq_eq_false_iff_ne.mpr c22
     have c22b1 : (t224 != 0) = true := bne_iff_ne.mpr c22
     simp only [Option.some.injEq, Prod.mk.injEq] at H
     obtain ⟨rfl, rfl, rfl, rfl, rfl⟩ := H
     go_enter Try.func97, Try.ntmps97
     go_wp2_with (first | ((with_reducible refine gate_dst (N := 4) rfl ?_); refine box_event ?hg (N := 4) ?hd (cs := #[.int .i64 0, .int .i64 0, .string (⟨#[]⟩ : ByteArray)]) (t := 89) ?hr ?_; (case hd => rfl); (case hg => rfl); (case hr => first | (go_simp; done) | (go_simp; rfl)); intro gb214 hg w33 hbox hb; have n0_ := mk_ (below_step (Short.hB HB) hb); have n1_ := mk_ (hbox); have n2_ := mk_ ((by rw [hg]; exact (below_size (Short.hB HB)) : w.heap.size ≤ gb214)); have n3_ := mk_ ((by rw [hg]; exact (below_size (Short.hB HB)) : w.heap.size ≤ gb214)); clear HB; revert n0_ n1_ n2_ n3_; intro HB BK214 GW214 GE214; clear hb hbox hg) | ((with_reducible refine gate_callee (f := 72) rfl ?_); refine Short.gL (some 11) Try.func72 #[.slice A0 l0.length c0, .int .i64 a1, .int .i64 1] (h := ?_); (with_reducible refine (wire_Get.calls k _ _ l0 a1 1 t215 t216 t217 _ ?side1 ?side2 A3.out).mono ?_); (case side1 => exact cX_ (C_below HR0.out HB.out)); (case side2 => exact HC0.out); rintro e w' ⟨rfl, ⟨nd, rfl⟩⟩; refine ⟨_, rfl, ?_⟩; (try (rw [drewN_self w33]; generalize hq_ : World.drewN w33 _ = w33; have n0_ : Aside0 (w33.heap[gb214]? = some (.cells #[.int .i64 0, .int .i64 0, .string (⟨#[]⟩ : ByteArray)] 89 (0, 0))) := ⟨by rw [← hq_]; exact (Short.bK BK214)⟩; have n1_ : Aside0 (Below w.heap.size w w33) := ⟨by rw [← hq_]; exact (Short.hB HB)⟩; clear BK214 HB hq_; revert n0_ n1_; intro BK214 HB)); obtain ⟨hcz34_0, hcz34_1, hcz34_2, hfz34_0, hfz34_1, hfz34_2⟩ := Short.c3 BK214.out) | ((with_reducible refine gate_callee (f := 107) rfl ?_); refine Short.gL (some 37) Try.func107 #[.slice A0 l0.length c0, .int .i64 t216] (h := ?_); (with_reducible refine (wire_GetInt.calls k _ _ l0 t216 t222 t223 t224 _ ?side1 ?side2 A21.out).mono ?_); (case side1 => exact C_below HR0.out (Short.hB HB)); (case side2 => exact HC0.out); rintro e w' ⟨rfl, ⟨nd, rfl⟩⟩; refine ⟨_, rfl, ?_⟩))
     refine bodyPost_ret (results_ctt rfl _ _ gb214 89 #[.int .i64 0, .int .i64 0, .string (⟨#[]⟩ : ByteArray)] (0, 0) _ rfl (by (with_reducible repeat (first | refine blk_drewN ?_ _ | refine blk_drew ?_ | refine blk_alloc ?_ _)); refine blk_put (cs := #[.int .i64 0, .int .i64 0, .string (⟨#[]⟩ : ByteArray)]) ?_ 2 _ rfl; (with_reducible repeat (first | refine blk_drewN ?_ _ | refine blk_drew ?_ | refine blk_alloc ?_ _)); refine blk_put (cs := #[.int .i64 0, .int .i64 t222, .string (⟨#[]⟩ : ByteArray)]) ?_ 1 _ rfl; (with_reducible repeat (first | refine blk_drewN ?_ _ | refine blk_drew ?_ | refine blk_alloc ?_ _)); refine blk_put (cs := #[.int .i64 t215, .int .i64 t222, .string (⟨#[]⟩ : ByteArray)]) ?_ 0 _ rfl; (with_reducible repeat (first | refine blk_drewN ?_ _ | refine blk_drew ?_ | refine blk_alloc ?_ _)); refine blk_put (cs := #[.int .i64 t215, .int .i64 0, .string (⟨#[]⟩ : ByteArray)]) ?_ 1 _ rfl; (with_reducible repeat (first | refine blk_drewN ?_ _ | refine blk_drew ?_ | refine blk_alloc ?_ _)); refine blk_put (cs := #[.int .i64 0, .int .i64 0, .string (⟨#[]⟩ : ByteArray)]) ?_ 0 _ rfl; (with_reducible repeat (first | refine blk_drewN ?_ _ | refine blk_drew ?_ | refine blk_alloc ?_ _)); exact BK214.out) Try.underlying89 rfl z1_) rfl ?_
     exact ⟨by first | rfl | (simp [errW_none, errW_some] <;> rfl) | (simp [*, errW_none, errW_some] <;> rfl), Short.hB HB⟩
   ·
    rw [if_neg c20] at H
    have c20b0 : (t215 == 3) = false := beq_eq_false_iff_ne.mpr c20
    have c20b1 : (t215 != 3) = true := bne_iff_ne.mpr c20
    by_cases c35 : t215 = 4
    ·
     rw [if_pos c35] at H
     have c35b0 : (t215 == 4) = true := beq_iff_eq.mpr c35
     have c35b1 : (t215 != 4) = false := bne_eq_false_iff_eq.mpr c35
     clear c35
     replace H := Option.bind_eq_some_iff.mp H
     obtain ⟨⟨t226, t227, t228⟩, A360, H⟩ := H
     replace H : (if t228 = 0 then ((value_Check.f t215 0 t226).bind fun t229 => (if t229 = 0 then (some (t215, 0, t226, t227, 0)) else (some (0, 0, (⟨#[]⟩ : ByteArray), 0, 3)))) else (some (0, 0, (⟨#[]⟩ : ByteArray), 0, 3))) = some (r1, r2, r3, r4, r5) := H
     have A36 := mk_ A360
     clear A360
     by_cases c37 : t228 = 0
     ·
      rw [if_pos c37] at H
      have c37b0 : (t228 == 0) = true := beq_iff_eq.mpr c37
      have c37b1 : (t228 != 0) = false := bne_eq_false_iff_eq.mpr c37
      clear c37
      replace H := Option.bind_eq_some_iff.mp H
      obtain ⟨t229, A380, H⟩ := H
      replace H : (if t229 = 0 then (some (t215, 0, t226, t227, 0)) else (some (0, 0, (⟨#[]⟩ : ByteArray), 0, 3))) = some (r1, r2, r3, r4, r5) := H
      have A38 := mk_ A380
      clear A380
      by_cases c39 : t229 = 0
      ·
       rw [if_pos c39] at H
       have c39b0 : (t229 == 0) = true := beq_iff_eq.mpr c39
       have c39b1 : (t229 != 0) = false := bne_eq_false_iff_eq.mpr c39
       clear c39
       simp only [Option.some.injEq, Prod.mk.injEq] at H
       obtain ⟨rfl, rfl, rfl, rfl, rfl⟩ := H
       go_enter Try.func97, Try.ntmps97
       go_wp2_with (first | ((with_reducible refine gate_dst (N := 4) rfl ?_); refine box_event ?hg (N := 4) ?hd (cs := #[.int .i64 0, .int .i64 0, .string (⟨#[]⟩ : ByteArray)]) (t := 89) ?hr ?_; (case hd => rfl); (case hg => rfl); (case hr => first | (go_simp; done) | (go_simp; rfl)); intro gb214 hg w40 hbox hb; have n0_ := mk_ (below_step (Short.hB HB) hb); have n1_ := mk_ (hbox); have n2_ := mk_ ((by rw [hg]; exact (below_size (Short.hB HB)) : w.heap.size ≤ gb214)); have n3_ := mk_ ((by rw [hg]; exact (below_size (Short.hB HB)) : w.heap.size ≤ gb214)); clear HB; revert n0_ n1_ n2_ n3_; intro HB BK214 GW214 GE214; clear hb hbox hg) | ((with_reducible refine gate_callee (f := 72) rfl ?_); refine Short.gL (some 11) Try.func72 #[.slice A0 l0.length c0, .int .i64 a1, .int .i64 1] (h := ?_); (with_reducible refine (wire_Get.calls k _ _ l0 a1 1 t215 t216 t217 _ ?side1 ?side2 A3.out).mono ?_); (case side1 => exact cX_ (C_below HR0.out HB.out)); (case side2 => exact HC0.out); rintro e w' ⟨rfl, ⟨nd, rfl⟩⟩; refine ⟨_, rfl, ?_⟩; (try (rw [drewN_self w40]; generalize hq_ : World.drewN w40 _ = w40; have n0_ : Aside0 (w40.heap[gb214]? = some (.cells #[.int .i64 0, .int .i64 0, .string (⟨#[]⟩ : ByteArray)] 89 (0, 0))) := ⟨by rw [← hq_]; exact (Short.bK BK214)⟩; have n1_ : Aside0 (Below w.heap.size w w40) := ⟨by rw [← hq_]; exact (Short.hB HB)⟩; clear BK214 HB hq_; revert n0_ n1_; intro BK214 HB)); obtain ⟨hcz41_0, hcz41_1, hcz41_2, hfz41_0, hfz41_1, hfz41_2⟩ := Short.c3 BK214.out) | ((with_reducible refine gate_callee (f := 96) rfl ?_); refine Short.gL (some 47) Try.func96 #[.slice A0 l0.length c0, .int .i64 t216] (h := ?_); (with_reducible refine (wire_GetText.calls k _ _ l0 t216 t226 t227 t228 _ ?side1 ?side2 A36.out).mono ?_); (case side1 => exact C_below HR0.out (Short.hB HB)); (case side2 => exact HC0.out); rintro e w' ⟨rfl, ⟨nd, rfl⟩⟩; refine ⟨_, rfl, ?_⟩) | (go_at_call 108; (with_reducible refine (value_Check.calls t215 0 t226 t229 _ A38.out).mono ?_); rintro e w42 ⟨rfl, hb⟩; have n0_ := mk_ (blk_below (g := gb214) (o := .cells #[.int .i64 t215, .int .i64 0, .string t226] 89 (0, 0)) (by (with_reducible repeat (first | refine blk_drewN ?_ _ | refine blk_drew ?_ | refine blk_alloc ?_ _)); refine blk_put (cs := #[.int .i64 t215, .int .i64 0, .string (⟨#[]⟩ : ByteArray)]) ?_ 2 _ rfl; (with_reducible repeat (first | refine blk_drewN ?_ _ | refine blk_drew ?_ | refine blk_alloc ?_ _)); refine blk_put (cs := #[.int .i64 0, .int .i64 0, .string (⟨#[]⟩ : ByteArray)]) ?_ 0 _ rfl; (with_reducible repeat (first | refine blk_drewN ?_ _ | refine blk_drew ?_ | refine blk_alloc ?_ _)); exact BK214.out) hb); have n1_ := mk_ (below_step (Short.hB HB) hb); clear BK214 HB; revert n0_ n1_; intro BK214 HB; (try clear hb); (try clear hb2); (try clear hk); (try clear hi); obtain ⟨hcz43_0, hcz43_1, hcz43_2, hfz43_0, hfz43_1, hfz43_2⟩ := Short.c3 BK214.out))
       refine bodyPost_ret (results_ctt rfl _ _ gb214 89 #[.int .i64 t215, .int .i64 0, .string t226] (0, 0) _ rfl (by (with_reducible repeat (first | refine blk_drewN ?_ _ | refine blk_drew ?_ | refine blk_alloc ?_ _)); refine blk_put (cs := #[.int .i64 t215, .int .i64 0, .string t226]) ?_ 2 _ rfl; (with_reducible repeat (first | refine blk_drewN ?_ _ | refine blk_drew ?_ | refine blk_alloc ?_ _)); refine blk_put (cs := #[.int .i64 t215, .int .i64 0, .string t226]) ?_ 1 _ rfl; (with_reducible repeat (first | refine blk_drewN ?_ _ | refine blk_drew ?_ | refine blk_alloc ?_ _)); refine blk_put (cs := #[.int .i64 t215, .int .i64 0, .string t226]) ?_ 0 _ rfl; (with_reducible repeat (first | refine blk_drewN ?_ _ | refine blk_drew ?_ | refine blk_alloc ?_ _)); exact BK214.out) Try.underlying89 rfl z1_) rfl ?_
       exact ⟨by first | rfl | (simp [errW_none, errW_some] <;> rfl) | (simp [*, errW_none, errW_some] <;> rfl), Short.hB HB⟩
      ·
       rw [if_neg c39] at H
       have c39b0 : (t229 == 0) = false := beq_eq_false_iff_ne.mpr c39
       have c39b1 : (t229 != 0) = true := bne_iff_ne.mpr c39
       simp only [Option.some.injEq, Prod.mk.injEq] at H
       obtain ⟨rfl, rfl, rfl, rfl, rfl⟩ := H
       go_enter Try.func97, Try.ntmps97
       go_wp2_with (first | ((with_reducible refine gate_dst (N := 4) rfl ?_); refine box_event ?hg (N := 4) ?hd (cs := #[.int .i64 0, .int .i64 0, .string (⟨#[]⟩ : ByteArray)]) (t := 89) ?hr ?_; (case hd => rfl); (case hg => rfl); (case hr => first | (go_simp; done) | (go_simp; rfl)); intro gb214 hg w44 hbox hb; have n0_ := mk_ (below_step (Short.hB HB) hb); have n1_ := mk_ (hbox); have n2_ := mk_ ((by rw [hg]; exact (below_size (Short.hB HB)) : w.heap.size ≤ gb214)); have n3_ := mk_ ((by rw [hg]; exact (below_size (Short.hB HB)) : w.heap.size ≤ gb214)); clear HB; revert n0_ n1_ n2_ n3_; intro HB BK214 GW214 GE214; clear hb hbox hg) | ((with_reducible refine gate_callee (f := 72) rfl ?_); refine Short.gL (some 11) Try.func72 #[.slice A0 l0.length c0, .int .i64 a1, .int .i64 1] (h := ?_); (with_reducible refine (wire_Get.calls k _ _ l0 a1 1 t215 t216 t217 _ ?side1 ?side2 A3.out).mono ?_); (case side1 => exact cX_ (C_below HR0.out HB.out)); (case side2 => exact HC0.out); rintro e w' ⟨rfl, ⟨nd, rfl⟩⟩; refine ⟨_, rfl, ?_⟩; (try (rw [drewN_self w44]; generalize hq_ : World.drewN w44 _ = w44; have n0_ : Aside0 (w44.heap[gb214]? = some (.cells #[.int .i64 0, .int .i64 0, .string (⟨#[]⟩ : ByteArray)] 89 (0, 0))) := ⟨by rw [← hq_]; exact (Short.bK BK214)⟩; have n1_ : Aside0 (Below w.heap.size w w44) := ⟨by rw [← hq_]; exact (Short.hB HB)⟩; clear BK214 HB hq_; revert n0_ n1_; intro BK214 HB)); obtain ⟨hcz45_0, hcz45_1, hcz45_2, hfz45_0, hfz45_1, hfz45_2⟩ := Short.c3 BK214.out) | ((with_reducible refine gate_callee (f := 96) rfl ?_); refine Short.gL (some 47) Try.func96 #[.slice A0 l0.length c0, .int .i64 t216] (h := ?_); (with_reducible refine (wire_GetText.calls k _ _ l0 t216 t226 t227 t228 _ ?side1 ?side2 A36.out).mono ?_); (case side1 => exact C_below HR0.out (Short.hB HB)); (case side2 => exact HC0.out); rintro e w' ⟨rfl, ⟨nd, rfl⟩⟩; refine ⟨_, rfl, ?_⟩) | (go_at_call 108; (with_reducible refine (value_Check.calls t215 0 t226 t229 _ A38.out).mono ?_); rintro e w46 ⟨rfl, hb⟩; have n0_ := mk_ (blk_below (g := gb214) (o := .cells #[.int .i64 t215, .int .i64 0, .string t226] 89 (0, 0)) (by (with_reducible repeat (first | refine blk_drewN ?_ _ | refine blk_drew ?_ | refine blk_alloc ?_ _)); refine blk_put (cs := #[.int .i64 t215, .int .i64 0, .string (⟨#[]⟩ : ByteArray)]) ?_ 2 _ rfl; (with_reducible repeat (first | refine blk_drewN ?_ _ | refine blk_drew ?_ | refine blk_alloc ?_ _)); refine blk_put (cs := #[.int .i64 0, .int .i64 0, .string (⟨#[]⟩ : ByteArray)]) ?_ 0 _ rfl; (with_reducible repeat (first | refine blk_drewN ?_ _ | refine blk_drew ?_ | refine blk_alloc ?_ _)); exact BK214.out) hb); have n1_ := mk_ (below_step (Short.hB HB) hb); clear BK214 HB; revert n0_ n1_; intro BK214 HB; (try clear hb); (try clear hb2); (try clear hk); (try clear hi); obtain ⟨hcz47_0, hcz47_1, hcz47_2, hfz47_0, hfz47_1, hfz47_2⟩ := Short.c3 BK214.out))
       refine bodyPost_ret (results_ctt rfl _ _ gb214 89 #[.int .i64 0, .int .i64 0, .string (⟨#[]⟩ : ByteArray)] (0, 0) _ rfl (by (with_reducible repeat (first | refine blk_drewN ?_ _ | refine blk_drew ?_ | refine blk_alloc ?_ _)); refine blk_put (cs := #[.int .i64 0, .int .i64 0, .string t226]) ?_ 2 _ rfl; (with_reducible repeat (first | refine blk_drewN ?_ _ | refine blk_drew ?_ | refine blk_alloc ?_ _)); refine blk_put (cs := #[.int .i64 0, .int .i64 0, .string t226]) ?_ 1 _ rfl; (with_reducible repeat (first | refine blk_drewN ?_ _ | refine blk_drew ?_ | refine blk_alloc ?_ _)); refine blk_put (cs := #[.int .i64 t215, .int .i64 0, .string t226]) ?_ 0 _ rfl; (with_reducible repeat (first | refine blk_drewN ?_ _ | refine blk_drew ?_ | refine blk_alloc ?_ _)); exact BK214.out) Try.underlying89 rfl z1_) rfl ?_
       exact ⟨by first | rfl | (simp [errW_none, errW_some] <;> rfl) | (simp [*, errW_none, errW_some] <;> rfl), Short.hB HB⟩
     ·
      rw [if_neg c37] at H
      have c37b0 : (t228 == 0) = false := beq_eq_false_iff_ne.mpr c37
      have c37b1 : (t228 != 0) = true := bne_iff_ne.mpr c37
      simp only [Option.some.injEq, Prod.mk.injEq] at H
      obtain ⟨rfl, rfl, rfl, rfl, rfl⟩ := H
      go_enter Try.func97, Try.ntmps97
      go_wp2_with (first | ((with_reducible refine gate_dst (N := 4) rfl ?_); refine box_event ?hg (N := 4) ?hd (cs := #[.int .i64 0, .int .i64 0, .string (⟨#[]⟩ : ByteArray)]) (t := 89) ?hr ?_; (case hd => rfl); (case hg => rfl); (case hr => first | (go_simp; done) | (go_simp; rfl)); intro gb214 hg w48 hbox hb; have n0_ := mk_ (below_step (Short.hB HB) hb); have n1_ := mk_ (hbox); have n2_ := mk_ ((by rw [hg]; exact (below_size (Short.hB HB)) : w.heap.size ≤ gb214)); have n3_ := mk_ ((by rw [hg]; exact (below_size (Short.hB HB)) : w.heap.size ≤ gb214)); clear HB; revert n0_ n1_ n2_ n3_; intro HB BK214 GW214 GE214; clear hb hbox hg) | ((with_reducible refine gate_callee (f := 72) rfl ?_); refine Short.gL (some 11) Try.func72 #[.slice A0 l0.length c0, .int .i64 a1, .int .i64 1] (h := ?_); (with_reducible refine (wire_Get.calls k _ _ l0 a1 1 t215 t216 t217 _ ?side1 ?side2 A3.out).mono ?_); (case side1 => exact cX_ (C_below HR0.out HB.out)); (case side2 => exact HC0.out); rintro e w' ⟨rfl, ⟨nd, rfl⟩⟩; refine ⟨_, rfl, ?_⟩; (try (rw [drewN_self w48]; generalize hq_ : World.drewN w48 _ = w48; have n0_ : Aside0 (w48.heap[gb214]? = some (.cells #[.int .i64 0, .int .i64 0, .string (⟨#[]⟩ : ByteArray)] 89 (0, 0))) := ⟨by rw [← hq_]; exact (Short.bK BK214)⟩; have n1_ : Aside0 (Below w.heap.size w w48) := ⟨by rw [← hq_]; exact (Short.hB HB)⟩; clear BK214 HB hq_; revert n0_ n1_; intro BK214 HB)); obtain ⟨hcz49_0, hcz49_1, hcz49_2, hfz49_0, hfz49_1, hfz49_2⟩ := Short.c3 BK214.out) | ((with_reducible refine gate_callee (f := 96) rfl ?_); refine Short.gL (some 47) Try.func96 #[.slice A0 l0.length c0, .int .i64 t216] (h := ?_); (with_reducible refine (wire_GetText.calls k _ _ l0 t216 t226 t227 t228 _ ?side1 ?side2 A36.out).mono ?_); (case side1 => exact C_below HR0.out (Short.hB HB)); (case side2 => exact HC0.out); rintro e w' ⟨rfl, ⟨nd, rfl⟩⟩; refine ⟨_, rfl, ?_⟩))
      refine bodyPost_ret (results_ctt rfl _ _ gb214 89 #[.int .i64 0, .int .i64 0, .string (⟨#[]⟩ : ByteArray)] (0, 0) _ rfl (by (with_reducible repeat (first | refine blk_drewN ?_ _ | refine blk_drew ?_ | refine blk_alloc ?_ _)); refine blk_put (cs := #[.int .i64 0, .int .i64 0, .string t226]) ?_ 2 _ rfl; (with_reducible repeat (first | refine blk_drewN ?_ _ | refine blk_drew ?_ | refine blk_alloc ?_ _)); refine blk_put (cs := #[.int .i64 0, .int .i64 0, .string t226]) ?_ 1 _ rfl; (with_reducible repeat (first | refine blk_drewN ?_ _ | refine blk_drew ?_ | refine blk_alloc ?_ _)); refine blk_put (cs := #[.int .i64 t215, .int .i64 0, .string t226]) ?_ 0 _ rfl; (with_reducible repeat (first | refine blk_drewN ?_ _ | refine blk_drew ?_ | refine blk_alloc ?_ _)); refine blk_put (cs := #[.int .i64 t215, .int .i64 0, .string (⟨#[]⟩ : ByteArray)]) ?_ 2 _ rfl; (with_reducible repeat (first | refine blk_drewN ?_ _ | refine blk_drew ?_ | refine blk_alloc ?_ _)); refine blk_put (cs := #[.int .i64 0, .int .i64 0, .string (⟨#[]⟩ : ByteArray)]) ?_ 0 _ rfl; (with_reducible repeat (first | refine blk_drewN ?_ _ | refine blk_drew ?_ | refine blk_alloc ?_ _)); exact BK214.out) Try.underlying89 rfl z1_) rfl ?_
      exact ⟨by first | rfl | (simp [errW_none, errW_some] <;> rfl) | (simp [*, errW_none, errW_some] <;> rfl), Short.hB HB⟩
    ·
     rw [if_neg c35] at H
     have c35b0 : (t215 == 4) = false := beq_eq_false_iff_ne.mpr c35
     have c35b1 : (t215 != 4) = true := bne_iff_ne.mpr c35
     replace H := Option.bind_eq_some_iff.mp H
     obtain ⟨t230, A500, H⟩ := H
     replace H : (if t230 = 0 then (some (t215, 0, (⟨#[]⟩ : ByteArray), t216, 0)) else (some (0, 0, (⟨#[]⟩ : ByteArray), 0, 3))) = some (r1, r2, r3, r4, r5) := H
     have A50 := mk_ A500
     clear A500
     by_cases c51 : t230 = 0
     ·
      rw [if_pos c51] at H
      have c51b0 : (t230 == 0) = true := beq_iff_eq.mpr c51
      have c51b1 : (t230 != 0) = false := bne_eq_false_iff_eq.mpr c51
      clear c51
      simp only [Option.some.injEq, Prod.mk.injEq] at H
      obtain ⟨rfl, rfl, rfl, rfl, rfl⟩ := H
      go_enter Try.func97, Try.ntmps97
      go_wp2_with (first | ((with_reducible refine gate_dst (N := 4) rfl ?_); refine box_event ?hg (N := 4) ?hd (cs := #[.int .i64 0, .int .i64 0, .string (⟨#[]⟩ : ByteArray)]) (t := 89) ?hr ?_; (case hd => rfl); (case hg => rfl); (case hr => first | (go_simp; done) | (go_simp; rfl)); intro gb214 hg w52 hbox hb; have n0_ := mk_ (below_step (Short.hB HB) hb); have n1_ := mk_ (hbox); have n2_ := mk_ ((by rw [hg]; exact (below_size (Short.hB HB)) : w.heap.size ≤ gb214)); have n3_ := mk_ ((by rw [hg]; exact (below_size (Short.hB HB)) : w.heap.size ≤ gb214)); clear HB; revert n0_ n1_ n2_ n3_; intro HB BK214 GW214 GE214; clear hb hbox hg) | ((with_reducible refine gate_callee (f := 72) rfl ?_); refine Short.gL (some 11) Try.func72 #[.slice A0 l0.length c0, .int .i64 a1, .int .i64 1] (h := ?_); (with_reducible refine (wire_Get.calls k _ _ l0 a1 1 t215 t216 t217 _ ?side1 ?side2 A3.out).mono ?_); (case side1 => exact cX_ (C_below HR0.out HB.out)); (case side2 => exact HC0.out); rintro e w' ⟨rfl, ⟨nd, rfl⟩⟩; refine ⟨_, rfl, ?_⟩; (try (rw [drewN_self w52]; generalize hq_ : World.drewN w52 _ = w52; have n0_ : Aside0 (w52.heap[gb214]? = some (.cells #[.int .i64 0, .int .i64 0, .string (⟨#[]⟩ : ByteArray)] 89 (0, 0))) := ⟨by rw [← hq_]; exact (Short.bK BK214)⟩; have n1_ : Aside0 (Below w.heap.size w w52) := ⟨by rw [← hq_]; exact (Short.hB HB)⟩; clear BK214 HB hq_; revert n0_ n1_; intro BK214 HB)); obtain ⟨hcz53_0, hcz53_1, hcz53_2, hfz53_0, hfz53_1, hfz53_2⟩ := Short.c3 BK214.out) | (go_at_call 108; (with_reducible refine (value_Check.calls t215 0 (⟨#[]⟩ : ByteArray) t230 _ A50.out).mono ?_); rintro e w54 ⟨rfl, hb⟩; have n0_ := mk_ (blk_below (g := gb214) (o := .cells #[.int .i64 t215, .int .i64 0, .string (⟨#[]⟩ : ByteArray)] 89 (0, 0)) (by (with_reducible repeat (first | refine blk_drewN ?_ _ | refine blk_drew ?_ | refine blk_alloc ?_ _)); refine blk_put (cs := #[.int .i64 0, .int .i64 0, .string (⟨#[]⟩ : ByteArray)]) ?_ 0 _ rfl; (with_reducible repeat (first | refine blk_drewN ?_ _ | refine blk_drew ?_ | refine blk_alloc ?_ _)); exact BK214.out) hb); have n1_ := mk_ (below_step (Short.hB HB) hb); clear BK214 HB; revert n0_ n1_; intro BK214 HB; (try clear hb); (try clear hb2); (try clear hk); (try clear hi); obtain ⟨hcz55_0, hcz55_1, hcz55_2, hfz55_0, hfz55_1, hfz55_2⟩ := Short.c3 BK214.out))
      refine bodyPost_ret (results_ctt rfl _ _ gb214 89 #[.int .i64 t215, .int .i64 0, .string (⟨#[]⟩ : ByteArray)] (0, 0) _ rfl (by (with_reducible repeat (first | refine blk_drewN ?_ _ | refine blk_drew ?_ | refine blk_alloc ?_ _)); refine blk_put (cs := #[.int .i64 t215, .int .i64 0, .string (⟨#[]⟩ : ByteArray)]) ?_ 2 _ rfl; (with_reducible repeat (first | refine blk_drewN ?_ _ | refine blk_drew ?_ | refine blk_alloc ?_ _)); refine blk_put (cs := #[.int .i64 t215, .int .i64 0, .string (⟨#[]⟩ : ByteArray)]) ?_ 1 _ rfl; (with_reducible repeat (first | refine blk_drewN ?_ _ | refine blk_drew ?_ | refine blk_alloc ?_ _)); refine blk_put (cs := #[.int .i64 t215, .int .i64 0, .string (⟨#[]⟩ : ByteArray)]) ?_ 0 _ rfl; (with_reducible repeat (first | refine blk_drewN ?_ _ | refine blk_drew ?_ | refine blk_alloc ?_ _)); exact BK214.out) Try.underlying89 rfl z1_) rfl ?_
      exact ⟨by first | rfl | (simp [errW_none, errW_some] <;> rfl) | (simp [*, errW_none, errW_some] <;> rfl), Short.hB HB⟩
     ·
      rw [if_neg c51] at H
      have c51b0 : (t230 == 0) = false := beq_eq_false_iff_ne.mpr c51
      have c51b1 : (t230 != 0) = true := bne_iff_ne.mpr c51
      simp only [Option.some.injEq, Prod.mk.injEq] at H
      obtain ⟨rfl, rfl, rfl, rfl, rfl⟩ := H
      go_enter Try.func97, Try.ntmps97
      go_wp2_with (first | ((with_reducible refine gate_dst (N := 4) rfl ?_); refine box_event ?hg (N := 4) ?hd (cs := #[.int .i64 0, .int .i64 0, .string (⟨#[]⟩ : ByteArray)]) (t := 89) ?hr ?_; (case hd => rfl); (case hg => rfl); (case hr => first | (go_simp; done) | (go_simp; rfl)); intro gb214 hg w56 hbox hb; have n0_ := mk_ (below_step (Short.hB HB) hb); have n1_ := mk_ (hbox); have n2_ := mk_ ((by rw [hg]; exact (below_size (Short.hB HB)) : w.heap.size ≤ gb214)); have n3_ := mk_ ((by rw [hg]; exact (below_size (Short.hB HB)) : w.heap.size ≤ gb214)); clear HB; revert n0_ n1_ n2_ n3_; intro HB BK214 GW214 GE214; clear hb hbox hg) | ((with_reducible refine gate_callee (f := 72) rfl ?_); refine Short.gL (some 11) Try.func72 #[.slice A0 l0.length c0, .int .i64 a1, .int .i64 1] (h := ?_); (with_reducible refine (wire_Get.calls k _ _ l0 a1 1 t215 t216 t217 _ ?side1 ?side2 A3.out).mono ?_); (case side1 => exact cX_ (C_below HR0.out HB.out)); (case side2 => exact HC0.out); rintro e w' ⟨rfl, ⟨nd, rfl⟩⟩; refine ⟨_, rfl, ?_⟩; (try (rw [drewN_self w56]; generalize hq_ : World.drewN w56 _ = w56; have n0_ : Aside0 (w56.heap[gb214]? = some (.cells #[.int .i64 0, .int .i64 0, .string (⟨#[]⟩ : ByteArray)] 89 (0, 0))) := ⟨by rw [← hq_]; exact (Short.bK BK214)⟩; have n1_ : Aside0 (Below w.heap.size w w56) := ⟨by rw [← hq_]; exact (Short.hB HB)⟩; clear BK214 HB hq_; revert n0_ n1_; intro BK214 HB)); obtain ⟨hcz57_0, hcz57_1, hcz57_2, hfz57_0, hfz57_1, hfz57_2⟩ := Short.c3 BK214.out) | (go_at_call 108; (with_reducible refine (value_Check.calls t215 0 (⟨#[]⟩ : ByteArray) t230 _ A50.out).mono ?_); rintro e w58 ⟨rfl, hb⟩; have n0_ := mk_ (blk_below (g := gb214) (o := .cells #[.int .i64 t215, .int .i64 0, .string (⟨#[]⟩ : ByteArray)] 89 (0, 0)) (by (with_reducible repeat (first | refine blk_drewN ?_ _ | refine blk_drew ?_ | refine blk_alloc ?_ _)); refine blk_put (cs := #[.int .i64 0, .int .i64 0, .string (⟨#[]⟩ : ByteArray)]) ?_ 0 _ rfl; (with_reducible repeat (first | refine blk_drewN ?_ _ | refine blk_drew ?_ | refine blk_alloc ?_ _)); exact BK214.out) hb); have n1_ := mk_ (below_step (Short.hB HB) hb); clear BK214 HB; revert n0_ n1_; intro BK214 HB; (try clear hb); (try clear hb2); (try clear hk); (try clear hi); obtain ⟨hcz59_0, hcz59_1, hcz59_2, hfz59_0, hfz59_1, hfz59_2⟩ := Short.c3 BK214.out))
      refine bodyPost_ret (results_ctt rfl _ _ gb214 89 #[.int .i64 0, .int .i64 0, .string (⟨#[]⟩ : ByteArray)] (0, 0) _ rfl (by (with_reducible repeat (first | refine blk_drewN ?_ _ | refine blk_drew ?_ | refine blk_alloc ?_ _)); refine blk_put (cs := #[.int .i64 0, .int .i64 0, .string (⟨#[]⟩ : ByteArray)]) ?_ 2 _ rfl; (with_reducible repeat (first | refine blk_drewN ?_ _ | refine blk_drew ?_ | refine blk_alloc ?_ _)); refine blk_put (cs := #[.int .i64 0, .int .i64 0, .string (⟨#[]⟩ : ByteArray)]) ?_ 1 _ rfl; (with_reducible repeat (first | refine blk_drewN ?_ _ | refine blk_drew ?_ | refine blk_alloc ?_ _)); refine blk_put (cs := #[.int .i64 t215, .int .i64 0, .string (⟨#[]⟩ : ByteArray)]) ?_ 0 _ rfl; (with_reducible repeat (first | refine blk_drewN ?_ _ | refine blk_drew ?_ | refine blk_alloc ?_ _)); exact BK214.out) Try.underlying89 rfl z1_) rfl ?_
      exact ⟨by first | rfl | (simp [errW_none, errW_some] <;> rfl) | (simp [*, errW_none, errW_some] <;> rfl), Short.hB HB⟩
 ·
  rw [if_neg c4] at H
  have c4b0 : (t217 == 0) = false := beq_eq_false_iff_ne.mpr c4
  have c4b1 : (t217 != 0) = true := bne_iff_ne.mpr c4
  simp only [Option.some.injEq, Prod.mk.injEq] at H
  obtain ⟨rfl, rfl, rfl, rfl, rfl⟩ := H
  go_enter Try.func97, Try.ntmps97
  go_wp2_with (first | ((with_reducible refine gate_dst (N := 4) rfl ?_); refine box_event ?hg (N := 4) ?hd (cs := #[.int .i64 0, .int .i64 0, .string (⟨#[]⟩ : ByteArray)]) (t := 89) ?hr ?_; (case hd => rfl); (case hg => rfl); (case hr => first | (go_simp; done) | (go_simp; rfl)); intro gb214 hg w60 hbox hb; have n0_ := mk_ (below_step (Short.hB HB) hb); have n1_ := mk_ (hbox); have n2_ := mk_ ((by rw [hg]; exact (below_size (Short.hB HB)) : w.heap.size ≤ gb214)); have n3_ := mk_ ((by rw [hg]; exact (below_size (Short.hB HB)) : w.heap.size ≤ gb214)); clear HB; revert n0_ n1_ n2_ n3_; intro HB BK214 GW214 GE214; clear hb hbox hg) | ((with_reducible refine gate_callee (f := 72) rfl ?_); refine Short.gL (some 11) Try.func72 #[.slice A0 l0.length c0, .int .i64 a1, .int .i64 1] (h := ?_); (with_reducible refine (wire_Get.calls k _ _ l0 a1 1 t215 t216 t217 _ ?side1 ?side2 A3.out).mono ?_); (case side1 => exact cX_ (C_below HR0.out HB.out)); (case side2 => exact HC0.out); rintro e w' ⟨rfl, ⟨nd, rfl⟩⟩; refine ⟨_, rfl, ?_⟩; (try (rw [drewN_self w60]; generalize hq_ : World.drewN w60 _ = w60; have n0_ : Aside0 (w60.heap[gb214]? = some (.cells #[.int .i64 0, .int .i64 0, .string (⟨#[]⟩ : ByteArray)] 89 (0, 0))) := ⟨by rw [← hq_]; exact (Short.bK BK214)⟩; have n1_ : Aside0 (Below w.heap.size w w60) := ⟨by rw [← hq_]; exact (Short.hB HB)⟩; clear BK214 HB hq_; revert n0_ n1_; intro BK214 HB)); obtain ⟨hcz61_0, hcz61_1, hcz61_2, hfz61_0, hfz61_1, hfz61_2⟩ := Short.c3 BK214.out))
  refine bodyPost_ret (results_ctt rfl _ _ gb214 89 #[.int .i64 0, .int .i64 0, .string (⟨#[]⟩ : ByteArray)] (0, 0) _ rfl (by (with_reducible repeat (first | refine blk_drewN ?_ _ | refine blk_drew ?_ | refine blk_alloc ?_ _)); refine blk_put (cs := #[.int .i64 0, .int .i64 0, .string (⟨#[]⟩ : ByteArray)]) ?_ 2 _ rfl; (with_reducible repeat (first | refine blk_drewN ?_ _ | refine blk_drew ?_ | refine blk_alloc ?_ _)); refine blk_put (cs := #[.int .i64 0, .int .i64 0, .string (⟨#[]⟩ : ByteArray)]) ?_ 1 _ rfl; (with_reducible repeat (first | refine blk_drewN ?_ _ | refine blk_drew ?_ | refine blk_alloc ?_ _)); refine blk_put (cs := #[.int .i64 0, .int .i64 0, .string (⟨#[]⟩ : ByteArray)]) ?_ 0 _ rfl; (with_reducible repeat (first | refine blk_drewN ?_ _ | refine blk_drew ?_ | refine blk_alloc ?_ _)); exact BK214.out) Try.underlying89 rfl z1_) rfl ?_
  exact ⟨by first | rfl | (simp [errW_none, errW_some] <;> rfl) | (simp [*, errW_none, errW_some] <;> rfl), Short.hB HB⟩
def row_Read.l0 : Nat → List Int → List (S89) → Int → Int → Int → Option ((List (S89)) × Int × Int)
 | 0, _, _, _, _, _ => none
 | k + 1, x0, x4, x5, x23, x24 => if x24 < x23 then ((value_Read.f k x0 x5).bind fun bt251 => (if bt251.2.2.2.2 = 0 then (if x4.length < 4398046511104 then (row_Read.l0 k x0 (x4 ++ [(⟨bt251.1, bt251.2.1, bt251.2.2.1⟩ : S89)]) bt251.2.2.2.1 x23 (wrap64 (x24 + 1))) else (none)) else (some (([] : List (S89)), 0, 3)))) else (some (x4, x5, 0))
def row_Read.f (k : Nat) (l0 : List Int) (a1 : Int) : Option ((List (S89)) × Int × Int) := (wire_Get.f k l0 a1 1).bind fun bt248 => (if bt248.2.2 = 0 then (if bt248.1 > 12 then (some (([] : List (S89)), 0, 3)) else (row_Read.l0 k l0 ([] : List (S89)) bt248.2.1 bt248.1 0)) else (some (([] : List (S89)), 0, bt248.2.2)))
set_option maxHeartbeats 8000000 in
set_option maxRecDepth 100000 in
theorem row_Read.calls (k : Nat) (A0 : Option Addr) (c0 : Nat) (l0 : List Int) (a1 : Int) (r1 : List (S89)) (r2 : Int) (r3 : Int) (w : World) (hr0 : Kd.C (Kd.int .u8) w A0 l0.length l0) (hc0 : l0.length ≤ c0) (h : row_Read.f k l0 a1 = some (r1, r2, r3)) :
  Calls Try.prog 76 #[.slice A0 l0.length c0, .int .i64 a1] w fun e w' => ∃ v0_ : Value, e = .returned (.tuple #[v0_, .int .i64 r2, .int .i64 r3]) ∧ Kd.R k89 89 w' w.heap.size (fun _ => True) v0_ r1 ∧ Below w.heap.size w w' := by
 have hu89 := Try.underlying89
 have HR0 := mk_ hr0
 have HC0 := mk_ hc0
 clear hr0 hc0
 have HB := mk_ (Below.refl w.heap.size w)
 have H : ((wire_Get.f k l0 a1 1).bind fun bt248 => (if bt248.2.2 = 0 then (if bt248.1 > 12 then (some (([] : List (S89)), 0, 3)) else (row_Read.l0 k l0 ([] : List (S89)) bt248.2.1 bt248.1 0)) else (some (([] : List (S89)), 0, bt248.2.2)))) = some (r1, r2, r3) := h
 clear h
 replace H := Option.bind_eq_some_iff.mp H
 obtain ⟨⟨t248, t249, t250⟩, A30, H⟩ := H
 replace H : (if t250 = 0 then (if t248 > 12 then (some (([] : List (S89)), 0, 3)) else (row_Read.l0 k l0 ([] : List (S89)) t249 t248 0)) else (some (([] : List (S89)), 0, t250))) = some (r1, r2, r3) := H
 have A3 := mk_ A30
 clear A30
 by_cases c4 : t250 = 0
 ·
  rw [if_pos c4] at H
  have c4b0 : (t250 == 0) = true := beq_iff_eq.mpr c4
  have c4b1 : (t250 != 0) = false := bne_eq_false_iff_eq.mpr c4
  clear c4
  by_cases c5 : t248 > 12
  ·
   rw [if_pos c5] at H
   have c5b0 : decide (12 < t248) = true := decide_eq_true c5
   clear c5
   simp only [Option.some.injEq, Prod.mk.injEq] at H
   obtain ⟨rfl, rfl, rfl⟩ := H
   go_enter Try.func76, Try.ntmps76
   go_wp2_with (first | ((with_reducible refine gate_callee (f := 72) rfl ?_); refine Short.gL (some 14) Try.func72 #[.slice A0 l0.length c0, .int .i64 a1, .int .i64 1] (h := ?_); (with_reducible refine (wire_Get.calls k _ _ l0 a1 1 t248 t249 t250 _ ?side1 ?side2 A3.out).mono ?_); (case side1 => repeat (first | exact HR0.out | (with_reducible refine C_alloc ?_ _) | (with_reducible refine C_drewN ?_ _) | (with_reducible refine C_drew ?_))); (case side2 => exact HC0.out); rintro e w' ⟨rfl, ⟨nd, rfl⟩⟩; refine ⟨_, rfl, ?_⟩))
   go_ret3
   exact ⟨_, by first | rfl | (simp [errW_none, errW_some] <;> rfl) | (simp [*, errW_none, errW_some] <;> rfl), by first | exact R_nil _ _ _ _ _ | exact N_nil _ _ _ _ _ | exact V_nil _ _ _ _ _ | exact Q_nil _ _ _ _ _ | exact S_nil _ _ _ _ _, Short.hB HB⟩
  ·
   rw [if_neg c5] at H
   have c5b0 : decide (12 < t248) = false := decide_eq_false c5
   clear c5
   have H' := mk_ H
   clear H
   go_enter Try.func76, Try.ntmps76
   go_wp2_with (first | ((with_reducible refine gate_callee (f := 72) rfl ?_); refine Short.gL (some 14) Try.func72 #[.slice A0 l0.length c0, .int .i64 a1, .int .i64 1] (h := ?_); (with_reducible refine (wire_Get.calls k _ _ l0 a1 1 t248 t249 t250 _ ?side1 ?side2 A3.out).mono ?_); (case side1 => repeat (first | exact HR0.out | (with_reducible refine C_alloc ?_ _) | (with_reducible refine C_drewN ?_ _) | (with_reducible refine C_drew ?_))); (case side2 => exact HC0.out); rintro e w' ⟨rfl, ⟨nd, rfl⟩⟩; refine ⟨_, rfl, ?_⟩))
   go_loopg [4, 5, 24] k (fun kq v4 v5 v24 w' => ∃ (x4_1 : List (S89)) (x5_1 : Int) (x24_1 : Int), v5 = .int .i64 x5_1 ∧ v24 = .int .i64 x24_1 ∧ Aside0 (row_Read.l0 kq l0 x4_1 x5_1 t248 x24_1 = some (r1, r2, r3)) ∧ Aside0 (kq ≤ k) ∧ Aside0 (Kd.R k89 89 w' w.heap.size (fun _ => True) v4 x4_1) ∧ Aside0 (Below w.heap.size w w'))
   case atStart => exact ⟨(([] : List (S89))), (t249), (0), z3_, z3_, H', ⟨Nat.le_refl _⟩, ⟨by first | exact R_nil _ _ _ _ _ | exact N_nil _ _ _ _ _ | exact V_nil _ _ _ _ _ | exact Q_nil _ _ _ _ _ | exact S_nil _ _ _ _ _⟩, ⟨Short.hB HB⟩⟩
   case round =>
    clear H'
    try clear p2
    try clear c4
    try clear c4b0
    try clear c4b1
    try clear c5
    try clear c5b0
    obtain ⟨x4_1, x5_1, x24_1, rfl, rfl, HA, HK1, HO_4, HB⟩ := hrel
    cases gk with
    | zero => exact absurd HA.out (by simp [row_Read.l0])
    | succ k1 =>
     have H := HA.out
     clear HA
     simp only [row_Read.l0] at H
     by_cases c6 : x24_1 < t248
     ·
      rw [if_pos c6] at H
      have c6b0 : decide (x24_1 < t248) = true := decide_eq_true c6
      clear c6
      replace H := Option.bind_eq_some_iff.mp H
      obtain ⟨⟨t251, t252, t253, t254, t255⟩, A70, H⟩ := H
      replace H : (if t255 = 0 then (if x4_1.length < 4398046511104 then (row_Read.l0 k1 l0 (x4_1 ++ [(⟨t251, t252, t253⟩ : S89)]) t254 t248 (wrap64 (x24_1 + 1))) else (none)) else (some (([] : List (S89)), 0, 3))) = some (r1, r2, r3) := H
      have A7 := mk_ A70
      clear A70
      by_cases c8 : t255 = 0
      ·
       rw [if_pos c8] at H
       have c8b0 : (t255 == 0) = true := beq_iff_eq.mpr c8
       have c8b1 : (t255 != 0) = false := bne_eq_false_iff_eq.mpr c8
       clear c8
       by_cases c9 : x4_1.length < 4398046511104
       ·
        rw [if_pos c9] at H
        have LMc9 := mk_ c9
        clear c9
        obtain ⟨y257, hy257⟩ : ∃ y_ : List (S89), y_ = (x4_1 ++ [(⟨t251, t252, t253⟩ : S89)]) := ⟨_, rfl⟩
        replace H : (row_Read.l0 k1 l0 y257 t254 t248 (wrap64 (x24_1 + 1))) = some (r1, r2, r3) := by first | (rw [hy257]; with_reducible exact H) | (have H2_ := (Option.bind_some _ _).symm.trans H; rw [hy257]; with_reducible exact H2_) | (have H2_ := (Option.bind_some _ _).symm.trans H; with_reducible exact H2_) | with_reducible exact H | (rw [hy257]; exact H) | exact H
        have Ny257 := mk_ hy257
        clear hy257
        have H' := mk_ H
        clear H
        go_wp2_with (first | ((with_reducible refine gate_callee (f := 97) rfl ?_); refine Short.gL (some 29) Try.func97 #[.slice A0 l0.length c0, .int .i64 x5_1] (h := ?_); (with_reducible refine (value_Read.calls k1 _ _ l0 x5_1 t251 t252 t253 t254 t255 _ ?side1 ?side2 A7.out).mono ?_); (case side1 => exact cX_ (C_below HR0.out HB.out)); (case side2 => exact HC0.out); rintro e w10 ⟨rfl, hb⟩; refine ⟨_, rfl, ?_⟩; have n0_ := mk_ (R_below (ZKR HO_4) hb); have n1_ := mk_ (below_step (Short.hB HB) hb); clear HO_4 HB; revert n0_ n1_; intro HO_4 HB; (try clear hb)) | ((with_reducible refine gate_dst (N := 8) rfl ?_); refine box_event ?hg (N := 8) ?hd (cs := #[.int .i64 0, .int .i64 0, .string (⟨#[]⟩ : ByteArray)]) (t := 89) ?hr ?_; (case hd => rfl); (case hg => rfl); (case hr => first | (go_simp; done) | (go_simp; rfl)); intro gb256 hg w11 hbox hb; have n0_ := mk_ (R_below (R_elderB (ZKR HO_4) gb256 (Nat.le_of_eq hg.symm)) hb); have n1_ := mk_ (below_step (Short.hB HB) hb); have n2_ := mk_ (hbox); have n3_ := mk_ ((by rw [hg]; exact (below_size (Short.hB HB)) : w.heap.size ≤ gb256)); have n4_ := mk_ ((by rw [hg]; exact (below_size (Short.hB HB)) : w.heap.size ≤ gb256)); clear HO_4 HB; revert n0_ n1_ n2_ n3_ n4_; intro HO_4 HB BK256 GW256 GE256; clear hb hbox hg; obtain ⟨hcz12_0, hcz12_1, hcz12_2, hfz12_0, hfz12_1, hfz12_2⟩ := Short.c3 BK256.out) | ((with_reducible refine gate_builtin (b := .append) (xs := #[.tmp 35, .tmp 37]) rfl ?_); at_builtin; refine R_append k89 (w0 := w) w.heap.size rfl (.tmp 35) (.tmp 37) 51 89 (.agg #[(.int .i64 0), (.int .i64 0), (.string ⟨#[]⟩)]) 32 rfl Try.underlying51 info89 rfl z5_ z2_ u4 x4_1 (⟨t251, t252, t253⟩ : S89) [.int .i64 t251, .int .i64 t252, .string t253] (fun k_ => k_ ≠ gb256) (fun _ => False) rfl (by first | (go_simp; done) | (go_simp; rfl)) ?aP (fun _ hk => hk.elim) ?aF ?aO ?aB ?aS ?aL ?_; (case aP => exact k89_mkM _ _ _ (⟨t251, t252, t253⟩ : S89)); (case aB => exact (Short.hB HB)); (case aF => exact (fun k_ hk => Kd.freshB (g := gb256) (o := .cells #[.int .i64 t251, .int .i64 t252, .string t253] 89 (0, 0)) (by (with_reducible repeat (first | refine blk_drewN ?_ _ | refine blk_drew ?_ | refine blk_alloc ?_ _)); refine blk_put (cs := #[.int .i64 t251, .int .i64 t252, .string (⟨#[]⟩ : ByteArray)]) ?_ 2 _ rfl; (with_reducible repeat (first | refine blk_drewN ?_ _ | refine blk_drew ?_ | refine blk_alloc ?_ _)); refine blk_put (cs := #[.int .i64 t251, .int .i64 0, .string (⟨#[]⟩ : ByteArray)]) ?_ 1 _ rfl; (with_reducible repeat (first | refine blk_drewN ?_ _ | refine blk_drew ?_ | refine blk_alloc ?_ _)); refine blk_put (cs := #[.int .i64 0, .int .i64 0, .string (⟨#[]⟩ : ByteArray)]) ?_ 0 _ rfl; (with_reducible repeat (first | refine blk_drewN ?_ _ | refine blk_drew ?_ | refine blk_alloc ?_ _)); exact BK256.out) k_ hk)); (case aO => exact (by (with_reducible repeat (first | apply R_alloc | apply R_drewN | apply R_drew)); exact R_mono (R_far (p := ⟨gb256, 2, none⟩) (R_far (p := ⟨gb256, 1, none⟩) (R_far (p := ⟨gb256, 0, none⟩) (R_mono HO_4.out (fun k_ hk => (⟨hk, hk.2⟩ : _ ∧ k_ ≠ gb256))) (fun _ hk => hk.2) (.int .i64 t251)) (fun _ hk => hk.2) (.int .i64 t252)) (fun _ hk => hk.2) (.string t253)) (fun _ hk => hk.1.2))); (case aS => exact (below_size (Short.hB HB))); (case aL => have := LMc9.out; omega); intro v258 w13 ho hb hg hat; rw [← Ny257.out] at ho; have n0_ := mk_ (blk_grown (g := gb256) (o := .cells #[.int .i64 t251, .int .i64 t252, .string t253] 89 (0, 0)) (by (with_reducible repeat (first | refine blk_drewN ?_ _ | refine blk_drew ?_ | refine blk_alloc ?_ _)); refine blk_put (cs := #[.int .i64 t251, .int .i64 t252, .string (⟨#[]⟩ : ByteArray)]) ?_ 2 _ rfl; (with_reducible repeat (first | refine blk_drewN ?_ _ | refine blk_drew ?_ | refine blk_alloc ?_ _)); refine blk_put (cs := #[.int .i64 t251, .int .i64 0, .string (⟨#[]⟩ : ByteArray)]) ?_ 1 _ rfl; (with_reducible repeat (first | refine blk_drewN ?_ _ | refine blk_drew ?_ | refine blk_alloc ?_ _)); refine blk_put (cs := #[.int .i64 0, .int .i64 0, .string (⟨#[]⟩ : ByteArray)]) ?_ 0 _ rfl; (with_reducible repeat (first | refine blk_drewN ?_ _ | refine blk_drew ?_ | refine blk_alloc ?_ _)); exact BK256.out) hg (R_away HO_4.out (fun _ hk => hk.2))); have n1_ := mk_ (hb); have n2_ := mk_ (ho); clear BK256 HB HO_4; revert n0_ n1_ n2_; intro BK256 HB HO259; clear ho hb hg hat))
        go_roundg k1
        case measure => have := HK1.out; omega
        case rel => exact ⟨(y257), (t254), (wrap64 (x24_1 + 1)), z3_, z3_, H', ⟨by have := HK1.out; omega⟩, ⟨by (with_reducible repeat (first | apply R_alloc | apply R_drewN | apply R_drew)); exact R_mono HO259.out (fun _ hk => trivial)⟩, ⟨Short.hB HB⟩⟩
       ·
        rw [if_neg c9] at H
        exact absurd H (by simp)
      ·
       rw [if_neg c8] at H
       have c8b0 : (t255 == 0) = false := beq_eq_false_iff_ne.mpr c8
       have c8b1 : (t255 != 0) = true := bne_iff_ne.mpr c8
       simp only [Option.some.injEq, Prod.mk.injEq] at H
       obtain ⟨rfl, rfl, rfl⟩ := H
       go_wp2_with (first | ((with_reducible refine gate_callee (f := 97) rfl ?_); refine Short.gL (some 29) Try.func97 #[.slice A0 l0.length c0, .int .i64 x5_1] (h := ?_); (with_reducible refine (value_Read.calls k1 _ _ l0 x5_1 t251 t252 t253 t254 t255 _ ?side1 ?side2 A7.out).mono ?_); (case side1 => exact cX_ (C_below HR0.out HB.out)); (case side2 => exact HC0.out); rintro e w14 ⟨rfl, hb⟩; refine ⟨_, rfl, ?_⟩; have n0_ := mk_ (R_below (ZKR HO_4) hb); have n1_ := mk_ (below_step (Short.hB HB) hb); clear HO_4 HB; revert n0_ n1_; intro HO_4 HB; (try clear hb)) | ((with_reducible refine gate_dst (N := 8) rfl ?_); refine box_event ?hg (N := 8) ?hd (cs := #[.int .i64 0, .int .i64 0, .string (⟨#[]⟩ : ByteArray)]) (t := 89) ?hr ?_; (case hd => rfl); (case hg => rfl); (case hr => first | (go_simp; done) | (go_simp; rfl)); intro gb256 hg w15 hbox hb; have n0_ := mk_ (R_below (R_elderB (ZKR HO_4) gb256 (Nat.le_of_eq hg.symm)) hb); have n1_ := mk_ (below_step (Short.hB HB) hb); have n2_ := mk_ (hbox); have n3_ := mk_ ((by rw [hg]; exact (below_size (Short.hB HB)) : w.heap.size ≤ gb256)); have n4_ := mk_ ((by rw [hg]; exact (below_size (Short.hB HB)) : w.heap.size ≤ gb256)); clear HO_4 HB; revert n0_ n1_ n2_ n3_ n4_; intro HO_4 HB BK256 GW256 GE256; clear hb hbox hg; obtain ⟨hcz16_0, hcz16_1, hcz16_2, hfz16_0, hfz16_1, hfz16_2⟩ := Short.c3 BK256.out))
       go_ret3
       exact ⟨_, by first | rfl | (simp [errW_none, errW_some] <;> rfl) | (simp [*, errW_none, errW_some] <;> rfl), by first | exact R_nil _ _ _ _ _ | exact N_nil _ _ _ _ _ | exact V_nil _ _ _ _ _ | exact Q_nil _ _ _ _ _ | exact S_nil _ _ _ _ _, Short.hB HB⟩
     ·
      rw [if_neg c6] at H
      have c6b0 : decide (x24_1 < t248) = false := decide_eq_false c6
      clear c6
      simp only [Option.some.injEq, Prod.mk.injEq] at H
      obtain ⟨rfl, rfl, rfl⟩ := H
      go_wp2
      go_ret3
      exact ⟨_, by first | rfl | (simp [errW_none, errW_some] <;> rfl) | (simp [*, errW_none, errW_some] <;> rfl), by (with_reducible repeat (first | apply R_alloc | apply R_drewN | apply R_drew)); exact HO_4.out, Short.hB HB⟩
 ·
  rw [if_neg c4] at H
  have c4b0 : (t250 == 0) = false := beq_eq_false_iff_ne.mpr c4
  have c4b1 : (t250 != 0) = true := bne_iff_ne.mpr c4
  simp only [Option.some.injEq, Prod.mk.injEq] at H
  obtain ⟨rfl, rfl, rfl⟩ := H
  go_enter Try.func76, Try.ntmps76
  go_wp2_with (first | ((with_reducible refine gate_callee (f := 72) rfl ?_); refine Short.gL (some 14) Try.func72 #[.slice A0 l0.length c0, .int .i64 a1, .int .i64 1] (h := ?_); (with_reducible refine (wire_Get.calls k _ _ l0 a1 1 t248 t249 t250 _ ?side1 ?side2 A3.out).mono ?_); (case side1 => repeat (first | exact HR0.out | (with_reducible refine C_alloc ?_ _) | (with_reducible refine C_drewN ?_ _) | (with_reducible refine C_drew ?_))); (case side2 => exact HC0.out); rintro e w' ⟨rfl, ⟨nd, rfl⟩⟩; refine ⟨_, rfl, ?_⟩))
  go_ret3
  exact ⟨_, by first | rfl | (simp [errW_none, errW_some] <;> rfl) | (simp [*, errW_none, errW_some] <;> rfl), by first | exact R_nil _ _ _ _ _ | exact N_nil _ _ _ _ _ | exact V_nil _ _ _ _ _ | exact Q_nil _ _ _ _ _ | exact S_nil _ _ _ _ _, Short.hB HB⟩
end Go.Proofs.Ytcbfliajgopdaaa.PAll
end
