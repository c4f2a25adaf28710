-- Put together by a program of this session (wip/slice2.py) out of the seat's texts.
import Derived.Test.YtimbbaoodjhdoaaZPTT
import Derived.Laws.StructEq
import Derived.Test.YtimbbaoodjhdoaaProg
import Derived.WalkSpells
import Derived.Lib.SliceRun
import Derived.Laws.Cover1
set_option maxHeartbeats 8000000
set_option maxRecDepth 100000
open Go.Proofs.YtimbbaoodjhdoaaW Go.Proofs.Ytimbbaoodjhdoaa
section
namespace Go.Proofs.Ytimbbaoodjhdoaa.PAll
open Go.RowKit PrintWords PrintLast PrintMore ZipT PrintWords.Kd PrintMore.Kd
attribute [local go_sem] eC eA eM eK dP dR dZ eB   -- for this text's walks alone
set_option linter.unusedVariables false
set_option linter.unusedSimpArgs false
def errW : Option Int → Value
 | none => .nilIface
 | some c => .iface 0 (.int .i64 c)
theorem bY : errW none = .nilIface := rfl
theorem bZ (c : Int) : errW (some c) = .iface 0 (.int .i64 c) := rfl
theorem info3 : (Try.prog.info? 3).map (fun i => (i.zero, i.size, i.bytes)) = some (some (.int .i64 0), 1, 8) := by kernel_rfl
theorem info34 : (Try.prog.info? 34).map (fun i => (i.zero, i.size, i.bytes)) = some (some (.agg #[(.int .i64 0), (.int .i64 0), (.int .i64 0), (.int .i64 0), (.int .i64 0), (.int .i64 0), (.int .i64 0), (.int .i64 0), (.int .i64 0), (.string ⟨#[]⟩), (.slice none 0 0), (.slice none 0 0), (.int .i64 0), (.int .i64 0)]), 14, 152) := by kernel_rfl
structure S54 where
 f0 : (List Int)
def z54 : S54 := ⟨([] : List Int)⟩
def k54 : Kd S54 := Kd.iso (Kd.slice 3 (Kd.int .i64)) (fun x : S54 => x.f0)
theorem k54_open {w : World} {x : S54} {cs : List Value} (h : k54.K w x cs) : ∃ A0 c0, cs = [.slice A0 x.f0.length c0] ∧ x.f0.length ≤ c0 ∧ (Kd.int .i64).C w A0 x.f0.length x.f0 := by
 obtain ⟨A0, c0, rfl, l0, g0⟩ := h
 exact ⟨A0, c0, rfl, l0, g0⟩
theorem k54_mk (w : World) (x : S54) {A0 : Option Addr} {c0 : Nat} (l0 : x.f0.length ≤ c0) (g0 : (Kd.int .i64).C w A0 x.f0.length x.f0) : k54.K w x [.slice A0 x.f0.length c0] := ⟨A0, c0, rfl, l0, g0⟩
theorem k54_mkF (W : World) (ok : Nat → Prop) (x : S54) {A0 : Option Addr} {c0 : Nat} (l0 : x.f0.length ≤ c0) (g0 : Kd.F (Kd.int .i64) W ok A0 x.f0.length x.f0) : Kd.FK k54 W ok x [.slice A0 x.f0.length c0] := fun W2 hW => k54_mk W2 x l0 (g0 W2 hW)
def cN (xs : List S54) (i : Int) : S54 := xs.getD i.toNat z54
theorem eP {w : World} {A : Option Addr} {n : Nat} {xs : List S54} (h : Kd.C k54 w A n xs) (i : Int) (h0 : 0 ≤ i) (h1 : i < n) : ∃ ad A0 c0, A = some ad ∧ w.cell? (ad.add i.toNat) = some (.slice A0 (cN xs i).f0.length c0) ∧ (cN xs i).f0.length ≤ c0 ∧ (Kd.int .i64).C w A0 (cN xs i).f0.length (cN xs i).f0 := by
 obtain ⟨ad, c, e, _, hK, hc0⟩ := C_get h z54 i h0 h1
 have hc : ∀ j u, c[j]? = some u → w.cell? (ad.add (i.toNat * 1 + j)) = some u := hc0
 obtain ⟨A0, c0, rfl, l0, g0⟩ := k54_open hK
 exact ⟨ad, A0, c0, e, by have hq := hc 0 _ rfl; rwa [Nat.mul_one, Nat.add_zero] at hq, l0, g0⟩
structure S49 where
 f0 : (List Int)
 f1 : Int
 f2 : Int
def z49 : S49 := ⟨([] : List Int), (0 : Int), (0 : Int)⟩
def k49 : Kd S49 := Kd.iso (Kd.pair (Kd.slice 3 (Kd.int .i64)) (Kd.pair (Kd.int .i64) (Kd.int .i64))) (fun x : S49 => (x.f0, x.f1, x.f2))
theorem k49_open {w : World} {x : S49} {cs : List Value} (h : k49.K w x cs) : ∃ A0 c0, cs = [.slice A0 x.f0.length c0, .int .i64 x.f1, .int .i64 x.f2] ∧ x.f0.length ≤ c0 ∧ (Kd.int .i64).C w A0 x.f0.length x.f0 := by
 obtain ⟨_, _, rfl, ⟨A0, c0, rfl, l0, g0⟩, ⟨_, _, rfl, rfl, rfl⟩⟩ := h
 exact ⟨A0, c0, rfl, l0, g0⟩
theorem k49_mkM (w : World) (base : Nat) (ok : Nat → Prop) (x : S49) {v0 : Value} (g0 : (Kd.int .i64).R 3 w base ok v0 x.f0) : k49.M w base ok x [v0, .int .i64 x.f1, .int .i64 x.f2] := ⟨[v0], [.int .i64 x.f1, .int .i64 x.f2], rfl, ⟨v0, rfl, g0⟩, ⟨[.int .i64 x.f1], [.int .i64 x.f2], rfl, rfl, rfl⟩⟩
theorem k49_openF {W : World} {ok : Nat → Prop} {x : S49} {cs : List Value} (h : Kd.FK k49 W ok x cs) : ∃ A0 c0, cs = [.slice A0 x.f0.length c0, .int .i64 x.f1, .int .i64 x.f2] ∧ x.f0.length ≤ c0 ∧ Kd.F (Kd.int .i64) W ok A0 x.f0.length x.f0 := by
 obtain ⟨A0, c0, rfl, l0, _⟩ := k49_open (Kd.FK_now h)
 exact ⟨A0, c0, rfl, l0, (fun W' hW => by obtain ⟨A0_, c0_, he, l0_, g0_⟩ := k49_open (h W' hW); injection (Option.some.inj (show some (Value.slice A0 x.f0.length c0) = some (Value.slice A0_ x.f0.length c0_) from congrArg (fun l => l[0]?) he)) with ha_ _ _; rw [ha_]; exact g0_)⟩
def aQ (xs : List S49) (i : Int) : S49 := xs.getD i.toNat z49
theorem eI {w : World} {A : Option Addr} {n : Nat} {xs : List S49} (h : Kd.C k49 w A n xs) (i : Int) (h0 : 0 ≤ i) (h1 : i < n) : ∃ ad A0 c0, A = some ad ∧ w.cell? (ad.add (i.toNat * 3)) = some (.slice A0 (aQ xs i).f0.length c0) ∧ w.cell? ⟨(ad.add (i.toNat * 3)).block, (ad.add (i.toNat * 3)).off + 1, none⟩ = some (.int .i64 (aQ xs i).f1) ∧ w.cell? ⟨(ad.add (i.toNat * 3)).block, (ad.add (i.toNat * 3)).off + 2, none⟩ = some (.int .i64 (aQ xs i).f2) ∧ (aQ xs i).f0.length ≤ c0 ∧ (Kd.int .i64).C w A0 (aQ xs i).f0.length (aQ xs i).f0 := by
 obtain ⟨ad, c, e, _, hK, hc0⟩ := C_get h z49 i h0 h1
 have hc : ∀ j u, c[j]? = some u → w.cell? (ad.add (i.toNat * 3 + j)) = some u := hc0
 obtain ⟨A0, c0, rfl, l0, g0⟩ := k49_open hK
 exact ⟨ad, A0, c0, e, hc 0 _ rfl, by rw [← dD _ _ 1 z5_]; exact hc 1 _ rfl, by rw [← dD _ _ 2 z5_]; exact hc 2 _ rfl, l0, g0⟩
structure S29 where
 f0 : Int
 f1 : Int
 f2 : ByteArray
def z29 : S29 := ⟨(0 : Int), (0 : Int), (⟨#[]⟩ : ByteArray)⟩
def k29 : Kd S29 := Kd.iso (Kd.pair (Kd.int .i64) (Kd.pair (Kd.int .i64) Kd.string)) (fun x : S29 => (x.f0, x.f1, x.f2))
theorem k29_heap : Kd.Heap k29 := Kd.heap_iso _ (Kd.heap_pair (Kd.heap_int .i64) (Kd.heap_pair (Kd.heap_int .i64) Kd.heap_string))
theorem k29_open {w : World} {x : S29} {cs : List Value} (h : k29.K w x cs) : cs = [.int .i64 x.f0, .int .i64 x.f1, .string x.f2] := by
 obtain ⟨_, _, rfl, rfl, ⟨_, _, rfl, rfl, rfl⟩⟩ := h
 exact rfl
theorem k29_mk (w : World) (x : S29)  : k29.K w x [.int .i64 x.f0, .int .i64 x.f1, .string x.f2] := ⟨[.int .i64 x.f0], [.int .i64 x.f1, .string x.f2], rfl, rfl, ⟨[.int .i64 x.f1], [.string x.f2], rfl, rfl, rfl⟩⟩
theorem k29_mkM (w : World) (base : Nat) (ok : Nat → Prop) (x : S29)  : k29.M w base ok x [.int .i64 x.f0, .int .i64 x.f1, .string x.f2] := ⟨[.int .i64 x.f0], [.int .i64 x.f1, .string x.f2], rfl, rfl, ⟨[.int .i64 x.f1], [.string x.f2], rfl, rfl, rfl⟩⟩
def fE (xs : List S29) (i : Int) : S29 := xs.getD i.toNat z29
theorem at_T29 {w : World} {A : Option Addr} {n : Nat} {xs : List S29} (h : Kd.C k29 w A n xs) (i : Int) (h0 : 0 ≤ i) (h1 : i < n) : ∃ ad , A = some ad ∧ w.cell? (ad.add (i.toNat * 3)) = some (.int .i64 (fE xs i).f0) ∧ w.cell? ⟨(ad.add (i.toNat * 3)).block, (ad.add (i.toNat * 3)).off + 1, none⟩ = some (.int .i64 (fE xs i).f1) ∧ w.cell? ⟨(ad.add (i.toNat * 3)).block, (ad.add (i.toNat * 3)).off + 2, none⟩ = some (.string (fE xs i).f2) := by
 obtain ⟨ad, c, e, _, hK, hc0⟩ := C_get h z29 i h0 h1
 have hc : ∀ j u, c[j]? = some u → w.cell? (ad.add (i.toNat * 3 + j)) = some u := hc0
 obtain rfl := k29_open hK
 exact ⟨ad, e, hc 0 _ rfl, by rw [← dD _ _ 1 z5_]; exact hc 1 _ rfl, by rw [← dD _ _ 2 z5_]; exact hc 2 _ rfl⟩
structure S31 where
 f0 : Int
 f1 : Int
 f2 : Int
 f3 : S29
def z31 : S31 := ⟨(0 : Int), (0 : Int), (0 : Int), z29⟩
def k31 : Kd S31 := Kd.iso (Kd.pair (Kd.int .i64) (Kd.pair (Kd.int .i64) (Kd.pair (Kd.int .i64) k29))) (fun x : S31 => (x.f0, x.f1, x.f2, x.f3))
theorem k31_heap : Kd.Heap k31 := Kd.heap_iso _ (Kd.heap_pair (Kd.heap_int .i64) (Kd.heap_pair (Kd.heap_int .i64) (Kd.heap_pair (Kd.heap_int .i64) k29_heap)))
theorem k31_open {w : World} {x : S31} {cs : List Value} (h : k31.K w x cs) : cs = [.int .i64 x.f0, .int .i64 x.f1, .int .i64 x.f2, .int .i64 x.f3.f0, .int .i64 x.f3.f1, .string x.f3.f2] := by
 obtain ⟨_, _, rfl, rfl, ⟨_, _, rfl, rfl, ⟨_, _, rfl, rfl, s3⟩⟩⟩ := h
 obtain rfl := k29_open s3
 exact rfl
theorem k31_mk (w : World) (x : S31)  : k31.K w x [.int .i64 x.f0, .int .i64 x.f1, .int .i64 x.f2, .int .i64 x.f3.f0, .int .i64 x.f3.f1, .string x.f3.f2] := ⟨[.int .i64 x.f0], [.int .i64 x.f1, .int .i64 x.f2, .int .i64 x.f3.f0, .int .i64 x.f3.f1, .string x.f3.f2], rfl, rfl, ⟨[.int .i64 x.f1], [.int .i64 x.f2, .int .i64 x.f3.f0, .int .i64 x.f3.f1, .string x.f3.f2], rfl, rfl, ⟨[.int .i64 x.f2], [.int .i64 x.f3.f0, .int .i64 x.f3.f1, .string x.f3.f2], rfl, rfl, (k29_mk w x.f3 )⟩⟩⟩
structure S34 where
 f0 : Int
 f1 : Int
 f2 : Int
 f3 : Int
 f4 : S31
 f5 : (List Int)
 f6 : (List Int)
 f7 : Int
 f8 : Int
def z34 : S34 := ⟨(0 : Int), (0 : Int), (0 : Int), (0 : Int), z31, ([] : List Int), ([] : List Int), (0 : Int), (0 : Int)⟩
def k34 : Kd S34 := Kd.iso (Kd.pair (Kd.int .i64) (Kd.pair (Kd.int .i64) (Kd.pair (Kd.int .i64) (Kd.pair (Kd.int .i64) (Kd.pair k31 (Kd.pair (Kd.slice 3 (Kd.int .i64)) (Kd.pair (Kd.slice 3 (Kd.int .i64)) (Kd.pair (Kd.int .i64) (Kd.int .i64))))))))) (fun x : S34 => (x.f0, x.f1, x.f2, x.f3, x.f4, x.f5, x.f6, x.f7, x.f8))
theorem fO : Kd.Heap k34 := Kd.heap_iso _ (Kd.heap_pair (Kd.heap_int .i64) (Kd.heap_pair (Kd.heap_int .i64) (Kd.heap_pair (Kd.heap_int .i64) (Kd.heap_pair (Kd.heap_int .i64) (Kd.heap_pair k31_heap (Kd.heap_pair (Kd.heap_slice 3 (Kd.heap_int .i64)) (Kd.heap_pair (Kd.heap_slice 3 (Kd.heap_int .i64)) (Kd.heap_pair (Kd.heap_int .i64) (Kd.heap_int .i64)))))))))
theorem k34_open {w : World} {x : S34} {cs : List Value} (h : k34.K w x cs) : ∃ A10 c10 A11 c11, cs = [.int .i64 x.f0, .int .i64 x.f1, .int .i64 x.f2, .int .i64 x.f3, .int .i64 x.f4.f0, .int .i64 x.f4.f1, .int .i64 x.f4.f2, .int .i64 x.f4.f3.f0, .int .i64 x.f4.f3.f1, .string x.f4.f3.f2, .slice A10 x.f5.length c10, .slice A11 x.f6.length c11, .int .i64 x.f7, .int .i64 x.f8] ∧ x.f5.length ≤ c10 ∧ (Kd.int .i64).C w A10 x.f5.length x.f5 ∧ x.f6.length ≤ c11 ∧ (Kd.int .i64).C w A11 x.f6.length x.f6 := by
 obtain ⟨_, _, rfl, rfl, ⟨_, _, rfl, rfl, ⟨_, _, rfl, rfl, ⟨_, _, rfl, rfl, ⟨_, _, rfl, s4, ⟨_, _, rfl, ⟨A10, c10, rfl, l10, g10⟩, ⟨_, _, rfl, ⟨A11, c11, rfl, l11, g11⟩, ⟨_, _, rfl, rfl, rfl⟩⟩⟩⟩⟩⟩⟩⟩ := h
 obtain rfl := k31_open s4
 exact ⟨A10, c10, A11, c11, rfl, l10, g10, l11, g11⟩
theorem k34_mk (w : World) (x : S34) {A10 : Option Addr} {c10 : Nat} (l10 : x.f5.length ≤ c10) (g10 : (Kd.int .i64).C w A10 x.f5.length x.f5) {A11 : Option Addr} {c11 : Nat} (l11 : x.f6.length ≤ c11) (g11 : (Kd.int .i64).C w A11 x.f6.length x.f6) : k34.K w x [.int .i64 x.f0, .int .i64 x.f1, .int .i64 x.f2, .int .i64 x.f3, .int .i64 x.f4.f0, .int .i64 x.f4.f1, .int .i64 x.f4.f2, .int .i64 x.f4.f3.f0, .int .i64 x.f4.f3.f1, .string x.f4.f3.f2, .slice A10 x.f5.length c10, .slice A11 x.f6.length c11, .int .i64 x.f7, .int .i64 x.f8] := ⟨[.int .i64 x.f0], [.int .i64 x.f1, .int .i64 x.f2, .int .i64 x.f3, .int .i64 x.f4.f0, .int .i64 x.f4.f1, .int .i64 x.f4.f2, .int .i64 x.f4.f3.f0, .int .i64 x.f4.f3.f1, .string x.f4.f3.f2, .slice A10 x.f5.length c10, .slice A11 x.f6.length c11, .int .i64 x.f7, .int .i64 x.f8], rfl, rfl, ⟨[.int .i64 x.f1], [.int .i64 x.f2, .int .i64 x.f3, .int .i64 x.f4.f0, .int .i64 x.f4.f1, .int .i64 x.f4.f2, .int .i64 x.f4.f3.f0, .int .i64 x.f4.f3.f1, .string x.f4.f3.f2, .slice A10 x.f5.length c10, .slice A11 x.f6.length c11, .int .i64 x.f7, .int .i64 x.f8], rfl, rfl, ⟨[.int .i64 x.f2], [.int .i64 x.f3, .int .i64 x.f4.f0, .int .i64 x.f4.f1, .int .i64 x.f4.f2, .int .i64 x.f4.f3.f0, .int .i64 x.f4.f3.f1, .string x.f4.f3.f2, .slice A10 x.f5.length c10, .slice A11 x.f6.length c11, .int .i64 x.f7, .int .i64 x.f8], rfl, rfl, ⟨[.int .i64 x.f3], [.int .i64 x.f4.f0, .int .i64 x.f4.f1, .int .i64 x.f4.f2, .int .i64 x.f4.f3.f0, .int .i64 x.f4.f3.f1, .string x.f4.f3.f2, .slice A10 x.f5.length c10, .slice A11 x.f6.length c11, .int .i64 x.f7, .int .i64 x.f8], rfl, rfl, ⟨[.int .i64 x.f4.f0, .int .i64 x.f4.f1, .int .i64 x.f4.f2, .int .i64 x.f4.f3.f0, .int .i64 x.f4.f3.f1, .string x.f4.f3.f2], [.slice A10 x.f5.length c10, .slice A11 x.f6.length c11, .int .i64 x.f7, .int .i64 x.f8], rfl, (k31_mk w x.f4 ), ⟨[.slice A10 x.f5.length c10], [.slice A11 x.f6.length c11, .int .i64 x.f7, .int .i64 x.f8], rfl, ⟨A10, c10, rfl, l10, g10⟩, ⟨[.slice A11 x.f6.length c11], [.int .i64 x.f7, .int .i64 x.f8], rfl, ⟨A11, c11, rfl, l11, g11⟩, ⟨[.int .i64 x.f7], [.int .i64 x.f8], rfl, rfl, rfl⟩⟩⟩⟩⟩⟩⟩⟩
theorem k34_mkF (W : World) (ok : Nat → Prop) (x : S34) {A10 : Option Addr} {c10 : Nat} (l10 : x.f5.length ≤ c10) (g10 : Kd.F (Kd.int .i64) W ok A10 x.f5.length x.f5) {A11 : Option Addr} {c11 : Nat} (l11 : x.f6.length ≤ c11) (g11 : Kd.F (Kd.int .i64) W ok A11 x.f6.length x.f6) : Kd.FK k34 W ok x [.int .i64 x.f0, .int .i64 x.f1, .int .i64 x.f2, .int .i64 x.f3, .int .i64 x.f4.f0, .int .i64 x.f4.f1, .int .i64 x.f4.f2, .int .i64 x.f4.f3.f0, .int .i64 x.f4.f3.f1, .string x.f4.f3.f2, .slice A10 x.f5.length c10, .slice A11 x.f6.length c11, .int .i64 x.f7, .int .i64 x.f8] := fun W2 hW => k34_mk W2 x l10 (g10 W2 hW) l11 (g11 W2 hW)
def bM (xs : List S34) (i : Int) : S34 := xs.getD i.toNat z34
theorem fB {w : World} {A : Option Addr} {n : Nat} {xs : List S34} (h : Kd.C k34 w A n xs) (i : Int) (h0 : 0 ≤ i) (h1 : i < n) : ∃ ad A10 c10 A11 c11, A = some ad ∧ w.cell? (ad.add (i.toNat * 14)) = some (.int .i64 (bM xs i).f0) ∧ w.cell? ⟨(ad.add (i.toNat * 14)).block, (ad.add (i.toNat * 14)).off + 1, none⟩ = some (.int .i64 (bM xs i).f1) ∧ w.cell? ⟨(ad.add (i.toNat * 14)).block, (ad.add (i.toNat * 14)).off + 2, none⟩ = some (.int .i64 (bM xs i).f2) ∧ w.cell? ⟨(ad.add (i.toNat * 14)).block, (ad.add (i.toNat * 14)).off + 3, none⟩ = some (.int .i64 (bM xs i).f3) ∧ w.cell? ⟨(ad.add (i.toNat * 14)).block, (ad.add (i.toNat * 14)).off + 4, none⟩ = some (.int .i64 (bM xs i).f4.f0) ∧ w.cell? ⟨(ad.add (i.toNat * 14)).block, (ad.add (i.toNat * 14)).off + 5, none⟩ = some (.int .i64 (bM xs i).f4.f1) ∧ w.cell? ⟨(ad.add (i.toNat * 14)).block, (ad.add (i.toNat * 14)).off + 6, none⟩ = some (.int .i64 (bM xs i).f4.f2) ∧ w.cell? ⟨(ad.add (i.toNat * 14)).block, (ad.add (i.toNat * 14)).off + 7, none⟩ = some (.int .i64 (bM xs i).f4.f3.f0) ∧ w.cell? ⟨(ad.add (i.toNat * 14)).block, (ad.add (i.toNat * 14)).off + 8, none⟩ = some (.int .i64 (bM xs i).f4.f3.f1) ∧ w.cell? ⟨(ad.add (i.toNat * 14)).block, (ad.add (i.toNat * 14)).off + 9, none⟩ = some (.string (bM xs i).f4.f3.f2) ∧ w.cell? ⟨(ad.add (i.toNat * 14)).block, (ad.add (i.toNat * 14)).off + 10, none⟩ = some (.slice A10 (bM xs i).f5.length c10) ∧ w.cell? ⟨(ad.add (i.toNat * 14)).block, (ad.add (i.toNat * 14)).off + 11, none⟩ = some (.slice A11 (bM xs i).f6.length c11) ∧ w.cell? ⟨(ad.add (i.toNat * 14)).block, (ad.add (i.toNat * 14)).off + 12, none⟩ = some (.int .i64 (bM xs i).f7) ∧ w.cell? ⟨(ad.add (i.toNat * 14)).block, (ad.add (i.toNat * 14)).off + 13, none⟩ = some (.int .i64 (bM xs i).f8) ∧ (bM xs i).f5.length ≤ c10 ∧ (Kd.int .i64).C w A10 (bM xs i).f5.length (bM xs i).f5 ∧ (bM xs i).f6.length ≤ c11 ∧ (Kd.int .i64).C w A11 (bM xs i).f6.length (bM xs i).f6 := by
 obtain ⟨ad, c, e, _, hK, hc0⟩ := C_get h z34 i h0 h1
 have hc : ∀ j u, c[j]? = some u → w.cell? (ad.add (i.toNat * 14 + j)) = some u := hc0
 obtain ⟨A10, c10, A11, c11, rfl, l10, g10, l11, g11⟩ := k34_open hK
 exact ⟨ad, A10, c10, A11, c11, e, hc 0 _ rfl, by rw [← dD _ _ 1 z5_]; exact hc 1 _ rfl, by rw [← dD _ _ 2 z5_]; exact hc 2 _ rfl, by rw [← dD _ _ 3 z5_]; exact hc 3 _ rfl, by rw [← dD _ _ 4 z5_]; exact hc 4 _ rfl, by rw [← dD _ _ 5 z5_]; exact hc 5 _ rfl, by rw [← dD _ _ 6 z5_]; exact hc 6 _ rfl, by rw [← dD _ _ 7 z5_]; exact hc 7 _ rfl, by rw [← dD _ _ 8 z5_]; exact hc 8 _ rfl, by rw [← dD _ _ 9 z5_]; exact hc 9 _ rfl, by rw [← dD _ _ 10 z5_]; exact hc 10 _ rfl, by rw [← dD _ _ 11 z5_]; exact hc 11 _ rfl, by rw [← dD _ _ 12 z5_]; exact hc 12 _ rfl, by rw [← dD _ _ 13 z5_]; exact hc 13 _ rfl, l10, g10, l11, g11⟩
structure S66 where
 f0 : (List Int)
 f1 : Int
 f2 : Int
def k66 : Kd S66 := Kd.iso (Kd.pair (Kd.slice 3 (Kd.int .i64)) (Kd.pair (Kd.int .i64) (Kd.int .i64))) (fun x : S66 => (x.f0, x.f1, x.f2))
end Go.Proofs.Ytimbbaoodjhdoaa.PAll
end
section
namespace Go.Proofs.Ytimbbaoodjhdoaa.PAll
open Go.RowKit PrintWords PrintLast PrintMore ZipT PrintWords.Kd PrintMore.Kd
attribute [local go_sem] eC eA eM eK dP dR dZ eB   -- for this text's walks alone
set_option linter.unusedVariables false
set_option linter.unusedSimpArgs false
def bH.l0 : Nat → List (S54) → Int → Option (Bool)
 | 0, _, _ => none
 | k + 1, x0, x3 => if x3 < (x0.length : Int) then (if 0 ≤ x3 then (if (((cN x0 x3).f0).length : Int) > 30 then (some true) else (bH.l0 k x0 (wrap64 (x3 + 1)))) else (none)) else (some false)
def bH.f (k : Nat) (l0 : List (S54)) : Option (Bool) := if (l0.length : Int) > 30 then (some true) else (bH.l0 k l0 0)
theorem bH.calls (k : Nat) (A0 : Option Addr) (c0 : Nat) (l0 : List (S54)) (r : Bool) (w : World) (hr0 : Kd.C k54 w A0 l0.length l0) (hc0 : l0.length ≤ c0) (h : bH.f k l0 = some r) :
  Calls Try.prog 10 #[.slice A0 l0.length c0] w fun e w' => e = .returned (.bool r) ∧ Drawn0 w w' := by
 have HR0 := mk_ hr0
 have HC0 := mk_ hc0
 clear hr0 hc0
 have H : (if (l0.length : Int) > 30 then (some true) else (bH.l0 k l0 0)) = some r := h
 clear h
 by_cases c2 : (l0.length : Int) > 30
 ·
  rw [if_pos c2] at H
  have c2b0 : decide (30 < (l0.length : Int)) = true := decide_eq_true c2
  have c2b1 : decide (30 < l0.length) = true := decide_eq_true z5_
  clear c2
  obtain rfl := Option.some.inj H
  go_enter Try.func10, Try.ntmps10
  go_wp2
  go_ret
  exact ⟨z9_, by repeat (first | exact Drawn0.refl _ | apply Drawn0.step)⟩
 rw [if_neg c2] at H
 have c2b0 : decide (30 < (l0.length : Int)) = false := decide_eq_false c2
 have c2b1 : decide (30 < l0.length) = false := decide_eq_false z5_
 clear c2
 have H' := mk_ H
 clear H
 go_enter Try.func10, Try.ntmps10
 go_wp2
 go_loopg [3] k (fun kq v3 w' => ∃ (x3_1 : Int), v3 = .int .i64 x3_1 ∧ Aside0 (bH.l0 kq l0 x3_1 = some r) ∧ Aside0 (kq ≤ k) ∧ Drawn0 w w')
 case atStart => exact ⟨(0), z9_, H', ⟨Nat.le_refl _⟩, by repeat (first | exact Drawn0.refl _ | apply Drawn0.step)⟩
 case round =>
  clear H'
  try clear c1
  try clear c2
  try clear c2b0
  try clear c2b1
  try clear p2
  obtain ⟨x3_1, rfl, HA, HK1, ⟨m1, rfl⟩⟩ := hrel
  cases gk with
  | zero => exact absurd HA.out (by simp [bH.l0])
  | succ k1 =>
   have H := HA.out
   clear HA
   simp only [bH.l0] at H
   by_cases c3 : x3_1 < (l0.length : Int)
   rotate_left
   ·
    rw [if_neg c3] at H
    have c3b0 : decide (x3_1 < (l0.length : Int)) = false := decide_eq_false c3
    clear c3
    obtain rfl := Option.some.inj H
    go_wp2
    go_ret
    exact ⟨z9_, by repeat (first | exact Drawn0.refl _ | apply Drawn0.step)⟩
   rw [if_pos c3] at H
   have c3b0 : decide (x3_1 < (l0.length : Int)) = true := decide_eq_true c3
   clear c3
   by_cases c4 : 0 ≤ x3_1
   rotate_left
   ·
    rw [if_neg c4] at H
    exact absurd H (by simp)
   rw [if_pos c4] at H
   have c4b0 : decide (0 ≤ x3_1) = true := decide_eq_true c4
   clear c4
   by_cases c5 : (((cN l0 x3_1).f0).length : Int) > 30
   ·
    rw [if_pos c5] at H
    have c5b0 : decide (30 < (((cN l0 x3_1).f0).length : Int)) = true := decide_eq_true c5
    have c5b1 : decide (30 < ((cN l0 x3_1).f0).length) = true := decide_eq_true z5_
    clear c5
    obtain rfl := Option.some.inj H
    have p101 : 0 ≤ (x3_1 : Int) := of_decide_eq_true z4_
    have q101 : x3_1 < (l0.length : Int) := of_decide_eq_true z4_
    obtain ⟨ad101, A101_0, c101_0, e101, hx101_0, hl101_0, hi101_0⟩ := eP HR0.out x3_1 p101 q101
    cases e101
    have HR101_0 := mk_ hi101_0
    have HC101_0 := mk_ hl101_0
    clear hi101_0 hl101_0
    replace p101 := eq_true p101
    replace q101 := eq_true q101
    go_wp2
    go_ret
    exact ⟨z9_, by repeat (first | exact Drawn0.refl _ | apply Drawn0.step)⟩
   rw [if_neg c5] at H
   have c5b0 : decide (30 < (((cN l0 x3_1).f0).length : Int)) = false := decide_eq_false c5
   have c5b1 : decide (30 < ((cN l0 x3_1).f0).length) = false := decide_eq_false z5_
   clear c5
   have H' := mk_ H
   clear H
   have p101 : 0 ≤ (x3_1 : Int) := of_decide_eq_true z4_
   have q101 : x3_1 < (l0.length : Int) := of_decide_eq_true z4_
   obtain ⟨ad101, A101_0, c101_0, e101, hx101_0, hl101_0, hi101_0⟩ := eP HR0.out x3_1 p101 q101
   cases e101
   have HR101_0 := mk_ hi101_0
   have HC101_0 := mk_ hl101_0
   clear hi101_0 hl101_0
   replace p101 := eq_true p101
   replace q101 := eq_true q101
   go_wp2
   go_roundg k1
   case measure => have := HK1.out; omega
   case rel => exact ⟨(wrap64 (x3_1 + 1)), z9_, H', ⟨by have := HK1.out; omega⟩, by repeat (first | exact Drawn0.refl _ | apply Drawn0.step)⟩
def bX.f (a0 : Int) (a1 : Int) (a2 : Int) : Option (Bool) := if a0 ≥ a1 then (some (decide (a0 ≤ a2))) else (some false)
theorem bX.calls (a0 : Int) (a1 : Int) (a2 : Int) (r : Bool) (w : World) (h : bX.f a0 a1 a2 = some r) :
  Calls Try.prog 34 #[.int .i64 a0, .int .i64 a1, .int .i64 a2] w fun e w' => e = .returned (.bool r) ∧ Drawn0 w w' := by
 have H : (if a0 ≥ a1 then (some (decide (a0 ≤ a2))) else (some false)) = some r := h
 clear h
 by_cases c4 : a0 ≥ a1
 ·
  rw [if_pos c4] at H
  have c4b0 : decide (a1 ≤ a0) = true := decide_eq_true c4
  clear c4
  obtain rfl := Option.some.inj H
  go_enter Try.func34, Try.ntmps34
  go_wp2
  go_ret
  exact ⟨z9_, by repeat (first | exact Drawn0.refl _ | apply Drawn0.step)⟩
 rw [if_neg c4] at H
 have c4b0 : decide (a1 ≤ a0) = false := decide_eq_false c4
 clear c4
 obtain rfl := Option.some.inj H
 go_enter Try.func34, Try.ntmps34
 go_wp2
 go_ret
 exact ⟨z9_, by repeat (first | exact Drawn0.refl _ | apply Drawn0.step)⟩
def cH.f (a0 : Int) : Option (Bool) := (bX.f a0 2 4).bind fun t102 => (some t102)
theorem cH.calls (a0 : Int) (r : Bool) (w : World) (h : cH.f a0 = some r) :
  Calls Try.prog 35 #[.int .i64 a0] w fun e w' => e = .returned (.bool r) ∧ Drawn0 w w' := by
 have H : ((bX.f a0 2 4).bind fun t102 => (some t102)) = some r := h
 clear h
 replace H := Option.bind_eq_some_iff.mp H
 obtain ⟨t102, A20, H⟩ := H
 replace H : (some t102) = some r := H
 have A2 := mk_ A20
 clear A20
 obtain rfl := Option.some.inj H
 go_enter Try.func35, Try.ntmps35
 go_wp2_with (first | ((with_reducible refine bB (f := 34) rfl ?_); refine Short.gL (some 4) Try.func34 #[.int .i64 a0, .int .i64 2, .int .i64 4] (h := ?_); (with_reducible refine (bX.calls a0 2 4 t102 _ A2.out).mono ?_); rintro e w' ⟨rfl, ⟨nd, rfl⟩⟩; refine ⟨_, rfl, ?_⟩))
 go_ret
 exact ⟨z9_, by repeat (first | exact Drawn0.refl _ | apply Drawn0.step)⟩
mutual
def raddleref01_Forms.l0 : Nat → List (S54) → Int → Option (Int)
 | 0, _, _ => none
 | k + 1, x0, x3 => if x3 < (x0.length : Int) then (if 0 ≤ x3 then ((bX.f (((cN x0 x3).f0).length : Int) 1 4).bind fun t105 => (if t105 = true then (raddleref01_Forms.l0 k x0 (wrap64 (x3 + 1))) else (some 2))) else (none)) else (raddleref01_Forms.l1 k x0 0)
def raddleref01_Forms.l1 : Nat → List (S54) → Int → Option (Int)
 | 0, _, _ => none
 | k + 1, x0, x4 => if x4 < (x0.length : Int) then (raddleref01_Forms.l2 k x0 x4 0) else (some 0)
def raddleref01_Forms.l2 : Nat → List (S54) → Int → Int → Option (Int)
 | 0, _, _, _ => none
 | k + 1, x0, x4, x5 => if 0 ≤ x4 then (if x4 < (x0.length : Int) then (if x5 < (((cN x0 x4).f0).length : Int) then (if 0 ≤ x5 then ((cH.f (rd ((cN x0 x4).f0) x5)).bind fun t109 => (if t109 = true then (raddleref01_Forms.l2 k x0 x4 (wrap64 (x5 + 1))) else (some 10))) else (none)) else (raddleref01_Forms.l1 k x0 (wrap64 (x4 + 1)))) else (none)) else (none)
end
def raddleref01_Forms.f (k : Nat) (l0 : List (S54)) : Option (Int) := (bX.f (l0.length : Int) 1 3).bind fun t103 => (if t103 = true then (raddleref01_Forms.l0 k l0 0) else (some 2))
theorem raddleref01_Forms.calls (k : Nat) (A0 : Option Addr) (c0 : Nat) (l0 : List (S54)) (r : Int) (w : World) (hr0 : Kd.C k54 w A0 l0.length l0) (hc0 : l0.length ≤ c0) (h : raddleref01_Forms.f k l0 = some r) :
  Calls Try.prog 25 #[.slice A0 l0.length c0] w fun e w' => e = .returned (.int .i64 r) ∧ Drawn0 w w' := by
 have HR0 := mk_ hr0
 have HC0 := mk_ hc0
 clear hr0 hc0
 have H : ((bX.f (l0.length : Int) 1 3).bind fun t103 => (if t103 = true then (raddleref01_Forms.l0 k l0 0) else (some 2))) = some r := h
 clear h
 replace H := Option.bind_eq_some_iff.mp H
 obtain ⟨t103, A20, H⟩ := H
 replace H : (if t103 = true then (raddleref01_Forms.l0 k l0 0) else (some 2)) = some r := H
 have A2 := mk_ A20
 clear A20
 by_cases c3 : t103 = true
 rotate_left
 ·
  replace c3 := Bool.eq_false_iff.mpr c3
  subst c3
  rw [if_neg (show ¬ (false = true) by decide)] at H
  obtain rfl := Option.some.inj H
  go_enter Try.func25, Try.ntmps25
  go_wp2_with (first | ((with_reducible refine bB (f := 34) rfl ?_); refine Short.gL (some 8) Try.func34 #[.int .i64 (l0.length : Int), .int .i64 1, .int .i64 3] (h := ?_); (with_reducible refine (bX.calls (l0.length : Int) 1 3 false _ A2.out).mono ?_); rintro e w' ⟨rfl, ⟨nd, rfl⟩⟩; refine ⟨_, rfl, ?_⟩))
  go_ret
  exact ⟨z9_, by repeat (first | exact Drawn0.refl _ | apply Drawn0.step)⟩
 subst c3
 rw [if_pos rfl] at H
 have H' := mk_ H
 clear H
 go_enter Try.func25, Try.ntmps25
 go_wp2_with (first | ((with_reducible refine bB (f := 34) rfl ?_); refine Short.gL (some 8) Try.func34 #[.int .i64 (l0.length : Int), .int .i64 1, .int .i64 3] (h := ?_); (with_reducible refine (bX.calls (l0.length : Int) 1 3 true _ A2.out).mono ?_); rintro e w' ⟨rfl, ⟨nd, rfl⟩⟩; refine ⟨_, rfl, ?_⟩))
 go_loopg [3] k (fun kq v3 w' => ∃ (x3_1 : Int), v3 = .int .i64 x3_1 ∧ Aside0 (raddleref01_Forms.l0 kq l0 x3_1 = some r) ∧ Aside0 (kq ≤ k) ∧ Drawn0 w w')
 case atStart => exact ⟨(0), z9_, H', ⟨Nat.le_refl _⟩, by repeat (first | exact Drawn0.refl _ | apply Drawn0.step)⟩
 case round =>
  clear H'
  try clear c2
  try clear p2
  try clear c3
  obtain ⟨x3_1, rfl, HA, HK1, ⟨m1, rfl⟩⟩ := hrel
  cases gk with
  | zero => exact absurd HA.out (by simp [raddleref01_Forms.l0])
  | succ k1 =>
   have H := HA.out
   clear HA
   simp only [raddleref01_Forms.l0] at H
   by_cases c4 : x3_1 < (l0.length : Int)
   ·
    rw [if_pos c4] at H
    have c4b0 : decide (x3_1 < (l0.length : Int)) = true := decide_eq_true c4
    clear c4
    by_cases c5 : 0 ≤ x3_1
    rotate_left
    ·
     rw [if_neg c5] at H
     exact absurd H (by simp)
    rw [if_pos c5] at H
    have c5b0 : decide (0 ≤ x3_1) = true := decide_eq_true c5
    clear c5
    replace H := Option.bind_eq_some_iff.mp H
    obtain ⟨t105, A60, H⟩ := H
    replace H : (if t105 = true then (raddleref01_Forms.l0 k1 l0 (wrap64 (x3_1 + 1))) else (some 2)) = some r := H
    have A6 := mk_ A60
    clear A60
    by_cases c7 : t105 = true
    rotate_left
    ·
     replace c7 := Bool.eq_false_iff.mpr c7
     subst c7
     rw [if_neg (show ¬ (false = true) by decide)] at H
     obtain rfl := Option.some.inj H
     have p104 : 0 ≤ (x3_1 : Int) := of_decide_eq_true z4_
     have q104 : x3_1 < (l0.length : Int) := of_decide_eq_true z4_
     obtain ⟨ad104, A104_0, c104_0, e104, hx104_0, hl104_0, hi104_0⟩ := eP HR0.out x3_1 p104 q104
     cases e104
     have HR104_0 := mk_ hi104_0
     have HC104_0 := mk_ hl104_0
     clear hi104_0 hl104_0
     replace p104 := eq_true p104
     replace q104 := eq_true q104
     go_wp2_with (first | ((with_reducible refine bB (f := 34) rfl ?_); refine Short.gL (some 22) Try.func34 #[.int .i64 (((cN l0 x3_1).f0).length : Int), .int .i64 1, .int .i64 4] (h := ?_); (with_reducible refine (bX.calls (((cN l0 x3_1).f0).length : Int) 1 4 false _ A6.out).mono ?_); rintro e w' ⟨rfl, ⟨nd, rfl⟩⟩; refine ⟨_, rfl, ?_⟩))
     go_ret
     exact ⟨z9_, by repeat (first | exact Drawn0.refl _ | apply Drawn0.step)⟩
    subst c7
    rw [if_pos rfl] at H
    have H' := mk_ H
    clear H
    have p104 : 0 ≤ (x3_1 : Int) := of_decide_eq_true z4_
    have q104 : x3_1 < (l0.length : Int) := of_decide_eq_true z4_
    obtain ⟨ad104, A104_0, c104_0, e104, hx104_0, hl104_0, hi104_0⟩ := eP HR0.out x3_1 p104 q104
    cases e104
    have HR104_0 := mk_ hi104_0
    have HC104_0 := mk_ hl104_0
    clear hi104_0 hl104_0
    replace p104 := eq_true p104
    replace q104 := eq_true q104
    go_wp2_with (first | ((with_reducible refine bB (f := 34) rfl ?_); refine Short.gL (some 22) Try.func34 #[.int .i64 (((cN l0 x3_1).f0).length : Int), .int .i64 1, .int .i64 4] (h := ?_); (with_reducible refine (bX.calls (((cN l0 x3_1).f0).length : Int) 1 4 true _ A6.out).mono ?_); rintro e w' ⟨rfl, ⟨nd, rfl⟩⟩; refine ⟨_, rfl, ?_⟩))
    go_roundg k1
    case measure => have := HK1.out; omega
    case rel => exact ⟨(wrap64 (x3_1 + 1)), z9_, H', ⟨by have := HK1.out; omega⟩, by repeat (first | exact Drawn0.refl _ | apply Drawn0.step)⟩
   rw [if_neg c4] at H
   have c4b0 : decide (x3_1 < (l0.length : Int)) = false := decide_eq_false c4
   clear c4
   have H' := mk_ H
   clear H
   go_wp2
   go_loopg [4] k1 (fun kq v4 w' => ∃ (x4_2 : Int), v4 = .int .i64 x4_2 ∧ Aside0 (raddleref01_Forms.l1 kq l0 x4_2 = some r) ∧ Aside0 (kq ≤ k1) ∧ Drawn0 w w')
   case atStart => exact ⟨(0), z9_, H', ⟨Nat.le_refl _⟩, by repeat (first | exact Drawn0.refl _ | apply Drawn0.step)⟩
   case round =>
    clear H'
    try clear c1
    try clear p1
    try clear q1
    try clear hx1
    try clear c2
    try clear p2
    try clear c3
    try clear c4
    try clear c4b0
    try clear c5
    try clear c5b0
    try clear p6
    try clear c7
    try clear hx104_0
    try clear p104
    try clear p2
    try clear q104
    obtain ⟨x4_2, rfl, HA, HK2, ⟨m2, rfl⟩⟩ := hrel
    cases gk with
    | zero => exact absurd HA.out (by simp [raddleref01_Forms.l1])
    | succ k2 =>
     have H := HA.out
     clear HA
     simp only [raddleref01_Forms.l1] at H
     by_cases c8 : x4_2 < (l0.length : Int)
     rotate_left
     ·
      rw [if_neg c8] at H
      have c8b0 : decide (x4_2 < (l0.length : Int)) = false := decide_eq_false c8
      clear c8
      obtain rfl := Option.some.inj H
      go_wp2
      go_ret
      exact ⟨z9_, by repeat (first | exact Drawn0.refl _ | apply Drawn0.step)⟩
     rw [if_pos c8] at H
     have c8b0 : decide (x4_2 < (l0.length : Int)) = true := decide_eq_true c8
     clear c8
     have H' := mk_ H
     clear H
     go_wp2
     go_loopg [5] k2 (fun kq v5 w' => ∃ (x5_3 : Int), v5 = .int .i64 x5_3 ∧ Aside0 (raddleref01_Forms.l2 kq l0 x4_2 x5_3 = some r) ∧ Aside0 (kq ≤ k2) ∧ Drawn0 w w')
     case atStart => exact ⟨(0), z9_, H', ⟨Nat.le_refl _⟩, by repeat (first | exact Drawn0.refl _ | apply Drawn0.step)⟩
     case round =>
      clear H'
      try clear c1
      try clear p1
      try clear q1
      try clear hx1
      try clear c2
      try clear p2
      try clear c3
      try clear c4
      try clear c4b0
      try clear c5
      try clear c5b0
      try clear p6
      try clear c7
      try clear c8
      try clear c8b0
      try clear hx104_0
      try clear p1
      try clear p104
      try clear p2
      try clear p6
      try clear q1
      try clear q104
      obtain ⟨x5_3, rfl, HA, HK3, ⟨m3, rfl⟩⟩ := hrel
      cases gk with
      | zero => exact absurd HA.out (by simp [raddleref01_Forms.l2])
      | succ k3 =>
       have H := HA.out
       clear HA
       simp only [raddleref01_Forms.l2] at H
       by_cases c9 : 0 ≤ x4_2
       rotate_left
       ·
        rw [if_neg c9] at H
        exact absurd H (by simp)
       rw [if_pos c9] at H
       have c9b0 : decide (0 ≤ x4_2) = true := decide_eq_true c9
       clear c9
       by_cases c10 : x4_2 < (l0.length : Int)
       rotate_left
       ·
        rw [if_neg c10] at H
        exact absurd H (by simp)
       rw [if_pos c10] at H
       have c10b0 : decide (x4_2 < (l0.length : Int)) = true := decide_eq_true c10
       clear c10
       by_cases c11 : x5_3 < (((cN l0 x4_2).f0).length : Int)
       rotate_left
       ·
        rw [if_neg c11] at H
        have c11b0 : decide (x5_3 < (((cN l0 x4_2).f0).length : Int)) = false := decide_eq_false c11
        clear c11
        have H' := mk_ H
        clear H
        have p106 : 0 ≤ (x4_2 : Int) := of_decide_eq_true z4_
        have q106 : x4_2 < (l0.length : Int) := of_decide_eq_true z4_
        obtain ⟨ad106, A106_0, c106_0, e106, hx106_0, hl106_0, hi106_0⟩ := eP HR0.out x4_2 p106 q106
        cases e106
        have HR106_0 := mk_ hi106_0
        have HC106_0 := mk_ hl106_0
        clear hi106_0 hl106_0
        replace p106 := eq_true p106
        replace q106 := eq_true q106
        go_wp2
        go_roundg k3
        case measure => have := HK1.out; have := HK2.out; have := HK3.out; omega
        case rel => exact ⟨(wrap64 (x4_2 + 1)), z9_, H', ⟨by have := HK1.out; have := HK2.out; have := HK3.out; omega⟩, by repeat (first | exact Drawn0.refl _ | apply Drawn0.step)⟩
       rw [if_pos c11] at H
       have c11b0 : decide (x5_3 < (((cN l0 x4_2).f0).length : Int)) = true := decide_eq_true c11
       clear c11
       by_cases c12 : 0 ≤ x5_3
       rotate_left
       ·
        rw [if_neg c12] at H
        exact absurd H (by simp)
       rw [if_pos c12] at H
       have c12b0 : decide (0 ≤ x5_3) = true := decide_eq_true c12
       clear c12
       replace H := Option.bind_eq_some_iff.mp H
       obtain ⟨t109, A130, H⟩ := H
       replace H : (if t109 = true then (raddleref01_Forms.l2 k3 l0 x4_2 (wrap64 (x5_3 + 1))) else (some 10)) = some r := H
       have A13 := mk_ A130
       clear A130
       by_cases c14 : t109 = true
       rotate_left
       ·
        replace c14 := Bool.eq_false_iff.mpr c14
        subst c14
        rw [if_neg (show ¬ (false = true) by decide)] at H
        obtain rfl := Option.some.inj H
        have p106 : 0 ≤ (x4_2 : Int) := of_decide_eq_true z4_
        have q106 : x4_2 < (l0.length : Int) := of_decide_eq_true z4_
        obtain ⟨ad106, A106_0, c106_0, e106, hx106_0, hl106_0, hi106_0⟩ := eP HR0.out x4_2 p106 q106
        cases e106
        have HR106_0 := mk_ hi106_0
        have HC106_0 := mk_ hl106_0
        clear hi106_0 hl106_0
        replace p106 := eq_true p106
        replace q106 := eq_true q106
        have p107 : 0 ≤ (x4_2 : Int) := of_decide_eq_true z4_
        have q107 : x4_2 < (l0.length : Int) := of_decide_eq_true z4_
        obtain ⟨ad107, A107_0, c107_0, e107, hx107_0, hl107_0, hi107_0⟩ := eP HR0.out x4_2 p107 q107
        obtain rfl : ad106 = ad107 := (by injection e107)
        have HR107_0 := mk_ hi107_0
        have HC107_0 := mk_ hl107_0
        clear hi107_0 hl107_0
        replace p107 := eq_true p107
        replace q107 := eq_true q107
        have ea_ := Option.some.inj (hx106_0.symm.trans hx107_0)
        injection ea_ with ea_ en_ ec_
        subst ea_
        subst ec_
        clear en_
        have p108 : 0 ≤ (x5_3 : Int) := of_decide_eq_true z4_
        have q108 : x5_3 < (((cN l0 x4_2).f0).length : Int) := of_decide_eq_true z4_
        obtain ⟨ad108, e108, hx108_0⟩ := Kd.at_int HR107_0.out x5_3 p108 q108
        cases e108
        replace p108 := eq_true p108
        replace q108 := eq_true q108
        go_wp2_with (first | ((with_reducible refine bB (f := 35) rfl ?_); refine Short.gL (some 48) Try.func35 #[.int .i64 (rd ((cN l0 x4_2).f0) x5_3)] (h := ?_); (with_reducible refine (cH.calls (rd ((cN l0 x4_2).f0) x5_3) false _ A13.out).mono ?_); rintro e w' ⟨rfl, ⟨nd, rfl⟩⟩; refine ⟨_, rfl, ?_⟩))
        go_ret
        exact ⟨z9_, by repeat (first | exact Drawn0.refl _ | apply Drawn0.step)⟩
       subst c14
       rw [if_pos rfl] at H
       have H' := mk_ H
       clear H
       have p106 : 0 ≤ (x4_2 : Int) := of_decide_eq_true z4_
       have q106 : x4_2 < (l0.length : Int) := of_decide_eq_true z4_
       obtain ⟨ad106, A106_0, c106_0, e106, hx106_0, hl106_0, hi106_0⟩ := eP HR0.out x4_2 p106 q106
       cases e106
       have HR106_0 := mk_ hi106_0
       have HC106_0 := mk_ hl106_0
       clear hi106_0 hl106_0
       replace p106 := eq_true p106
       replace q106 := eq_true q106
       have p107 : 0 ≤ (x4_2 : Int) := of_decide_eq_true z4_
       have q107 : x4_2 < (l0.length : Int) := of_decide_eq_true z4_
       obtain ⟨ad107, A107_0, c107_0, e107, hx107_0, hl107_0, hi107_0⟩ := eP HR0.out x4_2 p107 q107
       obtain rfl : ad106 = ad107 := (by injection e107)
       have HR107_0 := mk_ hi107_0
       have HC107_0 := mk_ hl107_0
       clear hi107_0 hl107_0
       replace p107 := eq_true p107
       replace q107 := eq_true q107
       have ea_ := Option.some.inj (hx106_0.symm.trans hx107_0)
       injection ea_ with ea_ en_ ec_
       subst ea_
       subst ec_
       clear en_
       have p108 : 0 ≤ (x5_3 : Int) := of_decide_eq_true z4_
       have q108 : x5_3 < (((cN l0 x4_2).f0).length : Int) := of_decide_eq_true z4_
       obtain ⟨ad108, e108, hx108_0⟩ := Kd.at_int HR107_0.out x5_3 p108 q108
       cases e108
       replace p108 := eq_true p108
       replace q108 := eq_true q108
       go_wp2_with (first | ((with_reducible refine bB (f := 35) rfl ?_); refine Short.gL (some 48) Try.func35 #[.int .i64 (rd ((cN l0 x4_2).f0) x5_3)] (h := ?_); (with_reducible refine (cH.calls (rd ((cN l0 x4_2).f0) x5_3) true _ A13.out).mono ?_); rintro e w' ⟨rfl, ⟨nd, rfl⟩⟩; refine ⟨_, rfl, ?_⟩))
       go_roundg k3
       case measure => have := HK1.out; have := HK2.out; have := HK3.out; omega
       case rel => exact ⟨(wrap64 (x5_3 + 1)), z9_, H', ⟨by have := HK1.out; have := HK2.out; have := HK3.out; omega⟩, by repeat (first | exact Drawn0.refl _ | apply Drawn0.step)⟩
def raddleref14_in.f (a0 : Int) (a1 : Int) (a2 : Int) : Option (Bool) := if a0 ≥ a1 then (some (decide (a0 ≤ a2))) else (some false)
theorem raddleref14_in.calls (a0 : Int) (a1 : Int) (a2 : Int) (r : Bool) (w : World) (h : raddleref14_in.f a0 a1 a2 = some r) :
  Calls Try.prog 26 #[.int .i64 a0, .int .i64 a1, .int .i64 a2] w fun e w' => e = .returned (.bool r) ∧ Drawn0 w w' := by
 have H : (if a0 ≥ a1 then (some (decide (a0 ≤ a2))) else (some false)) = some r := h
 clear h
 by_cases c4 : a0 ≥ a1
 ·
  rw [if_pos c4] at H
  have c4b0 : decide (a1 ≤ a0) = true := decide_eq_true c4
  clear c4
  obtain rfl := Option.some.inj H
  go_enter Try.func26, Try.ntmps26
  go_wp2
  go_ret
  exact ⟨z9_, by repeat (first | exact Drawn0.refl _ | apply Drawn0.step)⟩
 rw [if_neg c4] at H
 have c4b0 : decide (a1 ≤ a0) = false := decide_eq_false c4
 clear c4
 obtain rfl := Option.some.inj H
 go_enter Try.func26, Try.ntmps26
 go_wp2
 go_ret
 exact ⟨z9_, by repeat (first | exact Drawn0.refl _ | apply Drawn0.step)⟩
def raddlekeep_Ints.l0 : Nat → List Int → List Int → Int → Option (Bool)
 | 0, _, _, _ => none
 | k + 1, x0, x1, x5 => if x5 < (x0.length : Int) then (if 0 ≤ x5 then (if x5 < (x1.length : Int) then (if (rd x0 x5) = (rd x1 x5) then (raddlekeep_Ints.l0 k x0 x1 (wrap64 (x5 + 1))) else (some false)) else (none)) else (none)) else (some true)
def raddlekeep_Ints.f (k : Nat) (l0 : List Int) (l1 : List Int) : Option (Bool) := if (l0.length : Int) = (l1.length : Int) then (raddlekeep_Ints.l0 k l0 l1 0) else (some false)
theorem raddlekeep_Ints.mono_l : ∀ k, (∀ y0 y1 y2, LeO (raddlekeep_Ints.l0 k y0 y1 y2) (raddlekeep_Ints.l0 (k + 1) y0 y1 y2))
 | 0 => fun _ _ _ r h => by simp [raddlekeep_Ints.l0] at h
 | k + 1 => by
  have ih0 := raddlekeep_Ints.mono_l k
  ·
   intro y0 y1 y2
   unfold raddlekeep_Ints.l0
   repeat' first
   | (with_reducible exact ih0 _ _ _)
   | (with_reducible exact LeO.refl _)
   | (with_reducible exact LeO.none _)
   | (with_reducible refine LeO.ite ?_ ?_)
   | (with_reducible refine LeO.bind ?_ (fun _ => ?_))
   | exact ih0 _ _ _
   | exact LeO.none _
   | refine LeO.ite ?_ ?_
   | refine LeO.bind ?_ (fun _ => ?_)
theorem raddlekeep_Ints.mono : ∀ a0 a1 k, LeO (raddlekeep_Ints.f k a0 a1) (raddlekeep_Ints.f (k + 1) a0 a1) := by
 intro a0 a1 k
 have ih0 := raddlekeep_Ints.mono_l k
 unfold raddlekeep_Ints.f
 repeat' first
   | (with_reducible exact ih0 _ _ _)
   | (with_reducible exact LeO.refl _)
   | (with_reducible exact LeO.none _)
   | (with_reducible refine LeO.ite ?_ ?_)
   | (with_reducible refine LeO.bind ?_ (fun _ => ?_))
   | exact ih0 _ _ _
   | exact LeO.none _
   | refine LeO.ite ?_ ?_
   | refine LeO.bind ?_ (fun _ => ?_)
theorem raddlekeep_Ints.calls (k : Nat) (A0 : Option Addr) (c0 : Nat) (l0 : List Int) (A1 : Option Addr) (c1 : Nat) (l1 : List Int) (r : Bool) (w : World) (hr0 : Kd.C (Kd.int .i64) w A0 l0.length l0) (hc0 : l0.length ≤ c0) (hr1 : Kd.C (Kd.int .i64) w A1 l1.length l1) (hc1 : l1.length ≤ c1) (h : raddlekeep_Ints.f k l0 l1 = some r) :
  Calls Try.prog 18 #[.slice A0 l0.length c0, .slice A1 l1.length c1] w fun e w' => e = .returned (.bool r) ∧ Drawn0 w w' := by
 have HR0 := mk_ hr0
 have HC0 := mk_ hc0
 clear hr0 hc0
 have HR1 := mk_ hr1
 have HC1 := mk_ hc1
 clear hr1 hc1
 have H : (if (l0.length : Int) = (l1.length : Int) then (raddlekeep_Ints.l0 k l0 l1 0) else (some false)) = some r := h
 clear h
 by_cases c3 : (l0.length : Int) = (l1.length : Int)
 rotate_left
 ·
  rw [if_neg c3] at H
  have c3b0 : ((l0.length : Int) == (l1.length : Int)) = false := beq_eq_false_iff_ne.mpr c3
  have c3b1 : ((l0.length : Int) != (l1.length : Int)) = true := bne_iff_ne.mpr c3
  have c3b2 : (l0.length == l1.length) = false := by first | simpa using c3 | (simp at c3 ⊢; omega)
  obtain rfl := Option.some.inj H
  go_enter Try.func18, Try.ntmps18
  go_wp2
  repeat (go_quiet (fail); try go_wp2)
  go_ret
  exact ⟨z9_, by repeat (first | exact Drawn0.refl _ | apply Drawn0.step)⟩
 rw [if_pos c3] at H
 have c3b0 : ((l0.length : Int) == (l1.length : Int)) = true := beq_iff_eq.mpr c3
 have c3b1 : ((l0.length : Int) != (l1.length : Int)) = false := bne_eq_false_iff_eq.mpr c3
 have c3b2 : (l0.length == l1.length) = true := by first | simpa using c3 | (simp at c3 ⊢; omega)
 clear c3
 have H' := mk_ H
 clear H
 go_enter Try.func18, Try.ntmps18
 go_wp2
 repeat (go_quiet (fail); try go_wp2)
 go_loopg [5] k (fun kq v5 w' => ∃ (x5_1 : Int), v5 = .int .i64 x5_1 ∧ Aside0 (raddlekeep_Ints.l0 kq l0 l1 x5_1 = some r) ∧ Aside0 (kq ≤ k) ∧ Drawn0 w w')
 case atStart => exact ⟨(0), z9_, H', ⟨Nat.le_refl _⟩, by repeat (first | exact Drawn0.refl _ | apply Drawn0.step)⟩
 case round =>
  clear H'
  try clear c1
  try clear p2
  try clear c3
  try clear c3b0
  try clear c3b1
  try clear c3b2
  obtain ⟨x5_1, rfl, HA, HK1, ⟨m1, rfl⟩⟩ := hrel
  cases gk with
  | zero => exact absurd HA.out (by simp [raddlekeep_Ints.l0])
  | succ k1 =>
   have H := HA.out
   clear HA
   simp only [raddlekeep_Ints.l0] at H
   by_cases c4 : x5_1 < (l0.length : Int)
   rotate_left
   ·
    rw [if_neg c4] at H
    have c4b0 : decide (x5_1 < (l0.length : Int)) = false := decide_eq_false c4
    clear c4
    obtain rfl := Option.some.inj H
    go_wp2
    repeat (go_quiet (fail); try go_wp2)
    go_ret
    exact ⟨z9_, by repeat (first | exact Drawn0.refl _ | apply Drawn0.step)⟩
   rw [if_pos c4] at H
   have c4b0 : decide (x5_1 < (l0.length : Int)) = true := decide_eq_true c4
   clear c4
   by_cases c5 : 0 ≤ x5_1
   rotate_left
   ·
    rw [if_neg c5] at H
    exact absurd H (by simp)
   rw [if_pos c5] at H
   have c5b0 : decide (0 ≤ x5_1) = true := decide_eq_true c5
   clear c5
   by_cases c6 : x5_1 < (l1.length : Int)
   rotate_left
   ·
    rw [if_neg c6] at H
    exact absurd H (by simp)
   rw [if_pos c6] at H
   have c6b0 : decide (x5_1 < (l1.length : Int)) = true := decide_eq_true c6
   clear c6
   by_cases c7 : (rd l0 x5_1) = (rd l1 x5_1)
   rotate_left
   ·
    rw [if_neg c7] at H
    have c7b0 : ((rd l0 x5_1) == (rd l1 x5_1)) = false := beq_eq_false_iff_ne.mpr c7
    have c7b1 : ((rd l0 x5_1) != (rd l1 x5_1)) = true := bne_iff_ne.mpr c7
    obtain rfl := Option.some.inj H
    have p110 : 0 ≤ (x5_1 : Int) := of_decide_eq_true z4_
    have q110 : x5_1 < (l0.length : Int) := of_decide_eq_true z4_
    obtain ⟨ad110, e110, hx110_0⟩ := Kd.at_int HR0.out x5_1 p110 q110
    cases e110
    replace p110 := eq_true p110
    replace q110 := eq_true q110
    have p111 : 0 ≤ (x5_1 : Int) := of_decide_eq_true z4_
    have q111 : x5_1 < (l1.length : Int) := of_decide_eq_true z4_
    obtain ⟨ad111, e111, hx111_0⟩ := Kd.at_int HR1.out x5_1 p111 q111
    cases e111
    replace p111 := eq_true p111
    replace q111 := eq_true q111
    go_wp2
    repeat (go_quiet (fail); try go_wp2)
    go_ret
    exact ⟨z9_, by repeat (first | exact Drawn0.refl _ | apply Drawn0.step)⟩
   rw [if_pos c7] at H
   have c7b0 : ((rd l0 x5_1) == (rd l1 x5_1)) = true := beq_iff_eq.mpr c7
   have c7b1 : ((rd l0 x5_1) != (rd l1 x5_1)) = false := bne_eq_false_iff_eq.mpr c7
   clear c7
   have H' := mk_ H
   clear H
   have p110 : 0 ≤ (x5_1 : Int) := of_decide_eq_true z4_
   have q110 : x5_1 < (l0.length : Int) := of_decide_eq_true z4_
   obtain ⟨ad110, e110, hx110_0⟩ := Kd.at_int HR0.out x5_1 p110 q110
   cases e110
   replace p110 := eq_true p110
   replace q110 := eq_true q110
   have p111 : 0 ≤ (x5_1 : Int) := of_decide_eq_true z4_
   have q111 : x5_1 < (l1.length : Int) := of_decide_eq_true z4_
   obtain ⟨ad111, e111, hx111_0⟩ := Kd.at_int HR1.out x5_1 p111 q111
   cases e111
   replace p111 := eq_true p111
   replace q111 := eq_true q111
   go_wp2
   repeat (go_quiet (fail); try go_wp2)
   go_roundg k1
   case measure => have := HK1.out; omega
   case rel => exact ⟨(wrap64 (x5_1 + 1)), z9_, H', ⟨by have := HK1.out; omega⟩, by repeat (first | exact Drawn0.refl _ | apply Drawn0.step)⟩
def raddlekeep_TwinInts.f (l0 : List Int) : Option (List Int) := if ([] : List Int).length + l0.length < 17592186044416 then (some (([] : List Int) ++ l0)) else (none)
theorem raddlekeep_TwinInts.calls (A0 : Option Addr) (c0 : Nat) (l0 : List Int) (r : List Int) (w : World) (hr0 : Kd.C (Kd.int .i64) w A0 l0.length l0) (hc0 : l0.length ≤ c0) (h : raddlekeep_TwinInts.f l0 = some r) :
  Calls Try.prog 19 #[.slice A0 l0.length c0] w fun e w' => ∃ v0_ : Value, e = .returned (v0_) ∧ Kd.R (Kd.int .i64) 3 w' w.heap.size (fun _ => True) v0_ r ∧ Below w.heap.size w w' := by
 have HR0 := mk_ hr0
 have HC0 := mk_ hc0
 clear hr0 hc0
 have HB := mk_ (Below.refl w.heap.size w)
 have H : (if ([] : List Int).length + l0.length < 17592186044416 then (some (([] : List Int) ++ l0)) else (none)) = some r := h
 clear h
 by_cases c2 : ([] : List Int).length + l0.length < 17592186044416
 rotate_left
 ·
  rw [if_neg c2] at H
  exact absurd H (by simp)
 rw [if_pos c2] at H
 have LMc2 := mk_ c2
 clear c2
 obtain ⟨y112, hy112⟩ : ∃ y_ : List Int, y_ = (([] : List Int) ++ l0) := ⟨_, rfl⟩
 replace H : (some y112) = some r := by first | (rw [hy112]; with_reducible exact H) | (have H2_ := (Option.bind_some _ _).symm.trans H; rw [hy112]; with_reducible exact H2_) | (have H2_ := (Option.bind_some _ _).symm.trans H; with_reducible exact H2_) | with_reducible exact H | (rw [hy112]; exact H) | exact H
 have Ny112 := mk_ hy112
 clear hy112
 obtain rfl := Option.some.inj H
 go_enter Try.func19, Try.ntmps19
 go_wp2_with (first | ((with_reducible refine cZ (b := .append) (xs := #[.tmp 4, .tmp 5]) rfl ?_); at_builtin; refine dV (Kd.int .i64) (w0 := w) w.heap.size rfl (.tmp 4) (.tmp 5) 32 3 (.int .i64 0) 8 rfl Try.underlying32 info3 rfl z10_ z5_ (.slice none 0 0) ([] : List Int) l0 _ _ _ (fun _ => True) (fun _ => False) rfl rfl ?aO ?aR (fun _ _ h => h) (fun _ h => h.elim) ?aF ?aB ?aS ?aL ?_; (case aR => repeat (first | exact HR0.out | (with_reducible refine C_alloc ?_ _) | (with_reducible refine C_drewN ?_ _) | (with_reducible refine C_drew ?_))); (case aB => exact (Short.hB HB)); (case aF => exact (fun _ _ => trivial)); (case aO => exact ((R_nil _ _ _ _ (fun _ => True)))); (case aS => exact (aK (Short.hB HB))); (case aL => have := LMc2.out; omega); intro v113 w3 ho hb hg hat; rw [← Ny112.out] at ho; have n0_ := mk_ (hb); have n1_ := mk_ (ho); clear HB; revert n0_ n1_; intro HB HO114; clear ho hb hg hat))
 go_ret
 exact ⟨_, by first | rfl | (simp [bY, bZ] <;> rfl) | (simp [*, bY, bZ] <;> rfl), by (with_reducible repeat (first | apply R_alloc | apply R_drewN | apply R_drew)); exact HO114.out, Short.hB HB⟩
end Go.Proofs.Ytimbbaoodjhdoaa.PAll
end
section
namespace Go.Proofs.Ytimbbaoodjhdoaa.PAll
open Go.RowKit PrintWords PrintLast PrintMore ZipT PrintWords.Kd PrintMore.Kd
attribute [local go_sem] eC eA eM eK dP dR dZ eB   -- for this text's walks alone
set_option linter.unusedVariables false
set_option linter.unusedSimpArgs false
def plan_pick.l0 : Nat → List Int → List Int → List Int → Int → Int → Option (List Int)
 | 0, _, _, _, _, _ => none
 | k + 1, x0, x5, x8, x9, x10 => if x10 < x9 then (if 0 ≤ x10 then (if x10 < (x8.length : Int) then (if 0 ≤ (rd x8 x10) then (if (rd x8 x10) < (x0.length : Int) then (if x5.length < 17592186044416 then (plan_pick.l0 k x0 (x5 ++ [rd x0 (rd x8 x10)]) x8 x9 (wrap64 (x10 + 1))) else (none)) else (none)) else (none)) else (none)) else (none)) else (some x5)
def plan_pick.f (k : Nat) (l0 : List Int) (l1 : List Int) : Option (List Int) := plan_pick.l0 k l0 ([] : List Int) l1 (l1.length : Int) 0
theorem plan_pick.calls (k : Nat) (A0 : Option Addr) (c0 : Nat) (l0 : List Int) (A1 : Option Addr) (c1 : Nat) (l1 : List Int) (r : List Int) (w : World) (hr0 : Kd.C (Kd.int .i64) w A0 l0.length l0) (hc0 : l0.length ≤ c0) (hr1 : Kd.C (Kd.int .i64) w A1 l1.length l1) (hc1 : l1.length ≤ c1) (h : plan_pick.f k l0 l1 = some r) :
  Calls Try.prog 61 #[.slice A0 l0.length c0, .slice A1 l1.length c1] w fun e w' => ∃ v0_ : Value, e = .returned (v0_) ∧ Kd.R (Kd.int .i64) 3 w' w.heap.size (fun _ => True) v0_ r ∧ Below w.heap.size w w' := by
 have HR0 := mk_ hr0
 have HC0 := mk_ hc0
 clear hr0 hc0
 have HR1 := mk_ hr1
 have HC1 := mk_ hc1
 clear hr1 hc1
 have HB := mk_ (Below.refl w.heap.size w)
 have H : (plan_pick.l0 k l0 ([] : List Int) l1 (l1.length : Int) 0) = some r := h
 clear h
 have H' := mk_ H
 clear H
 go_enter Try.func61, Try.ntmps61
 go_wp2
 go_loopg [5, 10] k (fun kq v5 v10 w' => ∃ (x5_1 : List Int) (x10_1 : Int), v10 = .int .i64 x10_1 ∧ Aside0 (plan_pick.l0 kq l0 x5_1 l1 (l1.length : Int) x10_1 = some r) ∧ Aside0 (kq ≤ k) ∧ Aside0 (Kd.R (Kd.int .i64) 3 w' w.heap.size (fun _ => True) v5 x5_1) ∧ Aside0 (Below w.heap.size w w'))
 case atStart => exact ⟨(([] : List Int)), (0), z9_, H', ⟨Nat.le_refl _⟩, ⟨by first | exact R_nil _ _ _ _ _ | exact N_nil _ _ _ _ _ | exact V_nil _ _ _ _ _ | exact Q_nil _ _ _ _ _ | exact S_nil _ _ _ _ _⟩, ⟨Short.hB HB⟩⟩
 case round =>
  clear H'
  try clear c1
  try clear p2
  obtain ⟨x5_1, x10_1, rfl, HA, HK1, HO_5, HB⟩ := hrel
  cases gk with
  | zero => exact absurd HA.out (by simp [plan_pick.l0])
  | succ k1 =>
   have H := HA.out
   clear HA
   simp only [plan_pick.l0] at H
   by_cases c3 : x10_1 < (l1.length : Int)
   rotate_left
   ·
    rw [if_neg c3] at H
    have c3b0 : decide (x10_1 < (l1.length : Int)) = false := decide_eq_false c3
    clear c3
    obtain rfl := Option.some.inj H
    go_wp2
    go_ret
    exact ⟨_, by first | rfl | (simp [bY, bZ] <;> rfl) | (simp [*, bY, bZ] <;> rfl), by (with_reducible repeat (first | apply R_alloc | apply R_drewN | apply R_drew)); exact HO_5.out, Short.hB HB⟩
   rw [if_pos c3] at H
   have c3b0 : decide (x10_1 < (l1.length : Int)) = true := decide_eq_true c3
   clear c3
   by_cases c4 : 0 ≤ x10_1
   rotate_left
   ·
    rw [if_neg c4] at H
    exact absurd H (by simp)
   rw [if_pos c4] at H
   have c4b0 : decide (0 ≤ x10_1) = true := decide_eq_true c4
   clear c4
   by_cases c5 : x10_1 < (l1.length : Int)
   rotate_left
   ·
    rw [if_neg c5] at H
    exact absurd H (by simp)
   rw [if_pos c5] at H
   have c5b0 : decide (x10_1 < (l1.length : Int)) = true := decide_eq_true c5
   clear c5
   by_cases c6 : 0 ≤ (rd l1 x10_1)
   rotate_left
   ·
    rw [if_neg c6] at H
    exact absurd H (by simp)
   rw [if_pos c6] at H
   have c6b0 : decide (0 ≤ (rd l1 x10_1)) = true := decide_eq_true c6
   clear c6
   by_cases c7 : (rd l1 x10_1) < (l0.length : Int)
   rotate_left
   ·
    rw [if_neg c7] at H
    exact absurd H (by simp)
   rw [if_pos c7] at H
   have c7b0 : decide ((rd l1 x10_1) < (l0.length : Int)) = true := decide_eq_true c7
   clear c7
   by_cases c8 : x5_1.length < 17592186044416
   rotate_left
   ·
    rw [if_neg c8] at H
    exact absurd H (by simp)
   rw [if_pos c8] at H
   have LMc8 := mk_ c8
   clear c8
   obtain ⟨y259, hy259⟩ : ∃ y_ : List Int, y_ = (x5_1 ++ [rd l0 (rd l1 x10_1)]) := ⟨_, rfl⟩
   replace H : (plan_pick.l0 k1 l0 y259 l1 (l1.length : Int) (wrap64 (x10_1 + 1))) = some r := by first | (rw [hy259]; with_reducible exact H) | (have H2_ := (Option.bind_some _ _).symm.trans H; rw [hy259]; with_reducible exact H2_) | (have H2_ := (Option.bind_some _ _).symm.trans H; with_reducible exact H2_) | with_reducible exact H | (rw [hy259]; exact H) | exact H
   have Ny259 := mk_ hy259
   clear hy259
   have H' := mk_ H
   clear H
   have p257 : 0 ≤ (x10_1 : Int) := of_decide_eq_true z4_
   have q257 : x10_1 < (l1.length : Int) := of_decide_eq_true z4_
   obtain ⟨ad257, e257, hx257_0⟩ := Kd.at_int HR1.out x10_1 p257 q257
   cases e257
   replace hx257_0 := up_ HB hx257_0
   replace p257 := eq_true p257
   replace q257 := eq_true q257
   have p258 : 0 ≤ ((rd l1 x10_1) : Int) := of_decide_eq_true z4_
   have q258 : (rd l1 x10_1) < (l0.length : Int) := of_decide_eq_true z4_
   obtain ⟨ad258, e258, hx258_0⟩ := Kd.at_int HR0.out (rd l1 x10_1) p258 q258
   cases e258
   replace hx258_0 := up_ HB hx258_0
   replace p258 := eq_true p258
   replace q258 := eq_true q258
   go_wp2_with (first | ((with_reducible refine cZ (b := .append) (xs := #[.tmp 14, .tmp 19]) rfl ?_); at_builtin; refine fP (Kd.int .i64) (w0 := w) w.heap.size rfl (.tmp 14) (.tmp 19) 32 3 (.int .i64 0) 8 rfl Try.underlying32 info3 rfl z10_ z5_ u5 x5_1 (rd l0 (rd l1 x10_1)) [.int .i64 (rd l0 (rd l1 x10_1))] (fun _ => True) (fun _ => False) rfl rfl ?aP (fun _ hk => hk.elim) ?aF ?aO ?aB ?aS ?aL ?_; (case aP => exact rfl); (case aB => exact (Short.hB HB)); (case aF => exact (fun _ _ => trivial)); (case aO => exact (ZKR HO_5)); (case aS => exact (aK (Short.hB HB))); (case aL => have := LMc8.out; omega); intro v260 w9 ho hb hg hat; rw [← Ny259.out] at ho; have n0_ := mk_ (hb); have n1_ := mk_ (ho); clear HB HO_5; revert n0_ n1_; intro HB HO261; clear ho hb hg hat))
   go_roundg k1
   case measure => have := HK1.out; omega
   case rel => exact ⟨(y259), (wrap64 (x10_1 + 1)), z9_, H', ⟨by have := HK1.out; omega⟩, ⟨by (with_reducible repeat (first | apply R_alloc | apply R_drewN | apply R_drew)); exact HO261.out⟩, ⟨Short.hB HB⟩⟩
def slices_Equal_int_int.l0 : Nat → List Int → List Int → Int → Int → Option (Bool)
 | 0, _, _, _, _ => none
 | k + 1, x0, x1, x12, x13 => if x13 < x12 then (if 0 ≤ x13 then (if x13 < (x0.length : Int) then (if x13 < (x1.length : Int) then (if (rd x0 x13) = (rd x1 x13) then (slices_Equal_int_int.l0 k x0 x1 x12 (wrap64 (x13 + 1))) else (some false)) else (none)) else (none)) else (none)) else (some true)
def slices_Equal_int_int.f (k : Nat) (l0 : List Int) (l1 : List Int) : Option (Bool) := if (l0.length : Int) = (l1.length : Int) then (slices_Equal_int_int.l0 k l0 l1 (l0.length : Int) 0) else (some false)
theorem slices_Equal_int_int.calls (k : Nat) (A0 : Option Addr) (c0 : Nat) (l0 : List Int) (A1 : Option Addr) (c1 : Nat) (l1 : List Int) (r : Bool) (w : World) (hr0 : Kd.C (Kd.int .i64) w A0 l0.length l0) (hc0 : l0.length ≤ c0) (hr1 : Kd.C (Kd.int .i64) w A1 l1.length l1) (hc1 : l1.length ≤ c1) (h : slices_Equal_int_int.f k l0 l1 = some r) :
  Calls Try.prog 62 #[.slice A0 l0.length c0, .slice A1 l1.length c1] w fun e w' => e = .returned (.bool r) ∧ Drawn0 w w' := by
 have HR0 := mk_ hr0
 have HC0 := mk_ hc0
 clear hr0 hc0
 have HR1 := mk_ hr1
 have HC1 := mk_ hc1
 clear hr1 hc1
 have H : (if (l0.length : Int) = (l1.length : Int) then (slices_Equal_int_int.l0 k l0 l1 (l0.length : Int) 0) else (some false)) = some r := h
 clear h
 by_cases c3 : (l0.length : Int) = (l1.length : Int)
 rotate_left
 ·
  rw [if_neg c3] at H
  have c3b0 : ((l0.length : Int) == (l1.length : Int)) = false := beq_eq_false_iff_ne.mpr c3
  have c3b1 : ((l0.length : Int) != (l1.length : Int)) = true := bne_iff_ne.mpr c3
  have c3b2 : (l0.length == l1.length) = false := by first | simpa using c3 | (simp at c3 ⊢; omega)
  obtain rfl := Option.some.inj H
  go_enter Try.func62, Try.ntmps62
  go_wp2
  repeat (go_quiet (fail); try go_wp2)
  go_ret
  exact ⟨z9_, by repeat (first | exact Drawn0.refl _ | apply Drawn0.step)⟩
 rw [if_pos c3] at H
 have c3b0 : ((l0.length : Int) == (l1.length : Int)) = true := beq_iff_eq.mpr c3
 have c3b1 : ((l0.length : Int) != (l1.length : Int)) = false := bne_eq_false_iff_eq.mpr c3
 have c3b2 : (l0.length == l1.length) = true := by first | simpa using c3 | (simp at c3 ⊢; omega)
 clear c3
 have H' := mk_ H
 clear H
 go_enter Try.func62, Try.ntmps62
 go_wp2
 repeat (go_quiet (fail); try go_wp2)
 go_loopg [13] k (fun kq v13 w' => ∃ (x13_1 : Int), v13 = .int .i64 x13_1 ∧ Aside0 (slices_Equal_int_int.l0 kq l0 l1 (l0.length : Int) x13_1 = some r) ∧ Aside0 (kq ≤ k) ∧ Drawn0 w w')
 case atStart => exact ⟨(0), z9_, H', ⟨Nat.le_refl _⟩, by repeat (first | exact Drawn0.refl _ | apply Drawn0.step)⟩
 case round =>
  clear H'
  try clear c1
  try clear p2
  try clear c3
  try clear c3b0
  try clear c3b1
  try clear c3b2
  obtain ⟨x13_1, rfl, HA, HK1, ⟨m1, rfl⟩⟩ := hrel
  cases gk with
  | zero => exact absurd HA.out (by simp [slices_Equal_int_int.l0])
  | succ k1 =>
   have H := HA.out
   clear HA
   simp only [slices_Equal_int_int.l0] at H
   by_cases c4 : x13_1 < (l0.length : Int)
   rotate_left
   ·
    rw [if_neg c4] at H
    have c4b0 : decide (x13_1 < (l0.length : Int)) = false := decide_eq_false c4
    clear c4
    obtain rfl := Option.some.inj H
    go_wp2
    repeat (go_quiet (fail); try go_wp2)
    go_ret
    exact ⟨z9_, by repeat (first | exact Drawn0.refl _ | apply Drawn0.step)⟩
   rw [if_pos c4] at H
   have c4b0 : decide (x13_1 < (l0.length : Int)) = true := decide_eq_true c4
   clear c4
   by_cases c5 : 0 ≤ x13_1
   rotate_left
   ·
    rw [if_neg c5] at H
    exact absurd H (by simp)
   rw [if_pos c5] at H
   have c5b0 : decide (0 ≤ x13_1) = true := decide_eq_true c5
   clear c5
   by_cases c6 : x13_1 < (l0.length : Int)
   rotate_left
   ·
    rw [if_neg c6] at H
    exact absurd H (by simp)
   rw [if_pos c6] at H
   have c6b0 : decide (x13_1 < (l0.length : Int)) = true := decide_eq_true c6
   clear c6
   by_cases c7 : x13_1 < (l1.length : Int)
   rotate_left
   ·
    rw [if_neg c7] at H
    exact absurd H (by simp)
   rw [if_pos c7] at H
   have c7b0 : decide (x13_1 < (l1.length : Int)) = true := decide_eq_true c7
   clear c7
   by_cases c8 : (rd l0 x13_1) = (rd l1 x13_1)
   rotate_left
   ·
    rw [if_neg c8] at H
    have c8b0 : ((rd l0 x13_1) == (rd l1 x13_1)) = false := beq_eq_false_iff_ne.mpr c8
    have c8b1 : ((rd l0 x13_1) != (rd l1 x13_1)) = true := bne_iff_ne.mpr c8
    obtain rfl := Option.some.inj H
    have p266 : 0 ≤ (x13_1 : Int) := of_decide_eq_true z4_
    have q266 : x13_1 < (l0.length : Int) := of_decide_eq_true z4_
    obtain ⟨ad266, e266, hx266_0⟩ := Kd.at_int HR0.out x13_1 p266 q266
    cases e266
    replace p266 := eq_true p266
    replace q266 := eq_true q266
    have p267 : 0 ≤ (x13_1 : Int) := of_decide_eq_true z4_
    have q267 : x13_1 < (l1.length : Int) := of_decide_eq_true z4_
    obtain ⟨ad267, e267, hx267_0⟩ := Kd.at_int HR1.out x13_1 p267 q267
    cases e267
    replace p267 := eq_true p267
    replace q267 := eq_true q267
    go_wp2
    repeat (go_quiet (fail); try go_wp2)
    go_ret
    exact ⟨z9_, by repeat (first | exact Drawn0.refl _ | apply Drawn0.step)⟩
   rw [if_pos c8] at H
   have c8b0 : ((rd l0 x13_1) == (rd l1 x13_1)) = true := beq_iff_eq.mpr c8
   have c8b1 : ((rd l0 x13_1) != (rd l1 x13_1)) = false := bne_eq_false_iff_eq.mpr c8
   clear c8
   have H' := mk_ H
   clear H
   have p266 : 0 ≤ (x13_1 : Int) := of_decide_eq_true z4_
   have q266 : x13_1 < (l0.length : Int) := of_decide_eq_true z4_
   obtain ⟨ad266, e266, hx266_0⟩ := Kd.at_int HR0.out x13_1 p266 q266
   cases e266
   replace p266 := eq_true p266
   replace q266 := eq_true q266
   have p267 : 0 ≤ (x13_1 : Int) := of_decide_eq_true z4_
   have q267 : x13_1 < (l1.length : Int) := of_decide_eq_true z4_
   obtain ⟨ad267, e267, hx267_0⟩ := Kd.at_int HR1.out x13_1 p267 q267
   cases e267
   replace p267 := eq_true p267
   replace q267 := eq_true q267
   go_wp2
   repeat (go_quiet (fail); try go_wp2)
   go_roundg k1
   case measure => have := HK1.out; omega
   case rel => exact ⟨(wrap64 (x13_1 + 1)), z9_, H', ⟨by have := HK1.out; omega⟩, by repeat (first | exact Drawn0.refl _ | apply Drawn0.step)⟩
def dY.f (a0 : Int) (a1 : Int) : Option (Int × Int) := some (IntKind.u64.wrap ((IntKind.u64.wrap ((IntKind.u64.wrap ((a0 / 4294967296) * (a1 / 4294967296))) + ((IntKind.u64.wrap ((IntKind.u64.wrap ((a0 / 4294967296) * (Go.bits .and .u64 a1 4294967295))) + ((IntKind.u64.wrap ((Go.bits .and .u64 a0 4294967295) * (Go.bits .and .u64 a1 4294967295))) / 4294967296))) / 4294967296))) + ((IntKind.u64.wrap ((Go.bits .and .u64 (IntKind.u64.wrap ((IntKind.u64.wrap ((a0 / 4294967296) * (Go.bits .and .u64 a1 4294967295))) + ((IntKind.u64.wrap ((Go.bits .and .u64 a0 4294967295) * (Go.bits .and .u64 a1 4294967295))) / 4294967296))) 4294967295) + (IntKind.u64.wrap ((Go.bits .and .u64 a0 4294967295) * (a1 / 4294967296))))) / 4294967296)), IntKind.u64.wrap (a0 * a1))
theorem dY.calls (a0 : Int) (a1 : Int) (r1 : Int) (r2 : Int) (w : World) (h : dY.f a0 a1 = some (r1, r2)) :
  Calls Try.prog 71 #[.int .u64 a0, .int .u64 a1] w fun e w' => e = .returned (.tuple #[.int .u64 r1, .int .u64 r2]) ∧ Drawn0 w w' := by
 have H : (some (IntKind.u64.wrap ((IntKind.u64.wrap ((IntKind.u64.wrap ((a0 / 4294967296) * (a1 / 4294967296))) + ((IntKind.u64.wrap ((IntKind.u64.wrap ((a0 / 4294967296) * (Go.bits .and .u64 a1 4294967295))) + ((IntKind.u64.wrap ((Go.bits .and .u64 a0 4294967295) * (Go.bits .and .u64 a1 4294967295))) / 4294967296))) / 4294967296))) + ((IntKind.u64.wrap ((Go.bits .and .u64 (IntKind.u64.wrap ((IntKind.u64.wrap ((a0 / 4294967296) * (Go.bits .and .u64 a1 4294967295))) + ((IntKind.u64.wrap ((Go.bits .and .u64 a0 4294967295) * (Go.bits .and .u64 a1 4294967295))) / 4294967296))) 4294967295) + (IntKind.u64.wrap ((Go.bits .and .u64 a0 4294967295) * (a1 / 4294967296))))) / 4294967296)), IntKind.u64.wrap (a0 * a1))) = some (r1, r2) := h
 clear h
 simp only [Option.some.injEq, Prod.mk.injEq] at H
 obtain ⟨rfl, rfl⟩ := H
 go_enter Try.func71, Try.ntmps71
 go_wp2
 go_ret2
 exact ⟨z9_, by repeat (first | exact Drawn0.refl _ | apply Drawn0.step)⟩
def plan_times.f (a0 : Int) (a1 : Int) (a2 : Int) : Option (Int × Bool) := (dY.f (IntKind.u64.wrap (a0)) (IntKind.u64.wrap (a1))).bind fun bt268 => (if bt268.1 > 0 then (some (0, false)) else (if bt268.2 > (IntKind.u64.wrap (a2)) then (some (0, false)) else (some (wrap64 (bt268.2), true))))
theorem plan_times.calls (a0 : Int) (a1 : Int) (a2 : Int) (r1 : Int) (r2 : Bool) (w : World) (h : plan_times.f a0 a1 a2 = some (r1, r2)) :
  Calls Try.prog 63 #[.int .i64 a0, .int .i64 a1, .int .i64 a2] w fun e w' => e = .returned (.tuple #[.int .i64 r1, .bool r2]) ∧ Drawn0 w w' := by
 have H : ((dY.f (IntKind.u64.wrap (a0)) (IntKind.u64.wrap (a1))).bind fun bt268 => (if bt268.1 > 0 then (some (0, false)) else (if bt268.2 > (IntKind.u64.wrap (a2)) then (some (0, false)) else (some (wrap64 (bt268.2), true))))) = some (r1, r2) := h
 clear h
 replace H := Option.bind_eq_some_iff.mp H
 obtain ⟨⟨t268, t269⟩, A40, H⟩ := H
 replace H : (if t268 > 0 then (some (0, false)) else (if t269 > (IntKind.u64.wrap (a2)) then (some (0, false)) else (some (wrap64 (t269), true)))) = some (r1, r2) := H
 have A4 := mk_ A40
 clear A40
 by_cases c5 : t268 > 0
 ·
  rw [if_pos c5] at H
  have c5b0 : decide (0 < t268) = true := decide_eq_true c5
  clear c5
  simp only [Option.some.injEq, Prod.mk.injEq] at H
  obtain ⟨rfl, rfl⟩ := H
  go_enter Try.func63, Try.ntmps63
  go_wp2_with (first | ((with_reducible refine bB (f := 71) rfl ?_); refine Short.gL (some 15) Try.func71 #[.int .u64 (IntKind.u64.wrap (a0)), .int .u64 (IntKind.u64.wrap (a1))] (h := ?_); (with_reducible refine (dY.calls (IntKind.u64.wrap (a0)) (IntKind.u64.wrap (a1)) t268 t269 _ A4.out).mono ?_); rintro e w' ⟨rfl, ⟨nd, rfl⟩⟩; refine ⟨_, rfl, ?_⟩))
  go_ret2
  exact ⟨z9_, by repeat (first | exact Drawn0.refl _ | apply Drawn0.step)⟩
 rw [if_neg c5] at H
 have c5b0 : decide (0 < t268) = false := decide_eq_false c5
 clear c5
 by_cases c6 : t269 > (IntKind.u64.wrap (a2))
 ·
  rw [if_pos c6] at H
  have c6b0 : decide ((IntKind.u64.wrap (a2)) < t269) = true := decide_eq_true c6
  clear c6
  simp only [Option.some.injEq, Prod.mk.injEq] at H
  obtain ⟨rfl, rfl⟩ := H
  go_enter Try.func63, Try.ntmps63
  go_wp2_with (first | ((with_reducible refine bB (f := 71) rfl ?_); refine Short.gL (some 15) Try.func71 #[.int .u64 (IntKind.u64.wrap (a0)), .int .u64 (IntKind.u64.wrap (a1))] (h := ?_); (with_reducible refine (dY.calls (IntKind.u64.wrap (a0)) (IntKind.u64.wrap (a1)) t268 t269 _ A4.out).mono ?_); rintro e w' ⟨rfl, ⟨nd, rfl⟩⟩; refine ⟨_, rfl, ?_⟩))
  go_ret2
  exact ⟨z9_, by repeat (first | exact Drawn0.refl _ | apply Drawn0.step)⟩
 rw [if_neg c6] at H
 have c6b0 : decide ((IntKind.u64.wrap (a2)) < t269) = false := decide_eq_false c6
 clear c6
 simp only [Option.some.injEq, Prod.mk.injEq] at H
 obtain ⟨rfl, rfl⟩ := H
 go_enter Try.func63, Try.ntmps63
 go_wp2_with (first | ((with_reducible refine bB (f := 71) rfl ?_); refine Short.gL (some 15) Try.func71 #[.int .u64 (IntKind.u64.wrap (a0)), .int .u64 (IntKind.u64.wrap (a1))] (h := ?_); (with_reducible refine (dY.calls (IntKind.u64.wrap (a0)) (IntKind.u64.wrap (a1)) t268 t269 _ A4.out).mono ?_); rintro e w' ⟨rfl, ⟨nd, rfl⟩⟩; refine ⟨_, rfl, ?_⟩))
 go_ret2
 exact ⟨z9_, by repeat (first | exact Drawn0.refl _ | apply Drawn0.step)⟩
def dH.f (l0 : List Int) : Option (List Int) := (some (([] : List Int) : List Int)).bind fun y304 => (if y304.length + l0.length < 17592186044416 then (some (y304 ++ l0)) else (none))
theorem dH.calls (A0 : Option Addr) (c0 : Nat) (l0 : List Int) (r : List Int) (w : World) (hr0 : Kd.C (Kd.int .i64) w A0 l0.length l0) (hc0 : l0.length ≤ c0) (h : dH.f l0 = some r) :
  Calls Try.prog 29 #[.slice A0 l0.length c0] w fun e w' => ∃ v0_ : Value, e = .returned (v0_) ∧ Kd.R (Kd.int .i64) 3 w' w.heap.size (fun _ => True) v0_ r ∧ Below w.heap.size w w' := by
 have HR0 := mk_ hr0
 have HC0 := mk_ hc0
 clear hr0 hc0
 cases A0 with
 | none =>
  have hl_ : l0 = [] := by
   rcases l0 with _ | ⟨x_, xs_⟩
   ·
    rfl
   ·
    obtain ⟨ad_, e_, _⟩ := HR0.out.2.2 (by simp)
    exact absurd e_ (by simp)
  subst hl_
  have hr_ : r = [] := by simpa [dH.f] using h.symm
  subst hr_
  have hnil_ := fun W : World => Lib.run_eql_slice_nil (P := Try.prog) W 32 3 none 0 c0 0 0 Try.underlying32
  go_enter Try.func29, Try.ntmps29
  go_wp2
  go_ret
  exact ⟨_, rfl, R_nil _ _ _ _ _, Below.refl _ _⟩
 | some a0_ =>
 have hnil_ := fun W : World => Lib.run_eql_slice_nil (P := Try.prog) W 32 3 (some a0_) l0.length c0 0 0 Try.underlying32
 have HB := mk_ (Below.refl w.heap.size w)
 have H : ((some (([] : List Int) : List Int)).bind fun y304 => (if y304.length + l0.length < 17592186044416 then (some (y304 ++ l0)) else (none))) = some r := h
 clear h
 obtain ⟨y304, hy304⟩ : ∃ y_ : List Int, y_ = (([] : List Int)) := ⟨_, rfl⟩
 replace H : (if y304.length + l0.length < 17592186044416 then (some (y304 ++ l0)) else (none)) = some r := by first | (rw [hy304]; with_reducible exact H) | (have H2_ := (Option.bind_some _ _).symm.trans H; rw [hy304]; with_reducible exact H2_) | (have H2_ := (Option.bind_some _ _).symm.trans H; with_reducible exact H2_) | with_reducible exact H | (rw [hy304]; exact H) | exact H
 have Ny304 := mk_ hy304
 clear hy304
 by_cases c2 : y304.length + l0.length < 17592186044416
 rotate_left
 ·
  rw [if_neg c2] at H
  exact absurd H (by simp)
 rw [if_pos c2] at H
 have LMc2 := mk_ c2
 clear c2
 obtain ⟨y307, hy307⟩ : ∃ y_ : List Int, y_ = (y304 ++ l0) := ⟨_, rfl⟩
 replace H : (some y307) = some r := by first | (rw [hy307]; with_reducible exact H) | (have H2_ := (Option.bind_some _ _).symm.trans H; rw [hy307]; with_reducible exact H2_) | (have H2_ := (Option.bind_some _ _).symm.trans H; with_reducible exact H2_) | with_reducible exact H | (rw [hy307]; exact H) | exact H
 have Ny307 := mk_ hy307
 clear hy307
 obtain rfl := Option.some.inj H
 go_enter Try.func29, Try.ntmps29
 go_wp2_with (first | ((with_reducible refine bI (N := 5) rfl ?_); refine R_lit (Kd.int .i64) _ 3 ?hg (N := 5) ?hd (xs := ([] : List Int)) (inner := []) (ok := fun _ => True) (okp := fun _ => True) ?hr ?hp (fun _ hk => hk) trivial (Below.refl _ _) (Nat.le_refl _) (by simp) ?_; (case hd => rfl); (case hg => rfl); (case hr => first | (go_simp; done) | (go_simp; rfl)); (case hp => exact (Reps.none _ _)); intro v305 w3 ho4 hb hg_ hnew_; clear hg_ hnew_; (first | rw [← Ny304.out] at ho4 | (simp only [Int.reduceToNat] at ho4; rw [← Ny304.out] at ho4)); have n0_ := mk_ (bT ho4 (aK (Short.hB HB))); have n1_ := mk_ (aG (Short.hB HB) hb); clear HB; revert n0_ n1_; intro HO306 HB; clear hb ho4) | ((with_reducible refine cZ (b := .append) (xs := #[.tmp 5, .tmp 6]) rfl ?_); at_builtin; refine dV (Kd.int .i64) (w0 := w) w.heap.size rfl (.tmp 5) (.tmp 6) 32 3 (.int .i64 0) 8 rfl Try.underlying32 info3 rfl z10_ z5_ v305 y304 l0 _ _ _ (fun _ => True) (fun _ => False) rfl rfl ?aO ?aR (fun _ _ h => h) (fun _ h => h.elim) ?aF ?aB ?aS ?aL ?_; (case aR => exact cX_ (aN HR0.out HB.out)); (case aB => exact (Short.hB HB)); (case aF => exact (fun _ _ => trivial)); (case aO => exact (ZKR HO306)); (case aS => exact (aK (Short.hB HB))); (case aL => have := LMc2.out; omega); intro v308 w5 ho hb hg hat; rw [← Ny307.out] at ho; have n0_ := mk_ (hb); have n1_ := mk_ (ho); clear HB HO306; revert n0_ n1_; intro HB HO309; clear ho hb hg hat))
 go_ret
 exact ⟨_, by first | rfl | (simp [bY, bZ] <;> rfl) | (simp [*, bY, bZ] <;> rfl), by (with_reducible repeat (first | apply R_alloc | apply R_drewN | apply R_drew)); exact HO309.out, Short.hB HB⟩
def bR.l0 : Nat → List (S29) → Int → Option (Bool)
 | 0, _, _ => none
 | k + 1, x0, x3 => if x3 < (x0.length : Int) then (if 0 ≤ x3 then (if (((fE x0 x3).f2).size : Int) > 300 then (some true) else (bR.l0 k x0 (wrap64 (x3 + 1)))) else (none)) else (some false)
def bR.f (k : Nat) (l0 : List (S29)) : Option (Bool) := bR.l0 k l0 0
theorem bR.calls (k : Nat) (A0 : Option Addr) (c0 : Nat) (l0 : List (S29)) (r : Bool) (w : World) (hr0 : Kd.C k29 w A0 l0.length l0) (hc0 : l0.length ≤ c0) (h : bR.f k l0 = some r) :
  Calls Try.prog 30 #[.slice A0 l0.length c0] w fun e w' => e = .returned (.bool r) ∧ Drawn0 w w' := by
 have HR0 := mk_ hr0
 have HC0 := mk_ hc0
 clear hr0 hc0
 have H : (bR.l0 k l0 0) = some r := h
 clear h
 have H' := mk_ H
 clear H
 go_enter Try.func30, Try.ntmps30
 go_wp2
 go_loopg [3] k (fun kq v3 w' => ∃ (x3_1 : Int), v3 = .int .i64 x3_1 ∧ Aside0 (bR.l0 kq l0 x3_1 = some r) ∧ Aside0 (kq ≤ k) ∧ Drawn0 w w')
 case atStart => exact ⟨(0), z9_, H', ⟨Nat.le_refl _⟩, by repeat (first | exact Drawn0.refl _ | apply Drawn0.step)⟩
 case round =>
  clear H'
  obtain ⟨x3_1, rfl, HA, HK1, ⟨m1, rfl⟩⟩ := hrel
  cases gk with
  | zero => exact absurd HA.out (by simp [bR.l0])
  | succ k1 =>
   have H := HA.out
   clear HA
   simp only [bR.l0] at H
   by_cases c2 : x3_1 < (l0.length : Int)
   rotate_left
   ·
    rw [if_neg c2] at H
    have c2b0 : decide (x3_1 < (l0.length : Int)) = false := decide_eq_false c2
    clear c2
    obtain rfl := Option.some.inj H
    go_wp2
    go_ret
    exact ⟨z9_, by repeat (first | exact Drawn0.refl _ | apply Drawn0.step)⟩
   rw [if_pos c2] at H
   have c2b0 : decide (x3_1 < (l0.length : Int)) = true := decide_eq_true c2
   clear c2
   by_cases c3 : 0 ≤ x3_1
   rotate_left
   ·
    rw [if_neg c3] at H
    exact absurd H (by simp)
   rw [if_pos c3] at H
   have c3b0 : decide (0 ≤ x3_1) = true := decide_eq_true c3
   clear c3
   by_cases c4 : (((fE l0 x3_1).f2).size : Int) > 300
   ·
    rw [if_pos c4] at H
    have c4b0 : decide (300 < (((fE l0 x3_1).f2).size : Int)) = true := decide_eq_true c4
    have c4b1 : decide (300 < ((fE l0 x3_1).f2).size) = true := decide_eq_true z5_
    clear c4
    obtain rfl := Option.some.inj H
    have p339 : 0 ≤ (x3_1 : Int) := of_decide_eq_true z4_
    have q339 : x3_1 < (l0.length : Int) := of_decide_eq_true z4_
    obtain ⟨ad339, e339, hx339_0, hx339_1, hx339_2⟩ := at_T29 HR0.out x3_1 p339 q339
    cases e339
    replace p339 := eq_true p339
    replace q339 := eq_true q339
    go_wp2
    go_ret
    exact ⟨z9_, by repeat (first | exact Drawn0.refl _ | apply Drawn0.step)⟩
   rw [if_neg c4] at H
   have c4b0 : decide (300 < (((fE l0 x3_1).f2).size : Int)) = false := decide_eq_false c4
   have c4b1 : decide (300 < ((fE l0 x3_1).f2).size) = false := decide_eq_false z5_
   clear c4
   have H' := mk_ H
   clear H
   have p339 : 0 ≤ (x3_1 : Int) := of_decide_eq_true z4_
   have q339 : x3_1 < (l0.length : Int) := of_decide_eq_true z4_
   obtain ⟨ad339, e339, hx339_0, hx339_1, hx339_2⟩ := at_T29 HR0.out x3_1 p339 q339
   cases e339
   replace p339 := eq_true p339
   replace q339 := eq_true q339
   go_wp2
   go_roundg k1
   case measure => have := HK1.out; omega
   case rel => exact ⟨(wrap64 (x3_1 + 1)), z9_, H', ⟨by have := HK1.out; omega⟩, by repeat (first | exact Drawn0.refl _ | apply Drawn0.step)⟩
end Go.Proofs.Ytimbbaoodjhdoaa.PAll
end
section
namespace Go.Proofs.Ytimbbaoodjhdoaa.PAll
open Go.RowKit PrintWords PrintLast PrintMore ZipT PrintWords.Kd PrintMore.Kd
attribute [local go_sem] eC eA eM eK dP dR dZ eB   -- for this text's walks alone
set_option linter.unusedVariables false
set_option linter.unusedSimpArgs false
def bN.l0 : Nat → List (S34) → Int → Option (Bool)
 | 0, _, _ => none
 | k + 1, x0, x3 => if x3 < (x0.length : Int) then (if 0 ≤ x3 then (if (((bM x0 x3).f5).length : Int) > 40 then (some true) else (if (((bM x0 x3).f6).length : Int) > 40 then (some true) else ((bR.f k (([(⟨(bM x0 x3).f4.f3.f0, (bM x0 x3).f4.f3.f1, (bM x0 x3).f4.f3.f2⟩ : S29)] : List (S29)))).bind fun t346 => (if t346 = true then (some true) else (bN.l0 k x0 (wrap64 (x3 + 1))))))) else (none)) else (some false)
def bN.f (k : Nat) (l0 : List (S34)) : Option (Bool) := if (l0.length : Int) > 40 then (some true) else (bN.l0 k l0 0)
theorem bN.calls (k : Nat) (A0 : Option Addr) (c0 : Nat) (l0 : List (S34)) (r : Bool) (w : World) (hr0 : Kd.C k34 w A0 l0.length l0) (hc0 : l0.length ≤ c0) (h : bN.f k l0 = some r) :
  Calls Try.prog 15 #[.slice A0 l0.length c0] w fun e w' => e = .returned (.bool r) ∧ Below w.heap.size w w' := by
 have hu29 := Try.underlying29
 have HR0 := mk_ hr0
 have HC0 := mk_ hc0
 clear hr0 hc0
 have HB := mk_ (Below.refl w.heap.size w)
 have H : (if (l0.length : Int) > 40 then (some true) else (bN.l0 k l0 0)) = some r := h
 clear h
 by_cases c2 : (l0.length : Int) > 40
 ·
  rw [if_pos c2] at H
  have c2b0 : decide (40 < (l0.length : Int)) = true := decide_eq_true c2
  have c2b1 : decide (40 < l0.length) = true := decide_eq_true z5_
  clear c2
  obtain rfl := Option.some.inj H
  go_enter Try.func15, Try.ntmps15
  go_wp2
  go_ret
  exact ⟨q0, Short.hB HB⟩
 rw [if_neg c2] at H
 have c2b0 : decide (40 < (l0.length : Int)) = false := decide_eq_false c2
 have c2b1 : decide (40 < l0.length) = false := decide_eq_false z5_
 clear c2
 have H' := mk_ H
 clear H
 go_enter Try.func15, Try.ntmps15
 go_wp2
 go_loopg [3] k (fun kq v3 w' => ∃ (x3_1 : Int), v3 = .int .i64 x3_1 ∧ Aside0 (bN.l0 kq l0 x3_1 = some r) ∧ Aside0 (kq ≤ k) ∧ Aside0 (Below w.heap.size w w'))
 case atStart => exact ⟨(0), z9_, H', ⟨Nat.le_refl _⟩, ⟨Short.hB HB⟩⟩
 case round =>
  clear H'
  try clear c1
  try clear c2
  try clear c2b0
  try clear c2b1
  try clear p2
  obtain ⟨x3_1, rfl, HA, HK1, HB⟩ := hrel
  cases gk with
  | zero => exact absurd HA.out (by simp [bN.l0])
  | succ k1 =>
   have H := HA.out
   clear HA
   simp only [bN.l0] at H
   by_cases c3 : x3_1 < (l0.length : Int)
   rotate_left
   ·
    rw [if_neg c3] at H
    have c3b0 : decide (x3_1 < (l0.length : Int)) = false := decide_eq_false c3
    clear c3
    obtain rfl := Option.some.inj H
    go_wp2
    go_ret
    exact ⟨q0, Short.hB HB⟩
   rw [if_pos c3] at H
   have c3b0 : decide (x3_1 < (l0.length : Int)) = true := decide_eq_true c3
   clear c3
   by_cases c4 : 0 ≤ x3_1
   rotate_left
   ·
    rw [if_neg c4] at H
    exact absurd H (by simp)
   rw [if_pos c4] at H
   have c4b0 : decide (0 ≤ x3_1) = true := decide_eq_true c4
   clear c4
   by_cases c5 : (((bM l0 x3_1).f5).length : Int) > 40
   ·
    rw [if_pos c5] at H
    have c5b0 : decide (40 < (((bM l0 x3_1).f5).length : Int)) = true := decide_eq_true c5
    have c5b1 : decide (40 < ((bM l0 x3_1).f5).length) = true := decide_eq_true z5_
    clear c5
    obtain rfl := Option.some.inj H
    have p340 : 0 ≤ (x3_1 : Int) := of_decide_eq_true z4_
    have q340 : x3_1 < (l0.length : Int) := of_decide_eq_true z4_
    obtain ⟨ad340, A340_10, c340_10, A340_11, c340_11, e340, hx340_0, hx340_1, hx340_2, hx340_3, hx340_4, hx340_5, hx340_6, hx340_7, hx340_8, hx340_9, hx340_10, hx340_11, hx340_12, hx340_13, hl340_10, hi340_10, hl340_11, hi340_11⟩ := fB HR0.out x3_1 p340 q340
    cases e340
    replace hx340_0 := up_ HB hx340_0
    replace hx340_1 := up_ HB hx340_1
    replace hx340_2 := up_ HB hx340_2
    replace hx340_3 := up_ HB hx340_3
    replace hx340_4 := up_ HB hx340_4
    replace hx340_5 := up_ HB hx340_5
    replace hx340_6 := up_ HB hx340_6
    replace hx340_7 := up_ HB hx340_7
    replace hx340_8 := up_ HB hx340_8
    replace hx340_9 := up_ HB hx340_9
    replace hx340_10 := up_ HB hx340_10
    replace hx340_11 := up_ HB hx340_11
    replace hx340_12 := up_ HB hx340_12
    replace hx340_13 := up_ HB hx340_13
    have HR340_10 := mk_ hi340_10
    have HC340_10 := mk_ hl340_10
    clear hi340_10 hl340_10
    have HR340_11 := mk_ hi340_11
    have HC340_11 := mk_ hl340_11
    clear hi340_11 hl340_11
    replace p340 := eq_true p340
    replace q340 := eq_true q340
    go_wp2
    go_ret
    exact ⟨q0, Short.hB HB⟩
   rw [if_neg c5] at H
   have c5b0 : decide (40 < (((bM l0 x3_1).f5).length : Int)) = false := decide_eq_false c5
   have c5b1 : decide (40 < ((bM l0 x3_1).f5).length) = false := decide_eq_false z5_
   clear c5
   by_cases c6 : (((bM l0 x3_1).f6).length : Int) > 40
   ·
    rw [if_pos c6] at H
    have c6b0 : decide (40 < (((bM l0 x3_1).f6).length : Int)) = true := decide_eq_true c6
    have c6b1 : decide (40 < ((bM l0 x3_1).f6).length) = true := decide_eq_true z5_
    clear c6
    obtain rfl := Option.some.inj H
    have p340 : 0 ≤ (x3_1 : Int) := of_decide_eq_true z4_
    have q340 : x3_1 < (l0.length : Int) := of_decide_eq_true z4_
    obtain ⟨ad340, A340_10, c340_10, A340_11, c340_11, e340, hx340_0, hx340_1, hx340_2, hx340_3, hx340_4, hx340_5, hx340_6, hx340_7, hx340_8, hx340_9, hx340_10, hx340_11, hx340_12, hx340_13, hl340_10, hi340_10, hl340_11, hi340_11⟩ := fB HR0.out x3_1 p340 q340
    cases e340
    replace hx340_0 := up_ HB hx340_0
    replace hx340_1 := up_ HB hx340_1
    replace hx340_2 := up_ HB hx340_2
    replace hx340_3 := up_ HB hx340_3
    replace hx340_4 := up_ HB hx340_4
    replace hx340_5 := up_ HB hx340_5
    replace hx340_6 := up_ HB hx340_6
    replace hx340_7 := up_ HB hx340_7
    replace hx340_8 := up_ HB hx340_8
    replace hx340_9 := up_ HB hx340_9
    replace hx340_10 := up_ HB hx340_10
    replace hx340_11 := up_ HB hx340_11
    replace hx340_12 := up_ HB hx340_12
    replace hx340_13 := up_ HB hx340_13
    have HR340_10 := mk_ hi340_10
    have HC340_10 := mk_ hl340_10
    clear hi340_10 hl340_10
    have HR340_11 := mk_ hi340_11
    have HC340_11 := mk_ hl340_11
    clear hi340_11 hl340_11
    replace p340 := eq_true p340
    replace q340 := eq_true q340
    have p341 : 0 ≤ (x3_1 : Int) := of_decide_eq_true z4_
    have q341 : x3_1 < (l0.length : Int) := of_decide_eq_true z4_
    obtain ⟨ad341, A341_10, c341_10, A341_11, c341_11, e341, hx341_0, hx341_1, hx341_2, hx341_3, hx341_4, hx341_5, hx341_6, hx341_7, hx341_8, hx341_9, hx341_10, hx341_11, hx341_12, hx341_13, hl341_10, hi341_10, hl341_11, hi341_11⟩ := fB HR0.out x3_1 p341 q341
    obtain rfl : ad340 = ad341 := (by injection e341)
    replace hx341_0 := up_ HB hx341_0
    replace hx341_1 := up_ HB hx341_1
    replace hx341_2 := up_ HB hx341_2
    replace hx341_3 := up_ HB hx341_3
    replace hx341_4 := up_ HB hx341_4
    replace hx341_5 := up_ HB hx341_5
    replace hx341_6 := up_ HB hx341_6
    replace hx341_7 := up_ HB hx341_7
    replace hx341_8 := up_ HB hx341_8
    replace hx341_9 := up_ HB hx341_9
    replace hx341_10 := up_ HB hx341_10
    replace hx341_11 := up_ HB hx341_11
    replace hx341_12 := up_ HB hx341_12
    replace hx341_13 := up_ HB hx341_13
    have HR341_10 := mk_ hi341_10
    have HC341_10 := mk_ hl341_10
    clear hi341_10 hl341_10
    have HR341_11 := mk_ hi341_11
    have HC341_11 := mk_ hl341_11
    clear hi341_11 hl341_11
    replace p341 := eq_true p341
    replace q341 := eq_true q341
    have ea_ := Option.some.inj (hx340_10.symm.trans hx341_10)
    injection ea_ with ea_ en_ ec_
    subst ea_
    subst ec_
    clear en_
    have ea_ := Option.some.inj (hx340_11.symm.trans hx341_11)
    injection ea_ with ea_ en_ ec_
    subst ea_
    subst ec_
    clear en_
    go_wp2
    go_ret
    exact ⟨q0, Short.hB HB⟩
   rw [if_neg c6] at H
   have c6b0 : decide (40 < (((bM l0 x3_1).f6).length : Int)) = false := decide_eq_false c6
   have c6b1 : decide (40 < ((bM l0 x3_1).f6).length) = false := decide_eq_false z5_
   clear c6
   obtain ⟨y343, hy343⟩ : ∃ y_ : List (S29), y_ = (([(⟨(bM l0 x3_1).f4.f3.f0, (bM l0 x3_1).f4.f3.f1, (bM l0 x3_1).f4.f3.f2⟩ : S29)] : List (S29))) := ⟨_, rfl⟩
   replace H : ((bR.f k1 y343).bind fun t346 => (if t346 = true then (some true) else (bN.l0 k1 l0 (wrap64 (x3_1 + 1))))) = some r := by first | (rw [hy343]; with_reducible exact H) | (have H2_ := (Option.bind_some _ _).symm.trans H; rw [hy343]; with_reducible exact H2_) | (have H2_ := (Option.bind_some _ _).symm.trans H; with_reducible exact H2_) | with_reducible exact H | (rw [hy343]; exact H) | exact H
   have Ny343 := mk_ hy343
   clear hy343
   replace H := Option.bind_eq_some_iff.mp H
   obtain ⟨t346, A70, H⟩ := H
   replace H : (if t346 = true then (some true) else (bN.l0 k1 l0 (wrap64 (x3_1 + 1)))) = some r := H
   have A7 := mk_ A70
   clear A70
   by_cases c8 : t346 = true
   ·
    subst c8
    rw [if_pos rfl] at H
    obtain rfl := Option.some.inj H
    have p340 : 0 ≤ (x3_1 : Int) := of_decide_eq_true z4_
    have q340 : x3_1 < (l0.length : Int) := of_decide_eq_true z4_
    obtain ⟨ad340, A340_10, c340_10, A340_11, c340_11, e340, hx340_0, hx340_1, hx340_2, hx340_3, hx340_4, hx340_5, hx340_6, hx340_7, hx340_8, hx340_9, hx340_10, hx340_11, hx340_12, hx340_13, hl340_10, hi340_10, hl340_11, hi340_11⟩ := fB HR0.out x3_1 p340 q340
    cases e340
    replace hx340_0 := up_ HB hx340_0
    replace hx340_1 := up_ HB hx340_1
    replace hx340_2 := up_ HB hx340_2
    replace hx340_3 := up_ HB hx340_3
    replace hx340_4 := up_ HB hx340_4
    replace hx340_5 := up_ HB hx340_5
    replace hx340_6 := up_ HB hx340_6
    replace hx340_7 := up_ HB hx340_7
    replace hx340_8 := up_ HB hx340_8
    replace hx340_9 := up_ HB hx340_9
    replace hx340_10 := up_ HB hx340_10
    replace hx340_11 := up_ HB hx340_11
    replace hx340_12 := up_ HB hx340_12
    replace hx340_13 := up_ HB hx340_13
    have HR340_10 := mk_ hi340_10
    have HC340_10 := mk_ hl340_10
    clear hi340_10 hl340_10
    have HR340_11 := mk_ hi340_11
    have HC340_11 := mk_ hl340_11
    clear hi340_11 hl340_11
    replace p340 := eq_true p340
    replace q340 := eq_true q340
    have p341 : 0 ≤ (x3_1 : Int) := of_decide_eq_true z4_
    have q341 : x3_1 < (l0.length : Int) := of_decide_eq_true z4_
    obtain ⟨ad341, A341_10, c341_10, A341_11, c341_11, e341, hx341_0, hx341_1, hx341_2, hx341_3, hx341_4, hx341_5, hx341_6, hx341_7, hx341_8, hx341_9, hx341_10, hx341_11, hx341_12, hx341_13, hl341_10, hi341_10, hl341_11, hi341_11⟩ := fB HR0.out x3_1 p341 q341
    obtain rfl : ad340 = ad341 := (by injection e341)
    replace hx341_0 := up_ HB hx341_0
    replace hx341_1 := up_ HB hx341_1
    replace hx341_2 := up_ HB hx341_2
    replace hx341_3 := up_ HB hx341_3
    replace hx341_4 := up_ HB hx341_4
    replace hx341_5 := up_ HB hx341_5
    replace hx341_6 := up_ HB hx341_6
    replace hx341_7 := up_ HB hx341_7
    replace hx341_8 := up_ HB hx341_8
    replace hx341_9 := up_ HB hx341_9
    replace hx341_10 := up_ HB hx341_10
    replace hx341_11 := up_ HB hx341_11
    replace hx341_12 := up_ HB hx341_12
    replace hx341_13 := up_ HB hx341_13
    have HR341_10 := mk_ hi341_10
    have HC341_10 := mk_ hl341_10
    clear hi341_10 hl341_10
    have HR341_11 := mk_ hi341_11
    have HC341_11 := mk_ hl341_11
    clear hi341_11 hl341_11
    replace p341 := eq_true p341
    replace q341 := eq_true q341
    have ea_ := Option.some.inj (hx340_10.symm.trans hx341_10)
    injection ea_ with ea_ en_ ec_
    subst ea_
    subst ec_
    clear en_
    have ea_ := Option.some.inj (hx340_11.symm.trans hx341_11)
    injection ea_ with ea_ en_ ec_
    subst ea_
    subst ec_
    clear en_
    have p342 : 0 ≤ (x3_1 : Int) := of_decide_eq_true z4_
    have q342 : x3_1 < (l0.length : Int) := of_decide_eq_true z4_
    obtain ⟨ad342, A342_10, c342_10, A342_11, c342_11, e342, hx342_0, hx342_1, hx342_2, hx342_3, hx342_4, hx342_5, hx342_6, hx342_7, hx342_8, hx342_9, hx342_10, hx342_11, hx342_12, hx342_13, hl342_10, hi342_10, hl342_11, hi342_11⟩ := fB HR0.out x3_1 p342 q342
    obtain rfl : ad340 = ad342 := (by injection e342)
    replace hx342_0 := up_ HB hx342_0
    replace hx342_1 := up_ HB hx342_1
    replace hx342_2 := up_ HB hx342_2
    replace hx342_3 := up_ HB hx342_3
    replace hx342_4 := up_ HB hx342_4
    replace hx342_5 := up_ HB hx342_5
    replace hx342_6 := up_ HB hx342_6
    replace hx342_7 := up_ HB hx342_7
    replace hx342_8 := up_ HB hx342_8
    replace hx342_9 := up_ HB hx342_9
    replace hx342_10 := up_ HB hx342_10
    replace hx342_11 := up_ HB hx342_11
    replace hx342_12 := up_ HB hx342_12
    replace hx342_13 := up_ HB hx342_13
    have HR342_10 := mk_ hi342_10
    have HC342_10 := mk_ hl342_10
    clear hi342_10 hl342_10
    have HR342_11 := mk_ hi342_11
    have HC342_11 := mk_ hl342_11
    clear hi342_11 hl342_11
    replace p342 := eq_true p342
    replace q342 := eq_true q342
    have ea_ := Option.some.inj (hx340_10.symm.trans hx342_10)
    injection ea_ with ea_ en_ ec_
    subst ea_
    subst ec_
    clear en_
    have ea_ := Option.some.inj (hx340_11.symm.trans hx342_11)
    injection ea_ with ea_ en_ ec_
    subst ea_
    subst ec_
    clear en_
    go_wp2_with (first | ((with_reducible refine bI (N := 36) rfl ?_); (try (refine bW z12_ ?_; dsimp only)); refine R_lit k29 _ 29 ?hg (N := 36) ?hd (xs := ([(⟨(bM l0 x3_1).f4.f3.f0, (bM l0 x3_1).f4.f3.f1, (bM l0 x3_1).f4.f3.f2⟩ : S29)] : List (S29))) (inner := [.int .i64 ((bM l0 x3_1).f4.f3.f0), .int .i64 ((bM l0 x3_1).f4.f3.f1), .string ((bM l0 x3_1).f4.f3.f2)]) (ok := fun _ => True) (okp := fun _ => True) ?hr ?hp (fun _ hk => hk) trivial (Below.refl _ _) (Nat.le_refl _) (by simp) ?_; (case hd => rfl); (case hg => rfl); (case hr => first | (go_simp; done) | (go_simp; rfl)); (case hp => exact (Reps.c3 (show Kd.M k29 _ _ _ (⟨(bM l0 x3_1).f4.f3.f0, (bM l0 x3_1).f4.f3.f1, (bM l0 x3_1).f4.f3.f2⟩ : S29) [.int .i64 ((bM l0 x3_1).f4.f3.f0), .int .i64 ((bM l0 x3_1).f4.f3.f1), .string ((bM l0 x3_1).f4.f3.f2)] from (k29_mkM _ _ _ (⟨(bM l0 x3_1).f4.f3.f0, (bM l0 x3_1).f4.f3.f1, (bM l0 x3_1).f4.f3.f2⟩ : S29) )) (Reps.none _ _))); intro v344 w9 ho10 hb hg_ hnew_; clear hg_ hnew_; (first | rw [← Ny343.out] at ho10 | (simp only [Int.reduceToNat] at ho10; rw [← Ny343.out] at ho10)); have n0_ := mk_ (bT ho10 (aK (Short.hB HB))); have n1_ := mk_ (aG (Short.hB HB) hb); clear HB; revert n0_ n1_; intro HO345 HB; clear hb ho10; obtain ⟨Ao11, co11, eo11⟩ := bE HO345.out; subst eo11) | (go_at_call 30; (with_reducible refine (bR.calls k1 _ _ y343 true _ ?side1 ?side2 A7.out).mono ?_); (case side1 => exact cX_ (R_reads' HO345.out).2.2); (case side2 => exact (R_reads' HO345.out).2.1); rintro e w' ⟨rfl, ⟨nd, rfl⟩⟩))
    go_ret
    exact ⟨q0, Short.hB HB⟩
   replace c8 := Bool.eq_false_iff.mpr c8
   subst c8
   rw [if_neg (show ¬ (false = true) by decide)] at H
   have H' := mk_ H
   clear H
   have p340 : 0 ≤ (x3_1 : Int) := of_decide_eq_true z4_
   have q340 : x3_1 < (l0.length : Int) := of_decide_eq_true z4_
   obtain ⟨ad340, A340_10, c340_10, A340_11, c340_11, e340, hx340_0, hx340_1, hx340_2, hx340_3, hx340_4, hx340_5, hx340_6, hx340_7, hx340_8, hx340_9, hx340_10, hx340_11, hx340_12, hx340_13, hl340_10, hi340_10, hl340_11, hi340_11⟩ := fB HR0.out x3_1 p340 q340
   cases e340
   replace hx340_0 := up_ HB hx340_0
   replace hx340_1 := up_ HB hx340_1
   replace hx340_2 := up_ HB hx340_2
   replace hx340_3 := up_ HB hx340_3
   replace hx340_4 := up_ HB hx340_4
   replace hx340_5 := up_ HB hx340_5
   replace hx340_6 := up_ HB hx340_6
   replace hx340_7 := up_ HB hx340_7
   replace hx340_8 := up_ HB hx340_8
   replace hx340_9 := up_ HB hx340_9
   replace hx340_10 := up_ HB hx340_10
   replace hx340_11 := up_ HB hx340_11
   replace hx340_12 := up_ HB hx340_12
   replace hx340_13 := up_ HB hx340_13
   have HR340_10 := mk_ hi340_10
   have HC340_10 := mk_ hl340_10
   clear hi340_10 hl340_10
   have HR340_11 := mk_ hi340_11
   have HC340_11 := mk_ hl340_11
   clear hi340_11 hl340_11
   replace p340 := eq_true p340
   replace q340 := eq_true q340
   have p341 : 0 ≤ (x3_1 : Int) := of_decide_eq_true z4_
   have q341 : x3_1 < (l0.length : Int) := of_decide_eq_true z4_
   obtain ⟨ad341, A341_10, c341_10, A341_11, c341_11, e341, hx341_0, hx341_1, hx341_2, hx341_3, hx341_4, hx341_5, hx341_6, hx341_7, hx341_8, hx341_9, hx341_10, hx341_11, hx341_12, hx341_13, hl341_10, hi341_10, hl341_11, hi341_11⟩ := fB HR0.out x3_1 p341 q341
   obtain rfl : ad340 = ad341 := (by injection e341)
   replace hx341_0 := up_ HB hx341_0
   replace hx341_1 := up_ HB hx341_1
   replace hx341_2 := up_ HB hx341_2
   replace hx341_3 := up_ HB hx341_3
   replace hx341_4 := up_ HB hx341_4
   replace hx341_5 := up_ HB hx341_5
   replace hx341_6 := up_ HB hx341_6
   replace hx341_7 := up_ HB hx341_7
   replace hx341_8 := up_ HB hx341_8
   replace hx341_9 := up_ HB hx341_9
   replace hx341_10 := up_ HB hx341_10
   replace hx341_11 := up_ HB hx341_11
   replace hx341_12 := up_ HB hx341_12
   replace hx341_13 := up_ HB hx341_13
   have HR341_10 := mk_ hi341_10
   have HC341_10 := mk_ hl341_10
   clear hi341_10 hl341_10
   have HR341_11 := mk_ hi341_11
   have HC341_11 := mk_ hl341_11
   clear hi341_11 hl341_11
   replace p341 := eq_true p341
   replace q341 := eq_true q341
   have ea_ := Option.some.inj (hx340_10.symm.trans hx341_10)
   injection ea_ with ea_ en_ ec_
   subst ea_
   subst ec_
   clear en_
   have ea_ := Option.some.inj (hx340_11.symm.trans hx341_11)
   injection ea_ with ea_ en_ ec_
   subst ea_
   subst ec_
   clear en_
   have p342 : 0 ≤ (x3_1 : Int) := of_decide_eq_true z4_
   have q342 : x3_1 < (l0.length : Int) := of_decide_eq_true z4_
   obtain ⟨ad342, A342_10, c342_10, A342_11, c342_11, e342, hx342_0, hx342_1, hx342_2, hx342_3, hx342_4, hx342_5, hx342_6, hx342_7, hx342_8, hx342_9, hx342_10, hx342_11, hx342_12, hx342_13, hl342_10, hi342_10, hl342_11, hi342_11⟩ := fB HR0.out x3_1 p342 q342
   obtain rfl : ad340 = ad342 := (by injection e342)
   replace hx342_0 := up_ HB hx342_0
   replace hx342_1 := up_ HB hx342_1
   replace hx342_2 := up_ HB hx342_2
   replace hx342_3 := up_ HB hx342_3
   replace hx342_4 := up_ HB hx342_4
   replace hx342_5 := up_ HB hx342_5
   replace hx342_6 := up_ HB hx342_6
   replace hx342_7 := up_ HB hx342_7
   replace hx342_8 := up_ HB hx342_8
   replace hx342_9 := up_ HB hx342_9
   replace hx342_10 := up_ HB hx342_10
   replace hx342_11 := up_ HB hx342_11
   replace hx342_12 := up_ HB hx342_12
   replace hx342_13 := up_ HB hx342_13
   have HR342_10 := mk_ hi342_10
   have HC342_10 := mk_ hl342_10
   clear hi342_10 hl342_10
   have HR342_11 := mk_ hi342_11
   have HC342_11 := mk_ hl342_11
   clear hi342_11 hl342_11
   replace p342 := eq_true p342
   replace q342 := eq_true q342
   have ea_ := Option.some.inj (hx340_10.symm.trans hx342_10)
   injection ea_ with ea_ en_ ec_
   subst ea_
   subst ec_
   clear en_
   have ea_ := Option.some.inj (hx340_11.symm.trans hx342_11)
   injection ea_ with ea_ en_ ec_
   subst ea_
   subst ec_
   clear en_
   go_wp2_with (first | ((with_reducible refine bI (N := 36) rfl ?_); (try (refine bW z12_ ?_; dsimp only)); refine R_lit k29 _ 29 ?hg (N := 36) ?hd (xs := ([(⟨(bM l0 x3_1).f4.f3.f0, (bM l0 x3_1).f4.f3.f1, (bM l0 x3_1).f4.f3.f2⟩ : S29)] : List (S29))) (inner := [.int .i64 ((bM l0 x3_1).f4.f3.f0), .int .i64 ((bM l0 x3_1).f4.f3.f1), .string ((bM l0 x3_1).f4.f3.f2)]) (ok := fun _ => True) (okp := fun _ => True) ?hr ?hp (fun _ hk => hk) trivial (Below.refl _ _) (Nat.le_refl _) (by simp) ?_; (case hd => rfl); (case hg => rfl); (case hr => first | (go_simp; done) | (go_simp; rfl)); (case hp => exact (Reps.c3 (show Kd.M k29 _ _ _ (⟨(bM l0 x3_1).f4.f3.f0, (bM l0 x3_1).f4.f3.f1, (bM l0 x3_1).f4.f3.f2⟩ : S29) [.int .i64 ((bM l0 x3_1).f4.f3.f0), .int .i64 ((bM l0 x3_1).f4.f3.f1), .string ((bM l0 x3_1).f4.f3.f2)] from (k29_mkM _ _ _ (⟨(bM l0 x3_1).f4.f3.f0, (bM l0 x3_1).f4.f3.f1, (bM l0 x3_1).f4.f3.f2⟩ : S29) )) (Reps.none _ _))); intro v344 w12 ho13 hb hg_ hnew_; clear hg_ hnew_; (first | rw [← Ny343.out] at ho13 | (simp only [Int.reduceToNat] at ho13; rw [← Ny343.out] at ho13)); have n0_ := mk_ (bT ho13 (aK (Short.hB HB))); have n1_ := mk_ (aG (Short.hB HB) hb); clear HB; revert n0_ n1_; intro HO345 HB; clear hb ho13; obtain ⟨Ao14, co14, eo14⟩ := bE HO345.out; subst eo14) | (go_at_call 30; (with_reducible refine (bR.calls k1 _ _ y343 false _ ?side1 ?side2 A7.out).mono ?_); (case side1 => exact cX_ (R_reads' HO345.out).2.2); (case side2 => exact (R_reads' HO345.out).2.1); rintro e w' ⟨rfl, ⟨nd, rfl⟩⟩))
   go_roundg k1
   case measure => have := HK1.out; omega
   case rel => exact ⟨(wrap64 (x3_1 + 1)), z9_, H', ⟨by have := HK1.out; omega⟩, ⟨Short.hB HB⟩⟩
end Go.Proofs.Ytimbbaoodjhdoaa.PAll
end
section
namespace Go.Proofs.Ytimbbaoodjhdoaa.PAll
open Go.RowKit PrintWords PrintLast PrintMore ZipT PrintWords.Kd PrintMore.Kd
attribute [local go_sem] eC eA eM eK dP dR dZ eB   -- for this text's walks alone
set_option linter.unusedVariables false
set_option linter.unusedSimpArgs false
def aW.f (l0 : List (S34)) (a1_0 : Int) (a1_1 : Int) (a1_2 : Int) (a1_3 : Int) (a1_4 : Int) (a1_5 : Int) (a1_6 : Int) (a1_7 : Int) (a1_8 : Int) (a1_9 : ByteArray) (l1_10 : List Int) (l1_11 : List Int) (a1_12 : Int) (a1_13 : Int) : Option ((List (S34))) := if ([] : List (S34)).length + l0.length < 925904528653 then ((some (([] : List (S34)) ++ l0 : List (S34))).bind fun y409 => ((some (([(⟨a1_0, a1_1, a1_2, a1_3, (⟨a1_4, a1_5, a1_6, (⟨a1_7, a1_8, a1_9⟩ : S29)⟩ : S31), l1_10, l1_11, a1_12, a1_13⟩ : S34)] : List (S34)) : List (S34))).bind fun y412 => (if y409.length + y412.length < 925904528653 then (some (y409 ++ y412)) else (none)))) else (none)
theorem aW.calls (P0_ : Nat → Prop) (A0 : Option Addr) (c0 : Nat) (l0 : List (S34)) (a1_0 : Int) (a1_1 : Int) (a1_2 : Int) (a1_3 : Int) (a1_4 : Int) (a1_5 : Int) (a1_6 : Int) (a1_7 : Int) (a1_8 : Int) (a1_9 : ByteArray) (P1_10_ : Nat → Prop) (A1_10 : Option Addr) (c1_10 : Nat) (l1_10 : List Int) (P1_11_ : Nat → Prop) (A1_11 : Option Addr) (c1_11 : Nat) (l1_11 : List Int) (a1_12 : Int) (a1_13 : Int) (r : List (S34)) (w : World) (hs0 : Kd.V k34 34 w w.heap.size (fun k_ => P0_ k_) (.slice A0 l0.length c0) l0) (hs1_10 : Kd.V (Kd.int .i64) 3 w w.heap.size (fun k_ => P1_10_ k_) (.slice A1_10 l1_10.length c1_10) l1_10) (hs1_11 : Kd.V (Kd.int .i64) 3 w w.heap.size (fun k_ => P1_11_ k_) (.slice A1_11 l1_11.length c1_11) l1_11) (h : aW.f l0 a1_0 a1_1 a1_2 a1_3 a1_4 a1_5 a1_6 a1_7 a1_8 a1_9 l1_10 l1_11 a1_12 a1_13 = some r) :
  Calls Try.prog 16 #[.slice A0 l0.length c0, .agg #[.int .i64 a1_0, .int .i64 a1_1, .int .i64 a1_2, .int .i64 a1_3, .int .i64 a1_4, .int .i64 a1_5, .int .i64 a1_6, .int .i64 a1_7, .int .i64 a1_8, .string a1_9, .slice A1_10 l1_10.length c1_10, .slice A1_11 l1_11.length c1_11, .int .i64 a1_12, .int .i64 a1_13]] w fun e w' => ∃ v0_ : Value, e = .returned (v0_) ∧ Kd.N k34 34 w' w.heap.size (fun k_ => ((P0_ k_ ∨ P1_10_ k_ ∨ P1_11_ k_) ∨ w.heap.size ≤ k_)) v0_ r ∧ Below w.heap.size w w' := by
 have hu34 := Try.underlying34
 have HO0 := mk_ (show Kd.V k34 34 w w.heap.size (fun k_ => ((P0_ k_ ∨ P1_10_ k_ ∨ P1_11_ k_) ∨ w.heap.size ≤ k_)) (.slice A0 l0.length c0) l0 from V_mono hs0 (fun k_ hk => .inl (.inl hk)))
 have HO1_10 := mk_ (show Kd.V (Kd.int .i64) 3 w w.heap.size (fun k_ => ((P0_ k_ ∨ P1_10_ k_ ∨ P1_11_ k_) ∨ w.heap.size ≤ k_)) (.slice A1_10 l1_10.length c1_10) l1_10 from V_mono hs1_10 (fun k_ hk => .inl (.inr (.inl hk))))
 have HO1_11 := mk_ (show Kd.V (Kd.int .i64) 3 w w.heap.size (fun k_ => ((P0_ k_ ∨ P1_10_ k_ ∨ P1_11_ k_) ∨ w.heap.size ≤ k_)) (.slice A1_11 l1_11.length c1_11) l1_11 from V_mono hs1_11 (fun k_ hk => .inl (.inr (.inr hk))))
 have HB := mk_ (Below.refl w.heap.size w)
 have H : (if ([] : List (S34)).length + l0.length < 925904528653 then ((some (([] : List (S34)) ++ l0 : List (S34))).bind fun y409 => ((some (([(⟨a1_0, a1_1, a1_2, a1_3, (⟨a1_4, a1_5, a1_6, (⟨a1_7, a1_8, a1_9⟩ : S29)⟩ : S31), l1_10, l1_11, a1_12, a1_13⟩ : S34)] : List (S34)) : List (S34))).bind fun y412 => (if y409.length + y412.length < 925904528653 then (some (y409 ++ y412)) else (none)))) else (none)) = some r := h
 clear h
 by_cases c3 : ([] : List (S34)).length + l0.length < 925904528653
 rotate_left
 ·
  rw [if_neg c3] at H
  exact absurd H (by simp)
 rw [if_pos c3] at H
 have LMc3 := mk_ c3
 clear c3
 obtain ⟨y409, hy409⟩ : ∃ y_ : List (S34), y_ = (([] : List (S34)) ++ l0) := ⟨_, rfl⟩
 replace H : ((some (([(⟨a1_0, a1_1, a1_2, a1_3, (⟨a1_4, a1_5, a1_6, (⟨a1_7, a1_8, a1_9⟩ : S29)⟩ : S31), l1_10, l1_11, a1_12, a1_13⟩ : S34)] : List (S34)) : List (S34))).bind fun y412 => (if y409.length + y412.length < 925904528653 then (some (y409 ++ y412)) else (none))) = some r := by first | (rw [hy409]; with_reducible exact H) | (have H2_ := (Option.bind_some _ _).symm.trans H; rw [hy409]; with_reducible exact H2_) | (have H2_ := (Option.bind_some _ _).symm.trans H; with_reducible exact H2_) | with_reducible exact H | (rw [hy409]; exact H) | exact H
 have Ny409 := mk_ hy409
 clear hy409
 obtain ⟨y412, hy412⟩ : ∃ y_ : List (S34), y_ = (([(⟨a1_0, a1_1, a1_2, a1_3, (⟨a1_4, a1_5, a1_6, (⟨a1_7, a1_8, a1_9⟩ : S29)⟩ : S31), l1_10, l1_11, a1_12, a1_13⟩ : S34)] : List (S34))) := ⟨_, rfl⟩
 replace H : (if y409.length + y412.length < 925904528653 then (some (y409 ++ y412)) else (none)) = some r := by first | (rw [hy412]; with_reducible exact H) | (have H2_ := (Option.bind_some _ _).symm.trans H; rw [hy412]; with_reducible exact H2_) | (have H2_ := (Option.bind_some _ _).symm.trans H; with_reducible exact H2_) | with_reducible exact H | (rw [hy412]; exact H) | exact H
 have Ny412 := mk_ hy412
 clear hy412
 by_cases c4 : y409.length + y412.length < 925904528653
 rotate_left
 ·
  rw [if_neg c4] at H
  exact absurd H (by simp)
 rw [if_pos c4] at H
 have LMc4 := mk_ c4
 clear c4
 obtain ⟨y415, hy415⟩ : ∃ y_ : List (S34), y_ = (y409 ++ y412) := ⟨_, rfl⟩
 replace H : (some y415) = some r := by first | (rw [hy415]; with_reducible exact H) | (have H2_ := (Option.bind_some _ _).symm.trans H; rw [hy415]; with_reducible exact H2_) | (have H2_ := (Option.bind_some _ _).symm.trans H; with_reducible exact H2_) | with_reducible exact H | (rw [hy415]; exact H) | exact H
 have Ny415 := mk_ hy415
 clear hy415
 obtain rfl := Option.some.inj H
 go_enter Try.func16, Try.ntmps16
 try go_wp2_with (first | ((with_reducible refine bI (N := 3) rfl ?_); refine bJ ?hg (N := 3) ?hd (cs := #[.int .i64 a1_0, .int .i64 a1_1, .int .i64 a1_2, .int .i64 a1_3, .int .i64 a1_4, .int .i64 a1_5, .int .i64 a1_6, .int .i64 a1_7, .int .i64 a1_8, .string a1_9, .slice A1_10 l1_10.length c1_10, .slice A1_11 l1_11.length c1_11, .int .i64 a1_12, .int .i64 a1_13]) (t := 34) ?hr ?_; (case hd => rfl); (case hg => rfl); (case hr => first | (go_simp; done) | (go_simp; rfl)); intro gb408 hg w5 hbox hb; have n0_ := mk_ (eL (gG (ZKV HO0) gb408 (Nat.le_of_eq hg.symm)) hb); have n1_ := mk_ (eL (gG (ZKV HO1_10) gb408 (Nat.le_of_eq hg.symm)) hb); have n2_ := mk_ (eL (gG (ZKV HO1_11) gb408 (Nat.le_of_eq hg.symm)) hb); have n3_ := mk_ (aG (Short.hB HB) hb); have n4_ := mk_ (hbox); have n5_ := mk_ ((by rw [hg]; exact (aK (Short.hB HB)) : w.heap.size ≤ gb408)); have n6_ := mk_ ((by rw [hg]; exact (aK (Short.hB HB)) : w.heap.size ≤ gb408)); clear HO0 HO1_10 HO1_11 HB; revert n0_ n1_ n2_ n3_ n4_ n5_ n6_; intro HO0 HO1_10 HO1_11 HB BK408 GW408 GE408; clear hb hbox hg))
 have n0_ := mk_ (V_drew HO0.out)
 have n1_ := mk_ (V_drew HO1_10.out)
 have n2_ := mk_ (V_drew HO1_11.out)
 have n3_ := mk_ (aU BK408.out)
 have n4_ := mk_ (cQ HB.out)
 clear HO0 HO1_10 HO1_11 BK408 HB
 revert n0_ n1_ n2_ n3_ n4_
 intro HO0 HO1_10 HO1_11 BK408 HB
 refine dX (n := 7) (S := fun w' => w'.cell? ⟨gb408, 0, none⟩ = some (.int .i64 a1_0) ∧ w'.cell? ⟨gb408, 1, none⟩ = some (.int .i64 a1_1) ∧ w'.cell? ⟨gb408, 2, none⟩ = some (.int .i64 a1_2) ∧ w'.cell? ⟨gb408, 3, none⟩ = some (.int .i64 a1_3) ∧ w'.cell? ⟨gb408, 4, none⟩ = some (.int .i64 a1_4) ∧ w'.cell? ⟨gb408, 5, none⟩ = some (.int .i64 a1_5) ∧ w'.cell? ⟨gb408, 6, none⟩ = some (.int .i64 a1_6) ∧ w'.cell? ⟨gb408, 7, none⟩ = some (.int .i64 a1_7) ∧ w'.cell? ⟨gb408, 8, none⟩ = some (.int .i64 a1_8) ∧ w'.cell? ⟨gb408, 9, none⟩ = some (.string a1_9) ∧ w'.cell? ⟨gb408, 10, none⟩ = some (.slice A1_10 l1_10.length c1_10) ∧ w'.cell? ⟨gb408, 11, none⟩ = some (.slice A1_11 l1_11.length c1_11) ∧ w'.cell? ⟨gb408, 12, none⟩ = some (.int .i64 a1_12) ∧ w'.cell? ⟨gb408, 13, none⟩ = some (.int .i64 a1_13)) (ds := []) #[false, false, false, false, false, false, false] z1_ rfl rfl ⟨kc_ BK408 0, kc_ BK408 1, kc_ BK408 2, kc_ BK408 3, kc_ BK408 4, kc_ BK408 5, kc_ BK408 6, kc_ BK408 7, kc_ BK408 8, kc_ BK408 9, kc_ BK408 10, kc_ BK408 11, kc_ BK408 12, kc_ BK408 13⟩ (fun hHeld => ?_)
 generalize w5.drew = w6 at HO0 HO1_10 HO1_11 BK408 HB hHeld ⊢
 refine pure_ (i := 0) (N := some 6) (v := ?_) (a' := ?_) (Steps.Bs 7 1) rfl rfl z1_ (fun _ _ _ h => h) (Or.inl ⟨by rfl, ?_⟩) ?_ ?_
 rotate_left
 ·
  intro w'
  go_simp
  with_reducible rfl
 rotate_left
 ·
  simp only [Act.put, List.setIfInBounds_toArray, List.set_cons_zero, List.set_cons_succ, i64_w, i32_w]
  rfl
 refine pure_ (i := 1) (N := some 7) (v := ?_) (a' := ?_) (Steps.Bs 7 3) rfl rfl z1_ (fun _ _ _ h => h) (Or.inl ⟨by rfl, ?_⟩) ?_ ?_
 rotate_left
 ·
  intro w'
  go_simp
  with_reducible rfl
 rotate_left
 ·
  simp only [Act.put, List.setIfInBounds_toArray, List.set_cons_zero, List.set_cons_succ, i64_w, i32_w]
  rfl
 refine take_ (i := 3) (N := some 9) (v := ?_) (a' := ?_) (Steps.Bs 7 11) rfl rfl z1_ (fun _ _ _ h => h) (Or.inl ⟨by rfl, ?_⟩) hHeld ?_ ?_
 rotate_left
 ·
  rintro w' ⟨s0, s1, s2, s3, s4, s5, s6, s7, s8, s9, s10, s11, s12, s13⟩
  go_simp
  with_reducible rfl
 rotate_left
 ·
  simp only [Act.put, List.setIfInBounds_toArray, List.set_cons_zero, List.set_cons_succ, i64_w, i32_w]
  rfl
 refine join_ (σ := Value × Value) 2 (Steps.Bs 7 31) (fun s_ => [(8, s_.1), (10, s_.2)]) (fun s_ w' => (w'.cell? ⟨gb408, 0, none⟩ = some (.int .i64 a1_0) ∧ w'.cell? ⟨gb408, 1, none⟩ = some (.int .i64 a1_1) ∧ w'.cell? ⟨gb408, 2, none⟩ = some (.int .i64 a1_2) ∧ w'.cell? ⟨gb408, 3, none⟩ = some (.int .i64 a1_3) ∧ w'.cell? ⟨gb408, 4, none⟩ = some (.int .i64 a1_4) ∧ w'.cell? ⟨gb408, 5, none⟩ = some (.int .i64 a1_5) ∧ w'.cell? ⟨gb408, 6, none⟩ = some (.int .i64 a1_6) ∧ w'.cell? ⟨gb408, 7, none⟩ = some (.int .i64 a1_7) ∧ w'.cell? ⟨gb408, 8, none⟩ = some (.int .i64 a1_8) ∧ w'.cell? ⟨gb408, 9, none⟩ = some (.string a1_9) ∧ w'.cell? ⟨gb408, 10, none⟩ = some (.slice A1_10 l1_10.length c1_10) ∧ w'.cell? ⟨gb408, 11, none⟩ = some (.slice A1_11 l1_11.length c1_11) ∧ w'.cell? ⟨gb408, 12, none⟩ = some (.int .i64 a1_12) ∧ w'.cell? ⟨gb408, 13, none⟩ = some (.int .i64 a1_13)) ∧ (Kd.V k34 34 w' w.heap.size (fun k_ => ((P0_ k_ ∨ P1_10_ k_ ∨ P1_11_ k_) ∨ w.heap.size ≤ k_) ∧ nb_ k_ (s_.1) ∧ nb_ k_ (s_.2) ∧ k_ ≠ gb408) (.slice A0 l0.length c0) l0) ∧ (Kd.V (Kd.int .i64) 3 w' w.heap.size (fun k_ => ((P0_ k_ ∨ P1_10_ k_ ∨ P1_11_ k_) ∨ w.heap.size ≤ k_) ∧ nb_ k_ (s_.1) ∧ nb_ k_ (s_.2) ∧ k_ ≠ gb408) (.slice A1_10 l1_10.length c1_10) l1_10) ∧ (Kd.V (Kd.int .i64) 3 w' w.heap.size (fun k_ => ((P0_ k_ ∨ P1_10_ k_ ∨ P1_11_ k_) ∨ w.heap.size ≤ k_) ∧ nb_ k_ (s_.1) ∧ nb_ k_ (s_.2) ∧ k_ ≠ gb408) (.slice A1_11 l1_11.length c1_11) l1_11) ∧ (Kd.N k34 34 w' w.heap.size (fun k_ => ((P0_ k_ ∨ P1_10_ k_ ∨ P1_11_ k_) ∨ w.heap.size ≤ k_) ∧ nb_ k_ (s_.2) ∧ k_ ≠ gb408) s_.1 y409) ∧ (Kd.N k34 34 w' w.heap.size (fun k_ => ((P0_ k_ ∨ P1_10_ k_ ∨ P1_11_ k_) ∨ w.heap.size ≤ k_) ∧ nb_ k_ (s_.1) ∧ k_ ≠ gb408) s_.2 y412) ∧ (w'.heap[gb408]? = some (.cells #[.int .i64 a1_0, .int .i64 a1_1, .int .i64 a1_2, .int .i64 a1_3, .int .i64 a1_4, .int .i64 a1_5, .int .i64 a1_6, .int .i64 a1_7, .int .i64 a1_8, .string a1_9, .slice A1_10 l1_10.length c1_10, .slice A1_11 l1_11.length c1_11, .int .i64 a1_12, .int .i64 a1_13] 34 (0, 0))) ∧ (Below w.heap.size w w')) ?_ ?_
 rotate_left
 ·
  intro hCont
  refine two_ (i := 2) (j := 4) (Ni := some 8) (Nj := some 10) (Steps.Bs 7 15) (Steps.Bs 7 27) rfl rfl rfl rfl z1_ z10_ z10_ (fun K hK => ?_) (fun K hK => ?_)
  ·
   skip
   refine eQ k34 (w0 := w) w.heap.size z12_ (.tmp 6) (.tmp 7) 35 34 (.agg #[(.int .i64 0), (.int .i64 0), (.int .i64 0), (.int .i64 0), (.int .i64 0), (.int .i64 0), (.int .i64 0), (.int .i64 0), (.int .i64 0), (.string ⟨#[]⟩), (.slice none 0 0), (.slice none 0 0), (.int .i64 0), (.int .i64 0)]) 152 rfl Try.underlying35 info34 rfl z10_ z5_ (.slice none 0 0) ([] : List (S34)) l0 _ _ _ (fun k_ => ((P0_ k_ ∨ P1_10_ k_ ∨ P1_11_ k_) ∨ w.heap.size ≤ k_) ∧ k_ ≠ gb408) (fun k_ => ((fun k_ => ((P0_ k_ ∨ P1_10_ k_ ∨ P1_11_ k_) ∨ w.heap.size ≤ k_) ∧ k_ ≠ gb408)) k_ ∧ nb_ k_ (.slice none 0 0)) rfl rfl ?aO ?aR (fun _ hk => hk) ?aF ?aB ?aS ?aL ?_
   (case aR => exact (by skip; exact V_F (V_mono (ok' := (fun k_ => ((fun k_ => ((P0_ k_ ∨ P1_10_ k_ ∨ P1_11_ k_) ∨ w.heap.size ≤ k_) ∧ k_ ≠ gb408)) k_ ∧ nb_ k_ (.slice none 0 0))) (HO0.out) (fun k_ hk => ⟨⟨hk.1, hk.2⟩, (by simp [Value.ownBlock])⟩))))
   (case aB => exact (Short.hB HB))
   (case aF => exact (fun k_ hk => ⟨(.inr (Nat.le_trans (aK (Short.hB HB)) hk)), Kd.freshB (g := gb408) (o := .cells #[.int .i64 a1_0, .int .i64 a1_1, .int .i64 a1_2, .int .i64 a1_3, .int .i64 a1_4, .int .i64 a1_5, .int .i64 a1_6, .int .i64 a1_7, .int .i64 a1_8, .string a1_9, .slice A1_10 l1_10.length c1_10, .slice A1_11 l1_11.length c1_11, .int .i64 a1_12, .int .i64 a1_13] 34 (0, 0)) (Short.bK BK408) k_ hk⟩))
   (case aO => exact ((N_nil _ _ _ _ (fun k_ => ((P0_ k_ ∨ P1_10_ k_ ∨ P1_11_ k_) ∨ w.heap.size ≤ k_) ∧ k_ ≠ gb408))))
   (case aS => exact (aK (Short.hB HB)))
   (case aL => have := LMc3.out; omega)
   intro v410 w7 ho hb hg hat
   rw [← Ny409.out] at ho
   have n0_ := mk_ (dJ (eS (ZKV HO0)) hg hat)
   have n1_ := mk_ (dJ (eS (ZKV HO1_10)) hg hat)
   have n2_ := mk_ (dJ (eS (ZKV HO1_11)) hg hat)
   have n3_ := mk_ (eH (g := gb408) (o := .cells #[.int .i64 a1_0, .int .i64 a1_1, .int .i64 a1_2, .int .i64 a1_3, .int .i64 a1_4, .int .i64 a1_5, .int .i64 a1_6, .int .i64 a1_7, .int .i64 a1_8, .string a1_9, .slice A1_10 l1_10.length c1_10, .slice A1_11 l1_11.length c1_11, .int .i64 a1_12, .int .i64 a1_13] 34 (0, 0)) (Short.bK BK408) hg (by simp [Value.ownBlock]))
   have n4_ := mk_ (hb)
   have n5_ := mk_ (ho)
   clear HO0 HO1_10 HO1_11 BK408 HB
   revert n0_ n1_ n2_ n3_ n4_ n5_
   intro HO0 HO1_10 HO1_11 BK408 HB HO411
   clear ho hb hg hat
   refine hK.out _ _ ⟨kc_ BK408 0, kc_ BK408 1, kc_ BK408 2, kc_ BK408 3, kc_ BK408 4, kc_ BK408 5, kc_ BK408 6, kc_ BK408 7, kc_ BK408 8, kc_ BK408 9, kc_ BK408 10, kc_ BK408 11, kc_ BK408 12, kc_ BK408 13⟩ (fun hHeld => ?_)
   clear hK K
   refine nrm 8 ?_
   refine one_ (i := 4) (N := some 10) (Steps.Bs 7 31) rfl rfl z1_ z10_ (fun K hK => ?_)
   refine N_lit_step k34 _ 34 ?hg (N' := 10) ?hd (xs := ([(⟨a1_0, a1_1, a1_2, a1_3, (⟨a1_4, a1_5, a1_6, (⟨a1_7, a1_8, a1_9⟩ : S29)⟩ : S31), l1_10, l1_11, a1_12, a1_13⟩ : S34)] : List (S34))) (inner := [.int .i64 a1_0, .int .i64 a1_1, .int .i64 a1_2, .int .i64 a1_3, .int .i64 a1_4, .int .i64 a1_5, .int .i64 a1_6, .int .i64 a1_7, .int .i64 a1_8, .string a1_9, .slice A1_10 l1_10.length c1_10, .slice A1_11 l1_11.length c1_11, .int .i64 a1_12, .int .i64 a1_13]) (ok := (fun k_ => ((P0_ k_ ∨ P1_10_ k_ ∨ P1_11_ k_) ∨ w.heap.size ≤ k_) ∧ nb_ k_ (v410) ∧ k_ ≠ gb408)) (okp := (fun k_ => ((P0_ k_ ∨ P1_10_ k_ ∨ P1_11_ k_) ∨ w.heap.size ≤ k_) ∧ nb_ k_ (v410) ∧ k_ ≠ gb408)) ?hr ?hp (fun _ hk => hk) ((show ∀ k_, w7.heap.size ≤ k_ → (fun k_ => ((P0_ k_ ∨ P1_10_ k_ ∨ P1_11_ k_) ∨ w.heap.size ≤ k_) ∧ nb_ k_ (v410) ∧ k_ ≠ gb408) k_ from fun k_ hk => ⟨(.inr (Nat.le_trans (aK (Short.hB HB)) hk)), Kd.fresh' (N_lt (ZKN HO411)) k_ hk, Kd.freshB (g := gb408) (o := .cells #[.int .i64 a1_0, .int .i64 a1_1, .int .i64 a1_2, .int .i64 a1_3, .int .i64 a1_4, .int .i64 a1_5, .int .i64 a1_6, .int .i64 a1_7, .int .i64 a1_8, .string a1_9, .slice A1_10 l1_10.length c1_10, .slice A1_11 l1_11.length c1_11, .int .i64 a1_12, .int .i64 a1_13] 34 (0, 0)) (Short.bK BK408) k_ hk⟩) _ (Nat.le_refl _)) (Below.refl _ _) (Nat.le_refl _) (by simp) ?_; (case hd => rfl); (case hg => rfl); (case hr => first | (go_simp; done) | (go_simp; rfl)); (case hp => exact (Reps.front (show Kd.FK k34 _ _ (⟨a1_0, a1_1, a1_2, a1_3, (⟨a1_4, a1_5, a1_6, (⟨a1_7, a1_8, a1_9⟩ : S29)⟩ : S31), l1_10, l1_11, a1_12, a1_13⟩ : S34) [.int .i64 a1_0, .int .i64 a1_1, .int .i64 a1_2, .int .i64 a1_3, .int .i64 a1_4, .int .i64 a1_5, .int .i64 a1_6, .int .i64 a1_7, .int .i64 a1_8, .string a1_9, .slice A1_10 l1_10.length c1_10, .slice A1_11 l1_11.length c1_11, .int .i64 a1_12, .int .i64 a1_13] from (k34_mkF _ _ (⟨a1_0, a1_1, a1_2, a1_3, (⟨a1_4, a1_5, a1_6, (⟨a1_7, a1_8, a1_9⟩ : S29)⟩ : S31), l1_10, l1_11, a1_12, a1_13⟩ : S34) (V_reads' (V_mono (ok' := (fun k_ => ((P0_ k_ ∨ P1_10_ k_ ∨ P1_11_ k_) ∨ w.heap.size ≤ k_) ∧ nb_ k_ (v410) ∧ k_ ≠ gb408)) (HO1_10.out) (fun k_ hk => ⟨hk.1.1, ⟨hk.2, hk.1.2⟩⟩))).2.1 (V_F (V_mono (ok' := (fun k_ => ((P0_ k_ ∨ P1_10_ k_ ∨ P1_11_ k_) ∨ w.heap.size ≤ k_) ∧ nb_ k_ (v410) ∧ k_ ≠ gb408)) (HO1_10.out) (fun k_ hk => ⟨hk.1.1, ⟨hk.2, hk.1.2⟩⟩))) (V_reads' (V_mono (ok' := (fun k_ => ((P0_ k_ ∨ P1_10_ k_ ∨ P1_11_ k_) ∨ w.heap.size ≤ k_) ∧ nb_ k_ (v410) ∧ k_ ≠ gb408)) (HO1_11.out) (fun k_ hk => ⟨hk.1.1, ⟨hk.2, hk.1.2⟩⟩))).2.1 (V_F (V_mono (ok' := (fun k_ => ((P0_ k_ ∨ P1_10_ k_ ∨ P1_11_ k_) ∨ w.heap.size ≤ k_) ∧ nb_ k_ (v410) ∧ k_ ≠ gb408)) (HO1_11.out) (fun k_ hk => ⟨hk.1.1, ⟨hk.2, hk.1.2⟩⟩))))) rfl (Reps.none _ _) rfl))
   intro v413 w8 ho9 hb hg_ hnew_
   clear hg_ hnew_
   (first | rw [← Ny412.out] at ho9 | (simp only [Int.reduceToNat] at ho9; rw [← Ny412.out] at ho9))
   have n0_ := mk_ (V_elder' (ZKV HO0) (N_base ho9) hb)
   have n1_ := mk_ (V_elder' (ZKV HO1_10) (N_base ho9) hb)
   have n2_ := mk_ (V_elder' (ZKV HO1_11) (N_base ho9) hb)
   have n3_ := mk_ (N_elder' (ZKN HO411) (N_base ho9) hb)
   have n4_ := mk_ (eF ho9 (aK (Short.hB HB)))
   have n5_ := mk_ (bB_ BK408 hb)
   have n6_ := mk_ (aG (Short.hB HB) hb)
   clear HO0 HO1_10 HO1_11 HO411 BK408 HB
   revert n0_ n1_ n2_ n3_ n4_ n5_ n6_
   intro HO0 HO1_10 HO1_11 HO411 HO414 BK408 HB
   clear hb ho9
   refine hK.out _ _ ⟨kc_ BK408 0, kc_ BK408 1, kc_ BK408 2, kc_ BK408 3, kc_ BK408 4, kc_ BK408 5, kc_ BK408 6, kc_ BK408 7, kc_ BK408 8, kc_ BK408 9, kc_ BK408 10, kc_ BK408 11, kc_ BK408 12, kc_ BK408 13⟩ (fun hHeld => ?_)
   clear hK K
   refine nrm 10 ?_
   exact norm_ (by simp only [putAll, Act.put, List.setIfInBounds_toArray, List.set_cons_zero, List.set_cons_succ]) (hCont (v410, v413) _ ⟨hHeld, (vM_ HO0 (fun _ hk => ⟨hk.1.1.1, ⟨hk.1.2, ⟨hk.2, hk.1.1.2⟩⟩⟩)), (vM_ HO1_10 (fun _ hk => ⟨hk.1.1.1, ⟨hk.1.2, ⟨hk.2, hk.1.1.2⟩⟩⟩)), (vM_ HO1_11 (fun _ hk => ⟨hk.1.1.1, ⟨hk.1.2, ⟨hk.2, hk.1.1.2⟩⟩⟩)), (nM_ HO411 (fun _ hk => ⟨hk.1.1, ⟨hk.2, hk.1.2⟩⟩)), (ZKN HO414), (Short.bK BK408), (Short.hB HB)⟩)
  ·
   skip
   refine N_lit_step k34 _ 34 ?hg (N' := 10) ?hd (xs := ([(⟨a1_0, a1_1, a1_2, a1_3, (⟨a1_4, a1_5, a1_6, (⟨a1_7, a1_8, a1_9⟩ : S29)⟩ : S31), l1_10, l1_11, a1_12, a1_13⟩ : S34)] : List (S34))) (inner := [.int .i64 a1_0, .int .i64 a1_1, .int .i64 a1_2, .int .i64 a1_3, .int .i64 a1_4, .int .i64 a1_5, .int .i64 a1_6, .int .i64 a1_7, .int .i64 a1_8, .string a1_9, .slice A1_10 l1_10.length c1_10, .slice A1_11 l1_11.length c1_11, .int .i64 a1_12, .int .i64 a1_13]) (ok := (fun k_ => ((P0_ k_ ∨ P1_10_ k_ ∨ P1_11_ k_) ∨ w.heap.size ≤ k_) ∧ k_ ≠ gb408)) (okp := (fun k_ => ((P0_ k_ ∨ P1_10_ k_ ∨ P1_11_ k_) ∨ w.heap.size ≤ k_) ∧ k_ ≠ gb408)) ?hr ?hp (fun _ hk => hk) ((show ∀ k_, w6.heap.size ≤ k_ → (fun k_ => ((P0_ k_ ∨ P1_10_ k_ ∨ P1_11_ k_) ∨ w.heap.size ≤ k_) ∧ k_ ≠ gb408) k_ from fun k_ hk => ⟨(.inr (Nat.le_trans (aK (Short.hB HB)) hk)), Kd.freshB (g := gb408) (o := .cells #[.int .i64 a1_0, .int .i64 a1_1, .int .i64 a1_2, .int .i64 a1_3, .int .i64 a1_4, .int .i64 a1_5, .int .i64 a1_6, .int .i64 a1_7, .int .i64 a1_8, .string a1_9, .slice A1_10 l1_10.length c1_10, .slice A1_11 l1_11.length c1_11, .int .i64 a1_12, .int .i64 a1_13] 34 (0, 0)) (Short.bK BK408) k_ hk⟩) _ (Nat.le_refl _)) (Below.refl _ _) (Nat.le_refl _) (by simp) ?_; (case hd => rfl); (case hg => rfl); (case hr => first | (go_simp; done) | (go_simp; rfl)); (case hp => exact (Reps.front (show Kd.FK k34 _ _ (⟨a1_0, a1_1, a1_2, a1_3, (⟨a1_4, a1_5, a1_6, (⟨a1_7, a1_8, a1_9⟩ : S29)⟩ : S31), l1_10, l1_11, a1_12, a1_13⟩ : S34) [.int .i64 a1_0, .int .i64 a1_1, .int .i64 a1_2, .int .i64 a1_3, .int .i64 a1_4, .int .i64 a1_5, .int .i64 a1_6, .int .i64 a1_7, .int .i64 a1_8, .string a1_9, .slice A1_10 l1_10.length c1_10, .slice A1_11 l1_11.length c1_11, .int .i64 a1_12, .int .i64 a1_13] from (k34_mkF _ _ (⟨a1_0, a1_1, a1_2, a1_3, (⟨a1_4, a1_5, a1_6, (⟨a1_7, a1_8, a1_9⟩ : S29)⟩ : S31), l1_10, l1_11, a1_12, a1_13⟩ : S34) (V_reads' (V_mono (ok' := (fun k_ => ((P0_ k_ ∨ P1_10_ k_ ∨ P1_11_ k_) ∨ w.heap.size ≤ k_) ∧ k_ ≠ gb408)) (HO1_10.out) (fun k_ hk => ⟨hk.1, hk.2⟩))).2.1 (V_F (V_mono (ok' := (fun k_ => ((P0_ k_ ∨ P1_10_ k_ ∨ P1_11_ k_) ∨ w.heap.size ≤ k_) ∧ k_ ≠ gb408)) (HO1_10.out) (fun k_ hk => ⟨hk.1, hk.2⟩))) (V_reads' (V_mono (ok' := (fun k_ => ((P0_ k_ ∨ P1_10_ k_ ∨ P1_11_ k_) ∨ w.heap.size ≤ k_) ∧ k_ ≠ gb408)) (HO1_11.out) (fun k_ hk => ⟨hk.1, hk.2⟩))).2.1 (V_F (V_mono (ok' := (fun k_ => ((P0_ k_ ∨ P1_10_ k_ ∨ P1_11_ k_) ∨ w.heap.size ≤ k_) ∧ k_ ≠ gb408)) (HO1_11.out) (fun k_ hk => ⟨hk.1, hk.2⟩))))) rfl (Reps.none _ _) rfl))
   intro v413 w7 ho8 hb hg_ hnew_
   clear hg_ hnew_
   (first | rw [← Ny412.out] at ho8 | (simp only [Int.reduceToNat] at ho8; rw [← Ny412.out] at ho8))
   have n0_ := mk_ (V_elder' (ZKV HO0) (N_base ho8) hb)
   have n1_ := mk_ (V_elder' (ZKV HO1_10) (N_base ho8) hb)
   have n2_ := mk_ (V_elder' (ZKV HO1_11) (N_base ho8) hb)
   have n3_ := mk_ (eF ho8 (aK (Short.hB HB)))
   have n4_ := mk_ (bB_ BK408 hb)
   have n5_ := mk_ (aG (Short.hB HB) hb)
   clear HO0 HO1_10 HO1_11 BK408 HB
   revert n0_ n1_ n2_ n3_ n4_ n5_
   intro HO0 HO1_10 HO1_11 HO414 BK408 HB
   clear hb ho8
   refine hK.out _ _ ⟨kc_ BK408 0, kc_ BK408 1, kc_ BK408 2, kc_ BK408 3, kc_ BK408 4, kc_ BK408 5, kc_ BK408 6, kc_ BK408 7, kc_ BK408 8, kc_ BK408 9, kc_ BK408 10, kc_ BK408 11, kc_ BK408 12, kc_ BK408 13⟩ (fun hHeld => ?_)
   clear hK K
   refine nrm 10 ?_
   refine one_ (i := 2) (N := some 8) (Steps.Bs 7 31) rfl rfl z1_ z10_ (fun K hK => ?_)
   refine eQ k34 (w0 := w) w.heap.size z12_ (.tmp 6) (.tmp 7) 35 34 (.agg #[(.int .i64 0), (.int .i64 0), (.int .i64 0), (.int .i64 0), (.int .i64 0), (.int .i64 0), (.int .i64 0), (.int .i64 0), (.int .i64 0), (.string ⟨#[]⟩), (.slice none 0 0), (.slice none 0 0), (.int .i64 0), (.int .i64 0)]) 152 rfl Try.underlying35 info34 rfl z10_ z5_ (.slice none 0 0) ([] : List (S34)) l0 _ _ _ (fun k_ => ((P0_ k_ ∨ P1_10_ k_ ∨ P1_11_ k_) ∨ w.heap.size ≤ k_) ∧ nb_ k_ (v413) ∧ k_ ≠ gb408) (fun k_ => ((fun k_ => ((P0_ k_ ∨ P1_10_ k_ ∨ P1_11_ k_) ∨ w.heap.size ≤ k_) ∧ nb_ k_ (v413) ∧ k_ ≠ gb408)) k_ ∧ nb_ k_ (.slice none 0 0)) rfl rfl ?aO ?aR (fun _ hk => hk) ?aF ?aB ?aS ?aL ?_
   (case aR => exact (by skip; exact V_F (V_mono (ok' := (fun k_ => ((fun k_ => ((P0_ k_ ∨ P1_10_ k_ ∨ P1_11_ k_) ∨ w.heap.size ≤ k_) ∧ nb_ k_ (v413) ∧ k_ ≠ gb408)) k_ ∧ nb_ k_ (.slice none 0 0))) (HO0.out) (fun k_ hk => ⟨⟨hk.1.1, ⟨hk.2, hk.1.2⟩⟩, (by simp [Value.ownBlock])⟩))))
   (case aB => exact (Short.hB HB))
   (case aF => exact (fun k_ hk => ⟨(.inr (Nat.le_trans (aK (Short.hB HB)) hk)), Kd.fresh' (N_lt (ZKN HO414)) k_ hk, Kd.freshB (g := gb408) (o := .cells #[.int .i64 a1_0, .int .i64 a1_1, .int .i64 a1_2, .int .i64 a1_3, .int .i64 a1_4, .int .i64 a1_5, .int .i64 a1_6, .int .i64 a1_7, .int .i64 a1_8, .string a1_9, .slice A1_10 l1_10.length c1_10, .slice A1_11 l1_11.length c1_11, .int .i64 a1_12, .int .i64 a1_13] 34 (0, 0)) (Short.bK BK408) k_ hk⟩))
   (case aO => exact ((N_nil _ _ _ _ (fun k_ => ((P0_ k_ ∨ P1_10_ k_ ∨ P1_11_ k_) ∨ w.heap.size ≤ k_) ∧ nb_ k_ (v413) ∧ k_ ≠ gb408))))
   (case aS => exact (aK (Short.hB HB)))
   (case aL => have := LMc3.out; omega)
   intro v410 w9 ho hb hg hat
   rw [← Ny409.out] at ho
   have n0_ := mk_ (dJ (eS (ZKV HO0)) hg hat)
   have n1_ := mk_ (dJ (eS (ZKV HO1_10)) hg hat)
   have n2_ := mk_ (dJ (eS (ZKV HO1_11)) hg hat)
   have n3_ := mk_ (eH (g := gb408) (o := .cells #[.int .i64 a1_0, .int .i64 a1_1, .int .i64 a1_2, .int .i64 a1_3, .int .i64 a1_4, .int .i64 a1_5, .int .i64 a1_6, .int .i64 a1_7, .int .i64 a1_8, .string a1_9, .slice A1_10 l1_10.length c1_10, .slice A1_11 l1_11.length c1_11, .int .i64 a1_12, .int .i64 a1_13] 34 (0, 0)) (Short.bK BK408) hg (by simp [Value.ownBlock]))
   have n4_ := mk_ (dG (N_apart_nil (ZKN HO414)) hg hat)
   have n5_ := mk_ (hb)
   have n6_ := mk_ (ho)
   clear HO0 HO1_10 HO1_11 BK408 HO414 HB
   revert n0_ n1_ n2_ n3_ n4_ n5_ n6_
   intro HO0 HO1_10 HO1_11 BK408 HO414 HB HO411
   clear ho hb hg hat
   refine hK.out _ _ ⟨kc_ BK408 0, kc_ BK408 1, kc_ BK408 2, kc_ BK408 3, kc_ BK408 4, kc_ BK408 5, kc_ BK408 6, kc_ BK408 7, kc_ BK408 8, kc_ BK408 9, kc_ BK408 10, kc_ BK408 11, kc_ BK408 12, kc_ BK408 13⟩ (fun hHeld => ?_)
   clear hK K
   refine nrm 8 ?_
   exact norm_ (by simp only [putAll, Act.put, List.setIfInBounds_toArray, List.set_cons_zero, List.set_cons_succ]) (hCont (v410, v413) _ ⟨hHeld, (vM_ HO0 (fun _ hk => ⟨hk.1.1.1, ⟨hk.2, ⟨hk.1.2, hk.1.1.2⟩⟩⟩)), (vM_ HO1_10 (fun _ hk => ⟨hk.1.1.1, ⟨hk.2, ⟨hk.1.2, hk.1.1.2⟩⟩⟩)), (vM_ HO1_11 (fun _ hk => ⟨hk.1.1.1, ⟨hk.2, ⟨hk.1.2, hk.1.1.2⟩⟩⟩)), (ZKN HO411), (nM_ HO414 (fun _ hk => ⟨hk.1.1, ⟨hk.2, hk.1.2⟩⟩)), (Short.bK BK408), (Short.hB HB)⟩)
 rintro ⟨v410, v413⟩ w10 ⟨hS_, h0_, h1_, h2_, h3_, h4_, h5_, h6_⟩
 have n0_ : Aside0 (Kd.V k34 34 w10 w.heap.size (fun k_ => ((P0_ k_ ∨ P1_10_ k_ ∨ P1_11_ k_) ∨ w.heap.size ≤ k_) ∧ nb_ k_ (v410) ∧ nb_ k_ (v413) ∧ k_ ≠ gb408) (.slice A0 l0.length c0) l0) := ⟨h0_⟩
 have n1_ : Aside0 (Kd.V (Kd.int .i64) 3 w10 w.heap.size (fun k_ => ((P0_ k_ ∨ P1_10_ k_ ∨ P1_11_ k_) ∨ w.heap.size ≤ k_) ∧ nb_ k_ (v410) ∧ nb_ k_ (v413) ∧ k_ ≠ gb408) (.slice A1_10 l1_10.length c1_10) l1_10) := ⟨h1_⟩
 have n2_ : Aside0 (Kd.V (Kd.int .i64) 3 w10 w.heap.size (fun k_ => ((P0_ k_ ∨ P1_10_ k_ ∨ P1_11_ k_) ∨ w.heap.size ≤ k_) ∧ nb_ k_ (v410) ∧ nb_ k_ (v413) ∧ k_ ≠ gb408) (.slice A1_11 l1_11.length c1_11) l1_11) := ⟨h2_⟩
 have n3_ : Aside0 (Kd.N k34 34 w10 w.heap.size (fun k_ => ((P0_ k_ ∨ P1_10_ k_ ∨ P1_11_ k_) ∨ w.heap.size ≤ k_) ∧ nb_ k_ (v413) ∧ k_ ≠ gb408) v410 y409) := ⟨h3_⟩
 have n4_ : Aside0 (Kd.N k34 34 w10 w.heap.size (fun k_ => ((P0_ k_ ∨ P1_10_ k_ ∨ P1_11_ k_) ∨ w.heap.size ≤ k_) ∧ nb_ k_ (v410) ∧ k_ ≠ gb408) v413 y412) := ⟨h4_⟩
 have n5_ : Aside0 (w10.heap[gb408]? = some (.cells #[.int .i64 a1_0, .int .i64 a1_1, .int .i64 a1_2, .int .i64 a1_3, .int .i64 a1_4, .int .i64 a1_5, .int .i64 a1_6, .int .i64 a1_7, .int .i64 a1_8, .string a1_9, .slice A1_10 l1_10.length c1_10, .slice A1_11 l1_11.length c1_11, .int .i64 a1_12, .int .i64 a1_13] 34 (0, 0))) := ⟨h5_⟩
 have n6_ : Aside0 (Below w.heap.size w w10) := ⟨h6_⟩
 clear HO0 HO1_10 HO1_11 BK408 HB
 clear h0_ h1_ h2_ h3_ h4_ h5_ h6_
 revert n0_ n1_ n2_ n3_ n4_ n5_ n6_
 intro HO0 HO1_10 HO1_11 HO411 HO414 BK408 HB
 have hHeld : w10.cell? ⟨gb408, 0, none⟩ = some (.int .i64 a1_0) ∧ w10.cell? ⟨gb408, 1, none⟩ = some (.int .i64 a1_1) ∧ w10.cell? ⟨gb408, 2, none⟩ = some (.int .i64 a1_2) ∧ w10.cell? ⟨gb408, 3, none⟩ = some (.int .i64 a1_3) ∧ w10.cell? ⟨gb408, 4, none⟩ = some (.int .i64 a1_4) ∧ w10.cell? ⟨gb408, 5, none⟩ = some (.int .i64 a1_5) ∧ w10.cell? ⟨gb408, 6, none⟩ = some (.int .i64 a1_6) ∧ w10.cell? ⟨gb408, 7, none⟩ = some (.int .i64 a1_7) ∧ w10.cell? ⟨gb408, 8, none⟩ = some (.int .i64 a1_8) ∧ w10.cell? ⟨gb408, 9, none⟩ = some (.string a1_9) ∧ w10.cell? ⟨gb408, 10, none⟩ = some (.slice A1_10 l1_10.length c1_10) ∧ w10.cell? ⟨gb408, 11, none⟩ = some (.slice A1_11 l1_11.length c1_11) ∧ w10.cell? ⟨gb408, 12, none⟩ = some (.int .i64 a1_12) ∧ w10.cell? ⟨gb408, 13, none⟩ = some (.int .i64 a1_13) := hS_
 obtain ⟨Ao12, co12, eo12⟩ := eU HO414.out
 (first | subst eo12 | (injection eo12 with f1_ f2_ f3_; have f4_ := f1_.symm; have f5_ := f3_.symm; clear f1_ f2_ f3_; subst f4_; subst f5_))
 refine norm_ (a' := ?_) ?_ ?_
 rotate_left
 ·
  simp only [putAll, Act.put, List.setIfInBounds_toArray, List.set_cons_zero, List.set_cons_succ]
  rfl
 refine one_ (i := 5) (N := some 11) (Steps.Bs 7 63) rfl rfl z1_ z10_ (fun K hK => ?_)
 refine eQ k34 (w0 := w) w.heap.size z12_ (.tmp 8) (.tmp 10) 35 34 (.agg #[(.int .i64 0), (.int .i64 0), (.int .i64 0), (.int .i64 0), (.int .i64 0), (.int .i64 0), (.int .i64 0), (.int .i64 0), (.int .i64 0), (.string ⟨#[]⟩), (.slice none 0 0), (.slice none 0 0), (.int .i64 0), (.int .i64 0)]) 152 rfl Try.underlying35 info34 rfl z10_ z5_ v410 y409 y412 _ _ _ (fun k_ => ((P0_ k_ ∨ P1_10_ k_ ∨ P1_11_ k_) ∨ w.heap.size ≤ k_) ∧ k_ ≠ gb408) (fun k_ => ((fun k_ => ((P0_ k_ ∨ P1_10_ k_ ∨ P1_11_ k_) ∨ w.heap.size ≤ k_) ∧ k_ ≠ gb408)) k_ ∧ nb_ k_ (v410)) rfl rfl ?aO ?aR (fun _ hk => hk) ?aF ?aB ?aS ?aL ?_
 (case aR => exact (by skip; exact N_F (N_mono (ok' := (fun k_ => ((fun k_ => ((P0_ k_ ∨ P1_10_ k_ ∨ P1_11_ k_) ∨ w.heap.size ≤ k_) ∧ k_ ≠ gb408)) k_ ∧ nb_ k_ (v410))) (HO414.out) (fun k_ hk => ⟨⟨hk.1, hk.2.2⟩, hk.2.1⟩))))
 (case aB => exact (Short.hB HB))
 (case aF => exact (fun k_ hk => ⟨(.inr (Nat.le_trans (aK (Short.hB HB)) hk)), Kd.freshB (g := gb408) (o := .cells #[.int .i64 a1_0, .int .i64 a1_1, .int .i64 a1_2, .int .i64 a1_3, .int .i64 a1_4, .int .i64 a1_5, .int .i64 a1_6, .int .i64 a1_7, .int .i64 a1_8, .string a1_9, .slice A1_10 l1_10.length c1_10, .slice A1_11 l1_11.length c1_11, .int .i64 a1_12, .int .i64 a1_13] 34 (0, 0)) (Short.bK BK408) k_ hk⟩))
 (case aO => exact (nM_ HO411 (fun _ hk => ⟨hk.1, hk.2.2⟩)))
 (case aS => exact (aK (Short.hB HB)))
 (case aL => have := LMc4.out; omega)
 intro v416 w11 ho hb hg hat
 rw [← Ny415.out] at ho
 have n0_ := mk_ (dJ (ok := (fun k_ => ((P0_ k_ ∨ P1_10_ k_ ∨ P1_11_ k_) ∨ w.heap.size ≤ k_) ∧ nb_ k_ (.slice Ao12 y412.length co12) ∧ k_ ≠ gb408)) (vM_ HO0 (fun _ hk => ⟨⟨hk.1, ⟨hk.2.2.1, hk.2.2.2⟩⟩, hk.2.1⟩)) hg hat)
 have n1_ := mk_ (dJ (ok := (fun k_ => ((P0_ k_ ∨ P1_10_ k_ ∨ P1_11_ k_) ∨ w.heap.size ≤ k_) ∧ nb_ k_ (.slice Ao12 y412.length co12) ∧ k_ ≠ gb408)) (vM_ HO1_10 (fun _ hk => ⟨⟨hk.1, ⟨hk.2.2.1, hk.2.2.2⟩⟩, hk.2.1⟩)) hg hat)
 have n2_ := mk_ (dJ (ok := (fun k_ => ((P0_ k_ ∨ P1_10_ k_ ∨ P1_11_ k_) ∨ w.heap.size ≤ k_) ∧ nb_ k_ (.slice Ao12 y412.length co12) ∧ k_ ≠ gb408)) (vM_ HO1_11 (fun _ hk => ⟨⟨hk.1, ⟨hk.2.2.1, hk.2.2.2⟩⟩, hk.2.1⟩)) hg hat)
 have n3_ := mk_ (eH (g := gb408) (o := .cells #[.int .i64 a1_0, .int .i64 a1_1, .int .i64 a1_2, .int .i64 a1_3, .int .i64 a1_4, .int .i64 a1_5, .int .i64 a1_6, .int .i64 a1_7, .int .i64 a1_8, .string a1_9, .slice A1_10 l1_10.length c1_10, .slice A1_11 l1_11.length c1_11, .int .i64 a1_12, .int .i64 a1_13] 34 (0, 0)) (Short.bK BK408) hg (N_away HO411.out (fun _ hk => hk.2.2)))
 have n4_ := mk_ (dG (ok := (fun k_ => ((P0_ k_ ∨ P1_10_ k_ ∨ P1_11_ k_) ∨ w.heap.size ≤ k_) ∧ k_ ≠ gb408)) (nM_ HO414 (fun _ hk => ⟨⟨hk.1, hk.2.2⟩, hk.2.1⟩)) hg hat)
 have n5_ := mk_ (hb)
 have n6_ := mk_ (ho)
 clear HO0 HO1_10 HO1_11 BK408 HO414 HB HO411
 revert n0_ n1_ n2_ n3_ n4_ n5_ n6_
 intro HO0 HO1_10 HO1_11 BK408 HO414 HB HO417
 clear ho hb hg hat
 refine hK.out _ _ ⟨kc_ BK408 0, kc_ BK408 1, kc_ BK408 2, kc_ BK408 3, kc_ BK408 4, kc_ BK408 5, kc_ BK408 6, kc_ BK408 7, kc_ BK408 8, kc_ BK408 9, kc_ BK408 10, kc_ BK408 11, kc_ BK408 12, kc_ BK408 13⟩ (fun hHeld => ?_)
 clear hK K
 refine nrm 11 ?_
 refine pure_ (i := 6) (N := some 4) (v := ?_) (a' := ?_) (Steps.Bs 7 127) rfl rfl z1_ (fun _ _ _ h => h) (Or.inl ⟨by rfl, ?_⟩) ?_ ?_
 rotate_left
 ·
  intro w'
  go_simp
  with_reducible rfl
 rotate_left
 ·
  simp only [Act.put, List.setIfInBounds_toArray, List.set_cons_zero, List.set_cons_succ, i64_w, i32_w]
  rfl
 refine done_ z1_ ?_
 try go_wp2
 go_ret
 exact ⟨_, by first | rfl | (simp [bY, bZ] <;> rfl) | (simp [*, bY, bZ] <;> rfl), by (with_reducible repeat (first | apply N_alloc | apply N_drewN | apply N_drew)); exact N_mono HO417.out (fun _ hk => hk.1), Short.hB HB⟩
end Go.Proofs.Ytimbbaoodjhdoaa.PAll
end
section
namespace Go.Proofs.Ytimbbaoodjhdoaa.Plain
open Go.RowKit PrintWords PrintLast PrintMore ZipT PrintWords.Kd PrintMore.Kd
set_option linter.unusedVariables false
set_option linter.unusedSimpArgs false
theorem w64 {x : Int} (h0 : -9223372036854775808 ≤ x) (h1 : x ≤ 9223372036854775807) : wrap64 x = x := by
 unfold wrap64; omega
theorem wu64 {x : Int} (h0 : 0 ≤ x) (h1 : x < 18446744073709551616) : IntKind.u64.wrap x = x := by
 simp [IntKind.wrap, IntKind.bits, IntKind.signed]; omega
theorem u64_mod (x : Int) : IntKind.u64.wrap x = x % 18446744073709551616 := by
 simp [IntKind.wrap, IntKind.bits, IntKind.signed]
def Byte (b : Int) : Prop := 0 ≤ b ∧ b ≤ 255
def Bytes (l : List Int) : Prop := ∀ b ∈ l, Byte b
theorem Bytes.nil : Bytes [] := fun _ h => by cases h
theorem Bytes.cons {b : Int} {l : List Int} (h : Byte b) (k : Bytes l) : Bytes (b :: l) := fun x hx => by
 rcases List.mem_cons.1 hx with rfl | hx
 ·
  exact h
 ·
  exact k x hx
theorem Bytes.tail {b : Int} {l : List Int} (h : Bytes (b :: l)) : Bytes l := fun x hx => h x (List.mem_cons_of_mem _ hx)
theorem Bytes.append {a b : List Int} (h : Bytes a) (k : Bytes b) : Bytes (a ++ b) := fun x hx => by
 rcases List.mem_append.1 hx with hx | hx
 ·
  exact h x hx
 ·
  exact k x hx
theorem Bytes.take {a : List Int} (h : Bytes a) (n : Nat) : Bytes (a.take n) := fun x hx => h x (List.mem_of_mem_take hx)
theorem Bytes.drop {a : List Int} (h : Bytes a) (n : Nat) : Bytes (a.drop n) := fun x hx => h x (List.mem_of_mem_drop hx)
theorem Bytes.rd {l : List Int} (h : Bytes l) (i : Int) : Byte (rd l i) := by
 show Byte (l.getD i.toNat 0)
 rcases Nat.lt_or_ge i.toNat l.length with hi | hi
 ·
  rw [List.getD_eq_getElem?_getD, List.getElem?_eq_getElem hi]; exact h _ (List.getElem_mem hi)
 ·
  rw [List.getD_eq_getElem?_getD, List.getElem?_eq_none hi]; exact ⟨by decide, by decide⟩
end Go.Proofs.Ytimbbaoodjhdoaa.Plain
end
section
namespace Go.Proofs.Ytimbbaoodjhdoaa.Plain
open Go.RowKit PAll PrintWords PrintLast PrintMore ZipT PrintWords.Kd PrintMore.Kd
set_option linter.unusedVariables false
set_option linter.unusedSimpArgs false
theorem rd_drop {l : List Int} {i : Nat} {b : Int} {m : List Int} (h : l.drop i = b :: m) : rd l i = b := by
 have hi : i < l.length := by
  rcases Nat.lt_or_ge i l.length with h1 | h1
  ·
   exact h1
  ·
   rw [List.drop_eq_nil_of_le h1] at h; cases h
 show l.getD (i : Int).toNat 0 = b
 rw [List.getD_eq_getElem?_getD, Int.toNat_natCast, List.getElem?_eq_getElem hi]
 have := List.drop_eq_getElem_cons hi
 rw [this] at h
 injection h
theorem drop_tail {l : List Int} {i : Nat} {b : Int} {m : List Int} (h : l.drop i = b :: m) : l.drop (i + 1) = m := by
 have := congrArg List.tail h
 rwa [List.tail_drop] at this
end Go.Proofs.Ytimbbaoodjhdoaa.Plain
end
