/-
  Where a pad lies in memory.
  Conditions: none; plain definitions and theorems.
-/
import Derived.Test.YtjpaaicgkdnalaaSep
import Derived.Test.YtjpaaicgkdnalaaPadSpec
namespace Go.Proofs.Ytjpaaicgkdnalaa.Pads
open Go.RowKit Go.Proofs.YtjpaaicgkdnalaaW.PrintWords Go.Proofs.Ytjpaaicgkdnalaa.Sep
set_option linter.unusedVariables false
/-- A slot in memory. -/
def kSl : Kd Sl := Kd.pair (Kd.slice 5 (Kd.int .u8)) Kd.bool
/-- The crash that is to come. -/
def TripP (t : Value) : Option (Int × List Bool × Int) → Part
  | none => Part.pure (t = .pointer none)
  | some (n, keep, torn) => Part.ex fun h : Nat => Part.ex fun v : Value => Part.all [Part.pure (t = .pointer (some ⟨h, 0, none⟩)), Blk h (.cells #[.int .i64 n, v, .int .i64 torn] 63 (0, 0)), Row Kd.bool 4 v keep]
/-- A pad, behind whatever pointer to a crash. -/
def PadQ (g : Nat) (p : Pd) (t : Value) : Part := Part.ex fun v : Value => Part.all [Blk g (.cells #[v, .int .i64 p.safe, .bool p.off, .int .i64 p.life, t] 58 (0, 0)), Row kSl 60 v p.slots]
/-- A pad. -/
def PadP (g : Nat) (p : Pd) : Part := Part.ex fun t : Value => Part.all [PadQ g p t, TripP t p.arm]
section
variable {w : World} {g : Nat} {p : Pd} {t : Value} {F : List Part}
theorem PadQ.open (h : Sp w (PadQ g p t :: F)) : ∃ v, Sp w (Blk g (.cells #[v, .int .i64 p.safe, .bool p.off, .int .i64 p.life, t] 58 (0, 0)) :: Row kSl 60 v p.slots :: F) := by
  obtain ⟨v, h⟩ := h.ofEx
  exact ⟨v, h.ofAll⟩
theorem PadQ.shut {v : Value} (h : Sp w (Blk g (.cells #[v, .int .i64 p.safe, .bool p.off, .int .i64 p.life, t] 58 (0, 0)) :: Row kSl 60 v p.slots :: F)) : Sp w (PadQ g p t :: F) :=
  Sp.toEx (f := fun v : Value => Part.all [Blk g (.cells #[v, .int .i64 p.safe, .bool p.off, .int .i64 p.life, t] 58 (0, 0)), Row kSl 60 v p.slots]) v (Sp.toAll (ps := [_, _]) h)
theorem PadP.open (h : Sp w (PadP g p :: F)) : ∃ t, Sp w (PadQ g p t :: TripP t p.arm :: F) := by
  obtain ⟨t, h⟩ := h.ofEx
  exact ⟨t, h.ofAll⟩
theorem PadP.shut (h : Sp w (PadQ g p t :: TripP t p.arm :: F)) : Sp w (PadP g p :: F) :=
  Sp.toEx (f := fun t : Value => Part.all [PadQ g p t, TripP t p.arm]) t (Sp.toAll (ps := [_, _]) h)
theorem TripP.open {n : Int} {keep : List Bool} {torn : Int} (h : Sp w (TripP t (some (n, keep, torn)) :: F)) :
    ∃ (b : Nat) (v : Value), t = .pointer (some ⟨b, 0, none⟩) ∧ Sp w (Blk b (.cells #[.int .i64 n, v, .int .i64 torn] 63 (0, 0)) :: Row Kd.bool 4 v keep :: F) := by
  obtain ⟨b, h⟩ := h.ofEx
  obtain ⟨v, h⟩ := h.ofEx
  obtain ⟨h1, h2⟩ := Sp.ofPure h.ofAll
  exact ⟨b, v, h1, h2⟩
theorem TripP.shut {n : Int} {keep : List Bool} {torn : Int} {b : Nat} {v : Value} (h : Sp w (Blk b (.cells #[.int .i64 n, v, .int .i64 torn] 63 (0, 0)) :: Row Kd.bool 4 v keep :: F)) :
    Sp w (TripP (.pointer (some ⟨b, 0, none⟩)) (some (n, keep, torn)) :: F) :=
  Sp.toEx (f := fun h : Nat => Part.ex fun v : Value => Part.all [Part.pure ((.pointer (some ⟨b, 0, none⟩) : Value) = .pointer (some ⟨h, 0, none⟩)), Blk h (.cells #[.int .i64 n, v, .int .i64 torn] 63 (0, 0)), Row Kd.bool 4 v keep]) b
    (Sp.toEx (f := fun v : Value => Part.all [Part.pure ((.pointer (some ⟨b, 0, none⟩) : Value) = .pointer (some ⟨b, 0, none⟩)), Blk b (.cells #[.int .i64 n, v, .int .i64 torn] 63 (0, 0)), Row Kd.bool 4 v keep]) v (Sp.toAll (ps := [_, _, _]) (Sp.toPure rfl h)))
theorem TripP.none_ (h : Sp w (TripP t none :: F)) : t = .pointer none ∧ Sp w F := Sp.ofPure h
theorem TripP.none_mk (h : Sp w F) : Sp w (TripP (.pointer none) none :: F) := Sp.toPure rfl h
end
end Go.Proofs.Ytjpaaicgkdnalaa.Pads
