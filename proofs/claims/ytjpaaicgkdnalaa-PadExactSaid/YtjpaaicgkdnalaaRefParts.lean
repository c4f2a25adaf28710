/-
  The page's pad (raddleref09), where it lies in memory: told by the program's pad that it is like.
  Conditions: none.
-/
import Derived.Test.YtjpaaicgkdnalaaSepR
import Derived.Test.YtjpaaicgkdnalaaPadPlain
namespace Go.Proofs.Ytjpaaicgkdnalaa.Pads
open Go.RowKit Go.Proofs.YtjpaaicgkdnalaaW.PrintWords Go.Proofs.Ytjpaaicgkdnalaa.Sep
set_option linter.unusedVariables false
/-- A spoilt slot's bytes are none's. -/
def norm (s : Sl) : Sl := if s.2 then ([], true) else s
theorem norm_snd (s : Sl) : (norm s).2 = s.2 := by unfold norm; split <;> simp_all
theorem norm_fst (s : Sl) (h : s.2 = false) : (norm s).1 = s.1 := by unfold norm; rw [if_neg (by rw [h]; decide)]
theorem norm_true (b : List Int) : norm (b, true) = ([], true) := rfl
theorem norm_false (b : List Int) : norm (b, false) = (b, false) := rfl
/-- What is armed. -/
def Armed (a : Option (Int × List Bool × Int)) (arm : Int) (keep : List Bool) (torn : Int) : Prop := 0 ≤ arm ∧ a = if 0 < arm then some (arm, keep, torn) else none
def RefC (g : Nat) (l : List Sl) (safe : Nat) (off : Bool) (life arm : Int) (vk : Value) (torn : Int) : Part :=
  Part.ex fun v : Value => Part.ex fun raw : List Sl => Part.all [Part.pure (raw.map norm = l), Blk g (.cells #[v, .int .i64 safe, .bool off, .int .i64 life, .int .i64 arm, vk, .int .i64 torn] 51 (0, 0)), RowQ kSl 66 v raw]
/-- The page's pad that is like p. -/
def RefP (g : Nat) (p : Pd) : Part := Part.ex fun arm : Int => Part.ex fun keep : List Bool => Part.ex fun torn : Int => Part.ex fun vk : Value => Part.all [Part.pure (Armed p.arm arm keep torn), RefC g p.slots p.safe p.off p.life arm vk torn, Row Kd.bool 4 vk keep]
section
variable {w : World} {g : Nat} {p : Pd} {F : List Part} {l : List Sl} {safe : Nat} {off : Bool} {life arm torn : Int} {vk : Value} {keep : List Bool}
theorem RefC.open (h : Sp w (RefC g l safe off life arm vk torn :: F)) : ∃ (v : Value) (raw : List Sl), raw.map norm = l ∧ Sp w (Blk g (.cells #[v, .int .i64 safe, .bool off, .int .i64 life, .int .i64 arm, vk, .int .i64 torn] 51 (0, 0)) :: RowQ kSl 66 v raw :: F) := by
  obtain ⟨v, h⟩ := h.ofEx
  obtain ⟨raw, h⟩ := h.ofEx
  obtain ⟨h1, h2⟩ := Sp.ofPure h.ofAll
  exact ⟨v, raw, h1, h2⟩
theorem RefC.shut {v : Value} {raw : List Sl} (hr : raw.map norm = l) (h : Sp w (Blk g (.cells #[v, .int .i64 safe, .bool off, .int .i64 life, .int .i64 arm, vk, .int .i64 torn] 51 (0, 0)) :: RowQ kSl 66 v raw :: F)) : Sp w (RefC g l safe off life arm vk torn :: F) :=
  Sp.toEx (f := fun v : Value => Part.ex fun raw : List Sl => Part.all [Part.pure (raw.map norm = l), Blk g (.cells #[v, .int .i64 safe, .bool off, .int .i64 life, .int .i64 arm, vk, .int .i64 torn] 51 (0, 0)), RowQ kSl 66 v raw]) v
    (Sp.toEx (f := fun raw : List Sl => Part.all [Part.pure (raw.map norm = l), Blk g (.cells #[v, .int .i64 safe, .bool off, .int .i64 life, .int .i64 arm, vk, .int .i64 torn] 51 (0, 0)), RowQ kSl 66 v raw]) raw (Sp.toAll (ps := [_, _, _]) (Sp.toPure hr h)))
theorem RefP.open (h : Sp w (RefP g p :: F)) : ∃ (arm : Int) (keep : List Bool) (torn : Int) (vk : Value), Armed p.arm arm keep torn ∧ Sp w (RefC g p.slots p.safe p.off p.life arm vk torn :: Row Kd.bool 4 vk keep :: F) := by
  obtain ⟨arm, h⟩ := h.ofEx
  obtain ⟨keep, h⟩ := h.ofEx
  obtain ⟨torn, h⟩ := h.ofEx
  obtain ⟨vk, h⟩ := h.ofEx
  obtain ⟨h1, h2⟩ := Sp.ofPure h.ofAll
  exact ⟨arm, keep, torn, vk, h1, h2⟩
theorem RefP.shut (ha : Armed p.arm arm keep torn) (h : Sp w (RefC g p.slots p.safe p.off p.life arm vk torn :: Row Kd.bool 4 vk keep :: F)) : Sp w (RefP g p :: F) :=
  Sp.toEx (f := fun arm : Int => Part.ex fun keep : List Bool => Part.ex fun torn : Int => Part.ex fun vk : Value => Part.all [Part.pure (Armed p.arm arm keep torn), RefC g p.slots p.safe p.off p.life arm vk torn, Row Kd.bool 4 vk keep]) arm
    (Sp.toEx (f := fun keep : List Bool => Part.ex fun torn : Int => Part.ex fun vk : Value => Part.all [Part.pure (Armed p.arm arm keep torn), RefC g p.slots p.safe p.off p.life arm vk torn, Row Kd.bool 4 vk keep]) keep
      (Sp.toEx (f := fun torn : Int => Part.ex fun vk : Value => Part.all [Part.pure (Armed p.arm arm keep torn), RefC g p.slots p.safe p.off p.life arm vk torn, Row Kd.bool 4 vk keep]) torn
        (Sp.toEx (f := fun vk : Value => Part.all [Part.pure (Armed p.arm arm keep torn), RefC g p.slots p.safe p.off p.life arm vk torn, Row Kd.bool 4 vk keep]) vk (Sp.toAll (ps := [_, _, _]) (Sp.toPure ha h)))))
theorem raw_length {raw : List Sl} (h : raw.map norm = l) : raw.length = l.length := by rw [← h, List.length_map]
theorem raw_get {raw : List Sl} (h : raw.map norm = l) (i : Nat) (hi : i < l.length) : norm (raw.getD i ([], false)) = l.getD i ([], false) := by
  subst h
  rw [List.length_map] at hi
  simp [List.getD_eq_getElem?_getD, hi]
theorem raw_set {raw : List Sl} (h : raw.map norm = l) (i : Nat) (b : List Int) : (raw.set i (b, true)).map norm = l.set i ([], true) := by
  subst h
  rw [List.map_set]
  rfl
/-- What the cells of the page's pad hold. -/
theorem cells_R (hS : Sp w (RefC g l safe off life arm vk torn :: F)) : ∃ (A : Option Addr) (c : Nat), l.length ≤ c ∧ w.cell? ⟨g, 0, none⟩ = some (.slice A l.length c) ∧ w.cell? ⟨g, 1, none⟩ = some (.int .i64 safe) ∧ w.cell? ⟨g, 2, none⟩ = some (.bool off) ∧ w.cell? ⟨g, 3, none⟩ = some (.int .i64 life) ∧ w.cell? ⟨g, 4, none⟩ = some (.int .i64 arm) ∧ w.cell? ⟨g, 5, none⟩ = some vk ∧ w.cell? ⟨g, 6, none⟩ = some (.int .i64 torn) ∧ ∀ j, w.frozen? ⟨g, j, none⟩ = false := by
  obtain ⟨v, raw, hr, hS⟩ := RefC.open hS
  obtain ⟨A, c, rfl, hc, _⟩ := hS.tail.rowQ
  rw [raw_length hr] at hS hc
  exact ⟨A, c, hc, blk_cell hS.blk 0, blk_cell hS.blk 1, blk_cell hS.blk 2, blk_cell hS.blk 3, blk_cell hS.blk 4, blk_cell hS.blk 5, blk_cell hS.blk 6, fun j => blk_frozen hS.blk j⟩
end
end Go.Proofs.Ytjpaaicgkdnalaa.Pads
