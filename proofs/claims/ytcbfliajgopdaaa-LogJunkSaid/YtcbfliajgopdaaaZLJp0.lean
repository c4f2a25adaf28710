-- Put together by a program of this session (wip/slice2.py) out of the seat's texts.
import Derived.Test.YtcbfliajgopdaaaZLJT

section
namespace Go.Proofs.Ytcbfliajgopdaaa.Pads
open Go.RowKit Go.Proofs.YtcbfliajgopdaaaW.PrintWords Go.Proofs.Ytcbfliajgopdaaa.ZipT Go.Proofs.YtcbfliajgopdaaaW.PrintWords.Kd Go.Proofs.YtcbfliajgopdaaaW.PrintMore.Kd
set_option linter.unusedVariables false
abbrev Sl := List Int × Bool
structure Pd where
 slots : List Sl
 safe : Nat
 off : Bool
 life : Int
 arm : Option (Int × List Bool × Int)
def lost (keep : List Bool) (torn : Int) (k : Nat) : Prop := (k : Int) = torn ∨ keep.getD k false = false
instance (keep : List Bool) (torn : Int) (k : Nat) : Decidable (lost keep torn k) := by unfold lost; infer_instance
def spoil (keep : List Bool) (torn : Int) : Nat → List Sl → List Sl
 | _, [] => []
 | k, s :: r => (if lost keep torn k then ([], true) else s) :: spoil keep torn (k + 1) r
theorem spoil_length (keep : List Bool) (torn : Int) : ∀ (l : List Sl) (k : Nat), (spoil keep torn k l).length = l.length
 | [], _ => rfl
 | s :: r, k => by simp [spoil, spoil_length keep torn r (k + 1)]
theorem spoil_get (keep : List Bool) (torn : Int) : ∀ (l : List Sl) (k i : Nat), (spoil keep torn k l)[i]? = l[i]?.map (fun s => if lost keep torn (k + i) then ([], true) else s)
 | [], _, _ => by simp [spoil]
 | s :: r, k, 0 => by simp [spoil]
 | s :: r, k, i + 1 => by simp [spoil, spoil_get keep torn r (k + 1) i, Nat.add_assoc, Nat.add_comm 1 i]
namespace Pd
def crash (p : Pd) (keep : List Bool) (torn : Int) : Pd :=
 if p.off then p else { slots := p.slots.take p.safe ++ spoil keep torn 0 (p.slots.drop p.safe), safe := p.slots.length, off := true, life := wrap64 (p.life + 1), arm := none }
def spend (p : Pd) : Pd × Bool :=
 match p.arm with
 | none => (p, true)
 | some (n, k, t) => if n - 1 > 0 then ({ p with arm := some (n - 1, k, t) }, true) else (({ p with arm := some (n - 1, k, t) } : Pd).crash k t, false)
def append (p : Pd) (b : List Int) : Pd × Int :=
 if p.off then (p, 5) else if b.length > 65536 then (p, 2) else if p.slots.length ≥ 4000 then (p, 6)
 else ((({ p with slots := p.slots ++ [(b, false)] } : Pd).spend).1, if (({ p with slots := p.slots ++ [(b, false)] } : Pd).spend).2 then 0 else 5)
def sync (p : Pd) : Pd × Int :=
 if p.off then (p, 5) else if p.spend.2 then ({ p.spend.1 with safe := p.spend.1.slots.length }, 0) else (p.spend.1, 5)
def cut (p : Pd) (n : Int) : Pd × Int :=
 if p.off then (p, 5) else if n < 0 ∨ n > p.slots.length then (p, 1)
 else if p.spend.2 then ({ p.spend.1 with slots := p.spend.1.slots.take n.toNat, safe := min p.spend.1.safe n.toNat }, 0) else (p.spend.1, 5)
def start (p : Pd) : Pd := { p with off := false }
def read (p : Pd) (i : Int) : List Int × Int :=
 if p.off then ([], 5) else if i < 0 ∨ i ≥ p.slots.length then ([], 7)
 else if (p.slots.getD i.toNat ([], false)).2 then ([], 13) else ((p.slots.getD i.toNat ([], false)).1, 0)
structure Ok (p : Pd) : Prop where
 safe : p.safe ≤ p.slots.length
 len : p.slots.length ≤ 4000
 arm : ∀ n k t, p.arm = some (n, k, t) → 1 ≤ n ∧ n ≤ 9223372036854775807 ∧ k.length ≤ 140737488351232
 bytes : ∀ s ∈ p.slots, s.1.length ≤ 65536
def new : Pd := ⟨[], 0, false, 0, none⟩
theorem new_ok : new.Ok := ⟨Nat.le_refl _, by decide, (fun _ _ _ h => by cases h), (fun s hs => by cases hs)⟩
theorem crash_slots_length (p : Pd) (hs : p.safe ≤ p.slots.length) (keep : List Bool) (torn : Int) : (p.crash keep torn).slots.length = p.slots.length := by
 unfold crash
 split
 ·
  rfl
 ·
  simp only [List.length_append, List.length_take, spoil_length, List.length_drop]; omega
theorem crash_ok {p : Pd} (h : p.Ok) (keep : List Bool) (torn : Int) : (p.crash keep torn).Ok := by
 have hl := crash_slots_length p h.safe keep torn
 refine ⟨?_, by rw [hl]; exact h.len, ?_, ?_⟩
 ·
  rw [hl]
  unfold crash
  split
  ·
   exact h.safe
  ·
   exact Nat.le_refl _
 ·
  intro n k t he
  unfold crash at he
  split at he
  ·
   exact h.arm n k t he
  ·
   cases he
 ·
  intro s hs
  unfold crash at hs
  split at hs
  ·
   exact h.bytes s hs
  ·
   rcases List.mem_append.1 hs with hs | hs
   ·
    exact h.bytes s (List.mem_of_mem_take hs)
   ·
    obtain ⟨i, hi⟩ := List.mem_iff_getElem?.1 hs
    rw [spoil_get] at hi
    obtain ⟨q, hq, rfl⟩ := Option.map_eq_some_iff.1 hi
    split
    ·
     decide
    ·
     exact h.bytes q (List.mem_of_mem_drop (List.mem_of_getElem? hq))
theorem crash_on (p : Pd) (h : p.off = false) (keep : List Bool) (torn : Int) : p.crash keep torn = { slots := p.slots.take p.safe ++ spoil keep torn 0 (p.slots.drop p.safe), safe := p.slots.length, off := true, life := wrap64 (p.life + 1), arm := none } := by
 unfold crash; rw [if_neg (by simp [h])]
theorem crash_off (p : Pd) (h : p.off = true) (keep : List Bool) (torn : Int) : p.crash keep torn = p := by
 unfold crash; rw [if_pos h]
theorem spend_none {p : Pd} (h : p.arm = none) : p.spend = (p, true) := by unfold spend; rw [h]
theorem spend_go {p : Pd} {n : Int} {k : List Bool} {t : Int} (h : p.arm = some (n, k, t)) (hn : n - 1 > 0) : p.spend = ({ p with arm := some (n - 1, k, t) }, true) := by
 unfold spend; rw [h]; simp only [if_pos hn]
theorem spend_crash {p : Pd} {n : Int} {k : List Bool} {t : Int} (h : p.arm = some (n, k, t)) (hn : ¬ n - 1 > 0) : p.spend = (({ p with arm := some (n - 1, k, t) } : Pd).crash k t, false) := by
 unfold spend; rw [h]; simp only [if_neg hn]
theorem crash_arm (p : Pd) (h : p.off = false) (a : Option (Int × List Bool × Int)) (keep : List Bool) (torn : Int) : ({ p with arm := a } : Pd).crash keep torn = p.crash keep torn := by
 rw [crash_on p h]; exact crash_on ({ p with arm := a } : Pd) h keep torn
theorem spend_ok {p : Pd} (h : p.Ok) (hoff : p.off = false) : p.spend.1.Ok := by
 rcases ha : p.arm with _ | ⟨n, k, t⟩
 ·
  rw [spend_none ha]; exact h
 ·
  obtain ⟨h1, h2, h3⟩ := h.arm n k t ha
  by_cases hn : n - 1 > 0
  ·
   rw [spend_go ha hn]
   exact ⟨h.safe, h.len, fun n' k' t' he' => by
    simp only [Option.some.injEq, Prod.mk.injEq] at he'
    obtain ⟨rfl, rfl, rfl⟩ := he'
    exact ⟨by omega, by omega, h3⟩, h.bytes⟩
  ·
   rw [spend_crash ha hn]
   show (Pd.crash _ k t).Ok
   rw [crash_arm p hoff]
   exact crash_ok h k t
theorem spend_true {p : Pd} (h : p.spend.2 = true) : p.spend.1.slots = p.slots ∧ p.spend.1.safe = p.safe ∧ p.spend.1.off = p.off ∧ p.spend.1.life = p.life := by
 rcases ha : p.arm with _ | ⟨n, k, t⟩
 ·
  rw [spend_none ha]; exact ⟨rfl, rfl, rfl, rfl⟩
 ·
  by_cases hn : n - 1 > 0
  ·
   rw [spend_go ha hn]; exact ⟨rfl, rfl, rfl, rfl⟩
  ·
   rw [spend_crash ha hn] at h; cases h
theorem append_ok {p : Pd} (h : p.Ok) (b : List Int) : (p.append b).1.Ok := by
 unfold append
 split
 ·
  exact h
 ·
  rename_i hoff
  split
  ·
   exact h
  ·
   rename_i hb
   split
   ·
    exact h
   ·
    exact spend_ok ⟨by have := h.safe; simp; omega, by simp; omega, h.arm, fun s hs => by
     rcases List.mem_append.1 hs with hs | hs
     ·
      exact h.bytes s hs
     ·
      rw [List.mem_singleton.1 hs]; exact Nat.le_of_not_lt hb⟩ (by simpa using hoff)
theorem start_ok {p : Pd} (h : p.Ok) : p.start.Ok := ⟨h.safe, h.len, h.arm, h.bytes⟩
end Pd
end Go.Proofs.Ytcbfliajgopdaaa.Pads
end
