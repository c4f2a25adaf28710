-- Put together by a program of this session (wip/slice2.py) out of the seat's texts.
import Derived.Test.YtimbbaoodjhdoaaZPTp6
import Derived.Test.YtimbbaoodjhdoaaZPTq3

set_option maxHeartbeats 8000000
set_option maxRecDepth 100000
open Go.Proofs.YtimbbaoodjhdoaaW Go.Proofs.Ytimbbaoodjhdoaa
section
namespace Go.Proofs.Ytimbbaoodjhdoaa.PAll
open Go.RowKit Plan Plain PrintWords PrintLast PrintMore ZipT PrintWords.Kd PrintMore.Kd
set_option linter.unusedVariables false
set_option linter.unusedSimpArgs false
def planSmall (l : List No) (f : List Tb) : Prop := l.length ≤ 1000 ∧ f.length ≤ 100 ∧ (∀ x ∈ l, x.f5.length ≤ 1000 ∧ x.f6.length ≤ 1000) ∧ (∀ t ∈ f, t.f0.length ≤ 1000)
instance (l : List No) (f : List Tb) : Decidable (planSmall l f) := by unfold planSmall; infer_instance
theorem last_len (l : List No) (f : List Tb) : (lastN l f).1.length ≤ 12 := by
 unfold lastN
 rw [List.getD_eq_getElem?_getD]
 cases h : (planN l f).1[l.length - 1]? with
 | none => exact Nat.zero_le _
 | some d => exact (planN_ok d (List.mem_of_getElem? h)).len
def bA.f (l0 : List No) (l1 : List Tb) : Option (List Int × Int) := if planSmall l0 l1 then some ((lastN l0 l1).1, (planN l0 l1).2) else none
def cW.f (l0 : List No) (l1 : List Tb) : Option (Int × Int × Int) := if planSmall l0 l1 then some ((lastN l0 l1).2.1, (lastN l0 l1).2.2, (planN l0 l1).2) else none
theorem bA.calls (A0 : Option Addr) (c0 : Nat) (l0 : List No) (A1 : Option Addr) (c1 : Nat) (l1 : List Tb) (r1 : List Int) (r2 : Int) (w : World) (hr0 : Kd.C k34 w A0 l0.length l0) (hc0 : l0.length ≤ c0) (hr1 : Kd.C k54 w A1 l1.length l1) (hc1 : l1.length ≤ c1) (h : bA.f l0 l1 = some (r1, r2)) :
  Calls Try.prog 12 #[.slice A0 l0.length c0, .slice A1 l1.length c1] w fun e w' => ∃ v0_ : Value, e = .returned (.tuple #[v0_, .int .i64 r2]) ∧ Kd.R (Kd.int .i64) 3 w' w.heap.size (fun _ => True) v0_ r1 ∧ Below w.heap.size w w' := by
 unfold bA.f at h
 split at h
 ·
  rename_i hs
  obtain ⟨h1, h2⟩ := Prod.mk.inj (Option.some.inj h)
  have HL := mk_ (last_calls A0 c0 l0 A1 c1 l1 w hr0 hc0 hr1 hc1 hs.1 (by have := hs.2.1; omega) hs.2.2.1 hs.2.2.2)
  rw [h2] at HL
  have hlen := last_len l0 l1
  have HLN := mk_ hlen
  have H1 := mk_ h1
  clear h hs h1 h2 hr0 hr1 hlen
  generalize lastN l0 l1 = d at *
  go_enter Try.func12, Try.ntmps12
  go_wp2_with (first
   | (go_at_call 28; refine HL.out.mono ?_; rintro e V ⟨u, rfl, hru, hq⟩; obtain ⟨Au, cu, rfl, hcu, hCu⟩ := dE hru; have HQ := mk_ hq; have HCU := mk_ hCu; have HCL := mk_ hcu; clear hru hq hCu hcu)
   | (go_at_call 29; refine (dH.calls Au cu d.1 d.1 _ (aN HCU.out (aM (Below.refl _ _) _)) HCL.out (by unfold dH.f; rw [Option.bind_some, if_pos (by have := HLN.out; simp only [List.length_nil]; omega), List.nil_append])).mono ?_; rintro e V2 ⟨u2, rfl, hr2, hq2⟩; have HR2 := mk_ hr2; have HQ2 := mk_ hq2; clear hr2 hq2))
  go_ret2
  have hq3 := aG HQ.out (aG (aM (Below.refl _ _) _) HQ2.out)
  rw [← H1.out]
  exact ⟨_, rfl, bT HR2.out (Nat.le_trans HQ.out.size (by simp)), hq3⟩
 ·
  cases h
theorem cW.calls (A0 : Option Addr) (c0 : Nat) (l0 : List No) (A1 : Option Addr) (c1 : Nat) (l1 : List Tb) (r1 : Int) (r2 : Int) (r3 : Int) (w : World) (hr0 : Kd.C k34 w A0 l0.length l0) (hc0 : l0.length ≤ c0) (hr1 : Kd.C k54 w A1 l1.length l1) (hc1 : l1.length ≤ c1) (h : cW.f l0 l1 = some (r1, r2, r3)) :
  Calls Try.prog 13 #[.slice A0 l0.length c0, .slice A1 l1.length c1] w fun e w' => e = .returned (.tuple #[.int .i64 r1, .int .i64 r2, .int .i64 r3]) ∧ Below w.heap.size w w' := by
 unfold cW.f at h
 split at h
 ·
  rename_i hs
  obtain ⟨h1, h23⟩ := Prod.mk.inj (Option.some.inj h)
  obtain ⟨h2, h3⟩ := Prod.mk.inj h23
  have HL := mk_ (last_calls A0 c0 l0 A1 c1 l1 w hr0 hc0 hr1 hc1 hs.1 (by have := hs.2.1; omega) hs.2.2.1 hs.2.2.2)
  rw [h1, h2, h3] at HL
  clear h hs h1 h23 h2 h3 hr0 hr1
  generalize (lastN l0 l1).1 = ts at *
  go_enter Try.func13, Try.ntmps13
  go_wp2_with (go_at_call 28; refine HL.out.mono ?_; rintro e V ⟨u, rfl, hru, hq⟩; obtain ⟨Au, cu, rfl, hcu, hCu⟩ := dE hru; have HQ := mk_ hq; clear hru hq hCu hcu)
  go_quiet (fail)
  go_wp2
  go_ret3
  exact ⟨rfl, by repeat (first | exact HQ.out | refine aM ?_ _ | refine bP ?_ | refine aZ ?_ _)⟩
 ·
  cases h
end Go.Proofs.Ytimbbaoodjhdoaa.PAll
end
