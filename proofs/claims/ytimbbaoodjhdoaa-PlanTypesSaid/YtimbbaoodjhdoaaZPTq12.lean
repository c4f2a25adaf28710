-- Put together by a program of this session (wip/slice2.py) out of the seat's texts.
import Derived.Test.YtimbbaoodjhdoaaZPTp6
import Derived.Test.YtimbbaoodjhdoaaZPTq11

set_option maxHeartbeats 8000000
set_option maxRecDepth 100000
open Go.Proofs.YtimbbaoodjhdoaaW Go.Proofs.Ytimbbaoodjhdoaa
section
namespace Go.Proofs.Ytimbbaoodjhdoaa.Plan
open Go.RowKit PAll Plain PrintWords PrintLast PrintMore ZipT PrintWords.Kd PrintMore.Kd
set_option linter.unusedVariables false
set_option linter.unusedSimpArgs false
section
variable {x : No} {A5 A6 : Option Addr} {c5 c6 : Nat}
end
end Go.Proofs.Ytimbbaoodjhdoaa.Plan
namespace Go.Proofs.Ytimbbaoodjhdoaa.PAll
open Go.RowKit Plan Plain PrintWords PrintLast PrintMore ZipT PrintWords.Kd PrintMore.Kd
set_option linter.unusedVariables false
set_option linter.unusedSimpArgs false
def dC.f (l0 : List No) (l1 : List Tb) : Option (List Bo × Int) := if planSmall l0 l1 then some ((planN l0 l1).1.map ofNd, (planN l0 l1).2) else none
theorem dC.calls (A0 : Option Addr) (c0 : Nat) (l0 : List No) (A1 : Option Addr) (c1 : Nat) (l1 : List Tb) (r1 : List Bo) (r2 : Int) (w : World) (hr0 : Kd.C k34 w A0 l0.length l0) (hc0 : l0.length ≤ c0) (hr1 : Kd.C k54 w A1 l1.length l1) (hc1 : l1.length ≤ c1) (h : dC.f l0 l1 = some (r1, r2)) :
  Calls Try.prog 11 #[.slice A0 l0.length c0, .slice A1 l1.length c1] w fun e w' => ∃ v0_ : Value, e = .returned (.tuple #[v0_, .int .i64 r2]) ∧ Kd.S k49 49 w' w.heap.size (fun _ => True) v0_ r1 ∧ Below w.heap.size w w' := by
 unfold dC.f at h
 split at h
 ·
  rename_i hs
  obtain ⟨rfl, rfl⟩ := Prod.mk.inj (Option.some.inj h)
  exact plan14_calls A0 c0 l0 A1 c1 l1 w hr0 hc0 hr1 hc1 hs.1 (by have := hs.2.1; omega) hs.2.2.1 hs.2.2.2
 ·
  cases h
end Go.Proofs.Ytimbbaoodjhdoaa.PAll
end
