/-
  No cell of these rows narrows 'for every input' (looked for: loops, veiled, ifaces, maps, wideKeys, modest, calm, conditions, laid).
  DERIVED. THE GIVEN ROWS OF THIS SEAT. 7 by the template 'for every input the law returns true; each argument reads behind the call as it read before'; 0 by the template 'total and deterministic' (their statements: YtimbbaoodjhdoaaTotals.lean).
  GIVEN WITH THE SEED: the statements are not yours to turn. If you find one false, say at which input.
  Laid BY PROGRAM, IN A SANDBOX (cutbox-rows.mjs): the forced cells as the released guide's own fill.sh prints them over the translation 8b37167f9c8f7611… (all of the seat's roots in one cut). By AI agents, Wed Nov 11 2026. No macro, syntax, notation, axiom, sorry.
-/
import Derived.Test.YtimbbaoodjhdoaaChecked
import GoSem.Claim
import GoSem.ClaimJoined
import GoSem.ClaimMapViews
import Derived.JoinedTies
import Derived.KernelRfl
namespace Go.Proofs.Ytimbbaoodjhdoaa
/- THE CELL 'sum', in the pinned program and in every row, IS THE sha256 OF THE DUMP (.gsa) THAT YtimbbaoodjhdoaaProg.lean LOADS. Nothing in Lean hashes anything: it is a label: what it is worth is what the hold of that sum in a sandbox is worth. -/
noncomputable def Try.pinned : Pinned := { name := "ytimbbaoodjhdoaa", sum := "8b37167f9c8f761187e0d53d5098dbd20f378860ef97f5ea100491763a0666b5", checked := Try.checked }
namespace Rows
def none {H : Type} : Left H := { results := [], args := [] }

/-- 'raddlelaw20.PlanGrows': WHATEVER THE INPUT: true; the input reads as it did. -/
def planGrowsSpec : ChangeSpec := { name := "planGrows", fn := fun _ => fun
  | [d1, d2] => { results := [.lit (.bool true)], args := [d1, d2] }
  | _ => none }
def planGrowsRow : OpenClaim := { program := "ytimbbaoodjhdoaa", sum := "8b37167f9c8f761187e0d53d5098dbd20f378860ef97f5ea100491763a0666b5", func := "raddle/raddlelaw20.PlanGrows", spec := "planGrows", unfollowed := true, recurses := true, apart := false }
def PlanGrowsSaid : Prop := planGrowsRow.holds Try.pinned (OpenSpec.ofChange planGrowsSpec)

/-- ITS FALSE NEIGHBOUR: 'it returns false'. Refute it at one input. -/
def planGrowsWrong : ChangeSpec := { name := "planGrows", fn := fun _ => fun
  | [d1, d2] => { results := [.lit (.bool false)], args := [d1, d2] }
  | _ => none }
def PlanGrowsWrongFalsely : Prop := planGrowsRow.holds Try.pinned (OpenSpec.ofChange planGrowsWrong)

/-- 'raddlelaw20.PlanBounds': WHATEVER THE INPUT: true; the input reads as it did. -/
def planBoundsSpec : ChangeSpec := { name := "planBounds", fn := fun _ => fun
  | [d1, d2] => { results := [.lit (.bool true)], args := [d1, d2] }
  | _ => none }
def planBoundsRow : OpenClaim := { program := "ytimbbaoodjhdoaa", sum := "8b37167f9c8f761187e0d53d5098dbd20f378860ef97f5ea100491763a0666b5", func := "raddle/raddlelaw20.PlanBounds", spec := "planBounds", unfollowed := true, recurses := true, apart := false }
def PlanBoundsSaid : Prop := planBoundsRow.holds Try.pinned (OpenSpec.ofChange planBoundsSpec)

/-- ITS FALSE NEIGHBOUR: 'it returns false'. Refute it at one input. -/
def planBoundsWrong : ChangeSpec := { name := "planBounds", fn := fun _ => fun
  | [d1, d2] => { results := [.lit (.bool false)], args := [d1, d2] }
  | _ => none }
def PlanBoundsWrongFalsely : Prop := planBoundsRow.holds Try.pinned (OpenSpec.ofChange planBoundsWrong)

/-- 'raddlelaw20.PlanBent': WHATEVER THE INPUT: true; the input reads as it did. -/
def planBentSpec : ChangeSpec := { name := "planBent", fn := fun _ => fun
  | [d1, d2, d3, d4] => { results := [.lit (.bool true)], args := [d1, d2, d3, d4] }
  | _ => none }
def planBentRow : OpenClaim := { program := "ytimbbaoodjhdoaa", sum := "8b37167f9c8f761187e0d53d5098dbd20f378860ef97f5ea100491763a0666b5", func := "raddle/raddlelaw20.PlanBent", spec := "planBent", unfollowed := true, recurses := true, apart := false }
def PlanBentSaid : Prop := planBentRow.holds Try.pinned (OpenSpec.ofChange planBentSpec)

/-- ITS FALSE NEIGHBOUR: 'it returns false'. Refute it at one input. -/
def planBentWrong : ChangeSpec := { name := "planBent", fn := fun _ => fun
  | [d1, d2, d3, d4] => { results := [.lit (.bool false)], args := [d1, d2, d3, d4] }
  | _ => none }
def PlanBentWrongFalsely : Prop := planBentRow.holds Try.pinned (OpenSpec.ofChange planBentWrong)

/-- 'raddlelaw20.PlanTypes': WHATEVER THE INPUT: true; the input reads as it did. -/
def planTypesSpec : ChangeSpec := { name := "planTypes", fn := fun _ => fun
  | [d1, d2, d3] => { results := [.lit (.bool true)], args := [d1, d2, d3] }
  | _ => none }
def planTypesRow : OpenClaim := { program := "ytimbbaoodjhdoaa", sum := "8b37167f9c8f761187e0d53d5098dbd20f378860ef97f5ea100491763a0666b5", func := "raddle/raddlelaw20.PlanTypes", spec := "planTypes", unfollowed := true, recurses := true, apart := false }
def PlanTypesSaid : Prop := planTypesRow.holds Try.pinned (OpenSpec.ofChange planTypesSpec)

/-- ITS FALSE NEIGHBOUR: 'it returns false'. Refute it at one input. -/
def planTypesWrong : ChangeSpec := { name := "planTypes", fn := fun _ => fun
  | [d1, d2, d3] => { results := [.lit (.bool false)], args := [d1, d2, d3] }
  | _ => none }
def PlanTypesWrongFalsely : Prop := planTypesRow.holds Try.pinned (OpenSpec.ofChange planTypesWrong)

/-- 'raddlelaw20.PlanNodes': WHATEVER THE INPUT: true; the input reads as it did. -/
def planNodesSpec : ChangeSpec := { name := "planNodes", fn := fun _ => fun
  | [d1, d2] => { results := [.lit (.bool true)], args := [d1, d2] }
  | _ => none }
def planNodesRow : OpenClaim := { program := "ytimbbaoodjhdoaa", sum := "8b37167f9c8f761187e0d53d5098dbd20f378860ef97f5ea100491763a0666b5", func := "raddle/raddlelaw20.PlanNodes", spec := "planNodes", unfollowed := true, recurses := true, apart := false }
def PlanNodesSaid : Prop := planNodesRow.holds Try.pinned (OpenSpec.ofChange planNodesSpec)

/-- ITS FALSE NEIGHBOUR: 'it returns false'. Refute it at one input. -/
def planNodesWrong : ChangeSpec := { name := "planNodes", fn := fun _ => fun
  | [d1, d2] => { results := [.lit (.bool false)], args := [d1, d2] }
  | _ => none }
def PlanNodesWrongFalsely : Prop := planNodesRow.holds Try.pinned (OpenSpec.ofChange planNodesWrong)

/-- 'raddlelaw20.PlanExact': WHATEVER THE INPUT: true; the input reads as it did. -/
def planExactSpec : ChangeSpec := { name := "planExact", fn := fun _ => fun
  | [d1, d2, d3] => { results := [.lit (.bool true)], args := [d1, d2, d3] }
  | _ => none }
def planExactRow : OpenClaim := { program := "ytimbbaoodjhdoaa", sum := "8b37167f9c8f761187e0d53d5098dbd20f378860ef97f5ea100491763a0666b5", func := "raddle/raddlelaw20.PlanExact", spec := "planExact", unfollowed := true, recurses := true, apart := false }
def PlanExactSaid : Prop := planExactRow.holds Try.pinned (OpenSpec.ofChange planExactSpec)

/-- ITS FALSE NEIGHBOUR: 'it returns false'. Refute it at one input. -/
def planExactWrong : ChangeSpec := { name := "planExact", fn := fun _ => fun
  | [d1, d2, d3] => { results := [.lit (.bool false)], args := [d1, d2, d3] }
  | _ => none }
def PlanExactWrongFalsely : Prop := planExactRow.holds Try.pinned (OpenSpec.ofChange planExactWrong)

/-- 'raddlelaw20.PlanParts': WHATEVER THE INPUT: true; the input reads as it did. -/
def planPartsSpec : ChangeSpec := { name := "planParts", fn := fun _ => fun
  | [d1, d2, d3] => { results := [.lit (.bool true)], args := [d1, d2, d3] }
  | _ => none }
def planPartsRow : OpenClaim := { program := "ytimbbaoodjhdoaa", sum := "8b37167f9c8f761187e0d53d5098dbd20f378860ef97f5ea100491763a0666b5", func := "raddle/raddlelaw20.PlanParts", spec := "planParts", unfollowed := true, recurses := true, apart := false }
def PlanPartsSaid : Prop := planPartsRow.holds Try.pinned (OpenSpec.ofChange planPartsSpec)

/-- ITS FALSE NEIGHBOUR: 'it returns false'. Refute it at one input. -/
def planPartsWrong : ChangeSpec := { name := "planParts", fn := fun _ => fun
  | [d1, d2, d3] => { results := [.lit (.bool false)], args := [d1, d2, d3] }
  | _ => none }
def PlanPartsWrongFalsely : Prop := planPartsRow.holds Try.pinned (OpenSpec.ofChange planPartsWrong)

/- THE SECOND FORM. 'bulk': how many values and letters a reading holds, each counted each time it is reached (what is shared counts as often as it is met; a slice's spare places count too). A statement '..UptoSaid' is the law's where the arguments, and the package variables that the reading takes, are together of bulk at most 1048576: NARROWER than '..Said'. Prove '..Said' where nothing that the law and all that it calls make is longer than what came in: it says more and counts as full. Else prove '..UptoSaid'. A law counts once. -/
mutual
def uptoBulk {H : Type} : DataW H → Nat
  | .lit (.string bytes) => bytes.length + 1
  | .lit _ => 1
  | .nil => 1
  | .ptr d => uptoBulk d + 1
  | .slice elems spare => uptoBulkAll elems + uptoBulkAll spare + 1
  | .agg parts => uptoBulkAll parts + 1
  | .iface _ d => uptoBulk d + 1
  | .map entries => uptoBulkEntries entries + 1
  | .held _ => 1
def uptoBulkAll {H : Type} : List (DataW H) → Nat
  | [] => 0
  | d :: r => uptoBulk d + uptoBulkAll r
def uptoBulkEntries {H : Type} : List (Lit × DataW H) → Nat
  | [] => 0
  | x :: r => uptoBulkEntry x + uptoBulkEntries r
def uptoBulkEntry {H : Type} : Lit × DataW H → Nat
  | (.string bytes, d) => bytes.length + uptoBulk d + 1
  | (_, d) => uptoBulk d + 1
 end
def uptoSmall : (H : Type) → List (DataW H) → Bool := fun _ ds => decide (uptoBulkAll ds ≤ 1048576)
def OpenSpec.upto (s : _root_.Go.ChangeSpec) : _root_.Go.OpenSpec := { _root_.Go.OpenSpec.ofChange s with cond := some uptoSmall }

/-- 'raddlelaw20.PlanGrows', WHERE WHAT IT READS IS OF BULK AT MOST 1048576: true; the input reads as it did. -/
def planGrowsUptoRow : OpenClaim := { program := "ytimbbaoodjhdoaa", sum := "8b37167f9c8f761187e0d53d5098dbd20f378860ef97f5ea100491763a0666b5", func := "raddle/raddlelaw20.PlanGrows", spec := "planGrows", unfollowed := true, recurses := true, apart := false, narrowed := true }
def PlanGrowsUptoSaid : Prop := planGrowsUptoRow.holds Try.pinned (OpenSpec.upto planGrowsSpec)

/-- 'raddlelaw20.PlanBounds', WHERE WHAT IT READS IS OF BULK AT MOST 1048576: true; the input reads as it did. -/
def planBoundsUptoRow : OpenClaim := { program := "ytimbbaoodjhdoaa", sum := "8b37167f9c8f761187e0d53d5098dbd20f378860ef97f5ea100491763a0666b5", func := "raddle/raddlelaw20.PlanBounds", spec := "planBounds", unfollowed := true, recurses := true, apart := false, narrowed := true }
def PlanBoundsUptoSaid : Prop := planBoundsUptoRow.holds Try.pinned (OpenSpec.upto planBoundsSpec)

/-- 'raddlelaw20.PlanBent', WHERE WHAT IT READS IS OF BULK AT MOST 1048576: true; the input reads as it did. -/
def planBentUptoRow : OpenClaim := { program := "ytimbbaoodjhdoaa", sum := "8b37167f9c8f761187e0d53d5098dbd20f378860ef97f5ea100491763a0666b5", func := "raddle/raddlelaw20.PlanBent", spec := "planBent", unfollowed := true, recurses := true, apart := false, narrowed := true }
def PlanBentUptoSaid : Prop := planBentUptoRow.holds Try.pinned (OpenSpec.upto planBentSpec)

/-- 'raddlelaw20.PlanTypes', WHERE WHAT IT READS IS OF BULK AT MOST 1048576: true; the input reads as it did. -/
def planTypesUptoRow : OpenClaim := { program := "ytimbbaoodjhdoaa", sum := "8b37167f9c8f761187e0d53d5098dbd20f378860ef97f5ea100491763a0666b5", func := "raddle/raddlelaw20.PlanTypes", spec := "planTypes", unfollowed := true, recurses := true, apart := false, narrowed := true }
def PlanTypesUptoSaid : Prop := planTypesUptoRow.holds Try.pinned (OpenSpec.upto planTypesSpec)

/-- 'raddlelaw20.PlanNodes', WHERE WHAT IT READS IS OF BULK AT MOST 1048576: true; the input reads as it did. -/
def planNodesUptoRow : OpenClaim := { program := "ytimbbaoodjhdoaa", sum := "8b37167f9c8f761187e0d53d5098dbd20f378860ef97f5ea100491763a0666b5", func := "raddle/raddlelaw20.PlanNodes", spec := "planNodes", unfollowed := true, recurses := true, apart := false, narrowed := true }
def PlanNodesUptoSaid : Prop := planNodesUptoRow.holds Try.pinned (OpenSpec.upto planNodesSpec)

/-- 'raddlelaw20.PlanExact', WHERE WHAT IT READS IS OF BULK AT MOST 1048576: true; the input reads as it did. -/
def planExactUptoRow : OpenClaim := { program := "ytimbbaoodjhdoaa", sum := "8b37167f9c8f761187e0d53d5098dbd20f378860ef97f5ea100491763a0666b5", func := "raddle/raddlelaw20.PlanExact", spec := "planExact", unfollowed := true, recurses := true, apart := false, narrowed := true }
def PlanExactUptoSaid : Prop := planExactUptoRow.holds Try.pinned (OpenSpec.upto planExactSpec)

/-- 'raddlelaw20.PlanParts', WHERE WHAT IT READS IS OF BULK AT MOST 1048576: true; the input reads as it did. -/
def planPartsUptoRow : OpenClaim := { program := "ytimbbaoodjhdoaa", sum := "8b37167f9c8f761187e0d53d5098dbd20f378860ef97f5ea100491763a0666b5", func := "raddle/raddlelaw20.PlanParts", spec := "planParts", unfollowed := true, recurses := true, apart := false, narrowed := true }
def PlanPartsUptoSaid : Prop := planPartsUptoRow.holds Try.pinned (OpenSpec.upto planPartsSpec)

end Rows
end Go.Proofs.Ytimbbaoodjhdoaa
