/-
  No cell of these rows narrows 'for every input' (looked for: loops, veiled, ifaces, maps, wideKeys, modest, calm, conditions, laid).
  DERIVED. THE GIVEN ROWS OF THIS SEAT. 6 by the template 'for every input the law returns true; each argument reads behind the call as it read before'; 0 by the template 'total and deterministic' (their statements: YtomahagonogapaaTotals.lean).
  GIVEN WITH THE SEED: the statements are not yours to turn. If you find one false, say at which input.
  Laid BY PROGRAM, IN A SANDBOX (cutbox-rows.mjs): the forced cells as the released guide's own fill.sh prints them over the translation 0d7170e2dfc79748… (all of the seat's roots in one cut). By AI agents, Wed Nov 11 2026. No macro, syntax, notation, axiom, sorry.
-/
import Derived.Test.YtomahagonogapaaChecked
import GoSem.Claim
import GoSem.ClaimJoined
import GoSem.ClaimMapViews
import Derived.JoinedTies
import Derived.KernelRfl
namespace Go.Proofs.Ytomahagonogapaa
/- THE CELL 'sum', in the pinned program and in every row, IS THE sha256 OF THE DUMP (.gsa) THAT YtomahagonogapaaProg.lean LOADS. Nothing in Lean hashes anything: it is a label: what it is worth is what the hold of that sum in a sandbox is worth. -/
noncomputable def Try.pinned : Pinned := { name := "ytomahagonogapaa", sum := "0d7170e2dfc79748674ee7e48a0d7819937dd677e3140904dc47b42fbef93b49", checked := Try.checked }
namespace Rows
def none {H : Type} : Left H := { results := [], args := [] }

/-- 'raddlelaw01.WireNought': WHATEVER THE INPUT: true; the input reads as it did. -/
def wireNoughtSpec : ChangeSpec := { name := "wireNought", fn := fun _ => fun
  | [d1, d2] => { results := [.lit (.bool true)], args := [d1, d2] }
  | _ => none }
def wireNoughtRow : OpenClaim := { program := "ytomahagonogapaa", sum := "0d7170e2dfc79748674ee7e48a0d7819937dd677e3140904dc47b42fbef93b49", func := "raddle/raddlelaw01.WireNought", spec := "wireNought", apart := false }
def WireNoughtSaid : Prop := wireNoughtRow.holds Try.pinned (OpenSpec.ofChange wireNoughtSpec)

/-- ITS FALSE NEIGHBOUR: 'it returns false'. Refute it at one input. -/
def wireNoughtWrong : ChangeSpec := { name := "wireNought", fn := fun _ => fun
  | [d1, d2] => { results := [.lit (.bool false)], args := [d1, d2] }
  | _ => none }
def WireNoughtWrongFalsely : Prop := wireNoughtRow.holds Try.pinned (OpenSpec.ofChange wireNoughtWrong)

/-- 'raddlelaw01.WireOrder': WHATEVER THE INPUT: true; the input reads as it did. -/
def wireOrderSpec : ChangeSpec := { name := "wireOrder", fn := fun _ => fun
  | [d1, d2, d3] => { results := [.lit (.bool true)], args := [d1, d2, d3] }
  | _ => none }
def wireOrderRow : OpenClaim := { program := "ytomahagonogapaa", sum := "0d7170e2dfc79748674ee7e48a0d7819937dd677e3140904dc47b42fbef93b49", func := "raddle/raddlelaw01.WireOrder", spec := "wireOrder", apart := false }
def WireOrderSaid : Prop := wireOrderRow.holds Try.pinned (OpenSpec.ofChange wireOrderSpec)

/-- ITS FALSE NEIGHBOUR: 'it returns false'. Refute it at one input. -/
def wireOrderWrong : ChangeSpec := { name := "wireOrder", fn := fun _ => fun
  | [d1, d2, d3] => { results := [.lit (.bool false)], args := [d1, d2, d3] }
  | _ => none }
def WireOrderWrongFalsely : Prop := wireOrderRow.holds Try.pinned (OpenSpec.ofChange wireOrderWrong)

/-- 'raddlelaw01.WireRest': WHATEVER THE INPUT: true; the input reads as it did. -/
def wireRestSpec : ChangeSpec := { name := "wireRest", fn := fun _ => fun
  | [d1, d2, d3, d4] => { results := [.lit (.bool true)], args := [d1, d2, d3, d4] }
  | _ => none }
def wireRestRow : OpenClaim := { program := "ytomahagonogapaa", sum := "0d7170e2dfc79748674ee7e48a0d7819937dd677e3140904dc47b42fbef93b49", func := "raddle/raddlelaw01.WireRest", spec := "wireRest", apart := false }
def WireRestSaid : Prop := wireRestRow.holds Try.pinned (OpenSpec.ofChange wireRestSpec)

/-- ITS FALSE NEIGHBOUR: 'it returns false'. Refute it at one input. -/
def wireRestWrong : ChangeSpec := { name := "wireRest", fn := fun _ => fun
  | [d1, d2, d3, d4] => { results := [.lit (.bool false)], args := [d1, d2, d3, d4] }
  | _ => none }
def WireRestWrongFalsely : Prop := wireRestRow.holds Try.pinned (OpenSpec.ofChange wireRestWrong)

/-- 'raddlelaw01.WireExact': WHATEVER THE INPUT: true; the input reads as it did. -/
def wireExactSpec : ChangeSpec := { name := "wireExact", fn := fun _ => fun
  | [d1, d2, d3, d4, d5] => { results := [.lit (.bool true)], args := [d1, d2, d3, d4, d5] }
  | _ => none }
def wireExactRow : OpenClaim := { program := "ytomahagonogapaa", sum := "0d7170e2dfc79748674ee7e48a0d7819937dd677e3140904dc47b42fbef93b49", func := "raddle/raddlelaw01.WireExact", spec := "wireExact", apart := false }
def WireExactSaid : Prop := wireExactRow.holds Try.pinned (OpenSpec.ofChange wireExactSpec)

/-- ITS FALSE NEIGHBOUR: 'it returns false'. Refute it at one input. -/
def wireExactWrong : ChangeSpec := { name := "wireExact", fn := fun _ => fun
  | [d1, d2, d3, d4, d5] => { results := [.lit (.bool false)], args := [d1, d2, d3, d4, d5] }
  | _ => none }
def WireExactWrongFalsely : Prop := wireExactRow.holds Try.pinned (OpenSpec.ofChange wireExactWrong)

/-- 'raddlelaw01.WireBack': WHATEVER THE INPUT: true; the input reads as it did. -/
def wireBackSpec : ChangeSpec := { name := "wireBack", fn := fun _ => fun
  | [d1, d2, d3] => { results := [.lit (.bool true)], args := [d1, d2, d3] }
  | _ => none }
def wireBackRow : OpenClaim := { program := "ytomahagonogapaa", sum := "0d7170e2dfc79748674ee7e48a0d7819937dd677e3140904dc47b42fbef93b49", func := "raddle/raddlelaw01.WireBack", spec := "wireBack", apart := false }
def WireBackSaid : Prop := wireBackRow.holds Try.pinned (OpenSpec.ofChange wireBackSpec)

/-- ITS FALSE NEIGHBOUR: 'it returns false'. Refute it at one input. -/
def wireBackWrong : ChangeSpec := { name := "wireBack", fn := fun _ => fun
  | [d1, d2, d3] => { results := [.lit (.bool false)], args := [d1, d2, d3] }
  | _ => none }
def WireBackWrongFalsely : Prop := wireBackRow.holds Try.pinned (OpenSpec.ofChange wireBackWrong)

/-- 'raddlelaw01.WireEnds': WHATEVER THE INPUT: true; the input reads as it did. -/
def wireEndsSpec : ChangeSpec := { name := "wireEnds", fn := fun _ => fun
  | [d1, d2, d3] => { results := [.lit (.bool true)], args := [d1, d2, d3] }
  | _ => none }
def wireEndsRow : OpenClaim := { program := "ytomahagonogapaa", sum := "0d7170e2dfc79748674ee7e48a0d7819937dd677e3140904dc47b42fbef93b49", func := "raddle/raddlelaw01.WireEnds", spec := "wireEnds", apart := false }
def WireEndsSaid : Prop := wireEndsRow.holds Try.pinned (OpenSpec.ofChange wireEndsSpec)

/-- ITS FALSE NEIGHBOUR: 'it returns false'. Refute it at one input. -/
def wireEndsWrong : ChangeSpec := { name := "wireEnds", fn := fun _ => fun
  | [d1, d2, d3] => { results := [.lit (.bool false)], args := [d1, d2, d3] }
  | _ => none }
def WireEndsWrongFalsely : Prop := wireEndsRow.holds Try.pinned (OpenSpec.ofChange wireEndsWrong)

/- THE SECOND FORM. 'bulk': how many values and letters a reading holds, each counted each time it is reached (what is shared counts as often as it is met; a slice's spare places count too). A statement '..UptoSaid' is the law's where the arguments, and the package variables that the reading takes, are together of bulk at most 1048576: NARROWER than '..Said'. Prove '..Said' where nothing that the law and all that it calls make is longer than what came in: it says more and counts as full. Else prove '..UptoSaid'. A law counts once. -/
mutual
def uptoBulk {H : Type} : DataW H → Nat
  | .lit (.string bytes) => bytes.length + 1
  | .lit _ => 1
  | .nil => 1
  | .ptr d => uptoBulk d + 1
  | .slice elems spare => uptoBulkAll elems + uptoBulkAll spare + 1
  | .agg parts => uptoBulkAll parts + 1
  | .iface _ d => uptoBulk d + 1
  | .map entries => uptoBulkEntries entries + 1
  | .held _ => 1
def uptoBulkAll {H : Type} : List (DataW H) → Nat
  | [] => 0
  | d :: r => uptoBulk d + uptoBulkAll r
def uptoBulkEntries {H : Type} : List (Lit × DataW H) → Nat
  | [] => 0
  | x :: r => uptoBulkEntry x + uptoBulkEntries r
def uptoBulkEntry {H : Type} : Lit × DataW H → Nat
  | (.string bytes, d) => bytes.length + uptoBulk d + 1
  | (_, d) => uptoBulk d + 1
 end
def uptoSmall : (H : Type) → List (DataW H) → Bool := fun _ ds => decide (uptoBulkAll ds ≤ 1048576)
def OpenSpec.upto (s : _root_.Go.ChangeSpec) : _root_.Go.OpenSpec := { _root_.Go.OpenSpec.ofChange s with cond := some uptoSmall }

/-- 'raddlelaw01.WireNought', WHERE WHAT IT READS IS OF BULK AT MOST 1048576: true; the input reads as it did. -/
def wireNoughtUptoRow : OpenClaim := { program := "ytomahagonogapaa", sum := "0d7170e2dfc79748674ee7e48a0d7819937dd677e3140904dc47b42fbef93b49", func := "raddle/raddlelaw01.WireNought", spec := "wireNought", apart := false, narrowed := true }
def WireNoughtUptoSaid : Prop := wireNoughtUptoRow.holds Try.pinned (OpenSpec.upto wireNoughtSpec)

/-- 'raddlelaw01.WireOrder', WHERE WHAT IT READS IS OF BULK AT MOST 1048576: true; the input reads as it did. -/
def wireOrderUptoRow : OpenClaim := { program := "ytomahagonogapaa", sum := "0d7170e2dfc79748674ee7e48a0d7819937dd677e3140904dc47b42fbef93b49", func := "raddle/raddlelaw01.WireOrder", spec := "wireOrder", apart := false, narrowed := true }
def WireOrderUptoSaid : Prop := wireOrderUptoRow.holds Try.pinned (OpenSpec.upto wireOrderSpec)

/-- 'raddlelaw01.WireRest', WHERE WHAT IT READS IS OF BULK AT MOST 1048576: true; the input reads as it did. -/
def wireRestUptoRow : OpenClaim := { program := "ytomahagonogapaa", sum := "0d7170e2dfc79748674ee7e48a0d7819937dd677e3140904dc47b42fbef93b49", func := "raddle/raddlelaw01.WireRest", spec := "wireRest", apart := false, narrowed := true }
def WireRestUptoSaid : Prop := wireRestUptoRow.holds Try.pinned (OpenSpec.upto wireRestSpec)

/-- 'raddlelaw01.WireExact', WHERE WHAT IT READS IS OF BULK AT MOST 1048576: true; the input reads as it did. -/
def wireExactUptoRow : OpenClaim := { program := "ytomahagonogapaa", sum := "0d7170e2dfc79748674ee7e48a0d7819937dd677e3140904dc47b42fbef93b49", func := "raddle/raddlelaw01.WireExact", spec := "wireExact", apart := false, narrowed := true }
def WireExactUptoSaid : Prop := wireExactUptoRow.holds Try.pinned (OpenSpec.upto wireExactSpec)

/-- 'raddlelaw01.WireBack', WHERE WHAT IT READS IS OF BULK AT MOST 1048576: true; the input reads as it did. -/
def wireBackUptoRow : OpenClaim := { program := "ytomahagonogapaa", sum := "0d7170e2dfc79748674ee7e48a0d7819937dd677e3140904dc47b42fbef93b49", func := "raddle/raddlelaw01.WireBack", spec := "wireBack", apart := false, narrowed := true }
def WireBackUptoSaid : Prop := wireBackUptoRow.holds Try.pinned (OpenSpec.upto wireBackSpec)

/-- 'raddlelaw01.WireEnds', WHERE WHAT IT READS IS OF BULK AT MOST 1048576: true; the input reads as it did. -/
def wireEndsUptoRow : OpenClaim := { program := "ytomahagonogapaa", sum := "0d7170e2dfc79748674ee7e48a0d7819937dd677e3140904dc47b42fbef93b49", func := "raddle/raddlelaw01.WireEnds", spec := "wireEnds", apart := false, narrowed := true }
def WireEndsUptoSaid : Prop := wireEndsUptoRow.holds Try.pinned (OpenSpec.upto wireEndsSpec)

end Rows
end Go.Proofs.Ytomahagonogapaa
