/-
  No cell of these rows narrows 'for every input' (looked for: loops, veiled, ifaces, maps, wideKeys, modest, calm, conditions, laid).
  DERIVED. THE GIVEN ROWS OF THIS SEAT. 6 by the template 'for every input the law returns true; each argument reads behind the call as it read before'; 0 by the template 'total and deterministic' (their statements: YteicflbjhcddoaaTotals.lean).
  GIVEN WITH THE SEED: the statements are not yours to turn. If you find one false, say at which input.
  Laid BY PROGRAM, IN A SANDBOX (cutbox-rows.mjs): the forced cells as the released guide's own fill.sh prints them over the translation a7faec1d723571f8… (all of the seat's roots in one cut). By AI agents, Wed Nov 11 2026. No macro, syntax, notation, axiom, sorry.
-/
import Derived.Test.YteicflbjhcddoaaChecked
import GoSem.Claim
import GoSem.ClaimJoined
import GoSem.ClaimMapViews
import Derived.JoinedTies
import Derived.KernelRfl
namespace Go.Proofs.Yteicflbjhcddoaa
/- THE CELL 'sum', in the pinned program and in every row, IS THE sha256 OF THE DUMP (.gsa) THAT YteicflbjhcddoaaProg.lean LOADS. Nothing in Lean hashes anything: it is a label: what it is worth is what the hold of that sum in a sandbox is worth. -/
noncomputable def Try.pinned : Pinned := { name := "yteicflbjhcddoaa", sum := "a7faec1d723571f87328d10b022c1e39970e86d3a4045c0cfdfaef67c7c37006", checked := Try.checked }
namespace Rows
def none {H : Type} : Left H := { results := [], args := [] }

/-- 'raddlelaw03.ValueExact': WHATEVER THE INPUT: true; the input reads as it did. -/
def valueExactSpec : ChangeSpec := { name := "valueExact", fn := fun _ => fun
  | [d1, d2, d3] => { results := [.lit (.bool true)], args := [d1, d2, d3] }
  | _ => none }
def valueExactRow : OpenClaim := { program := "yteicflbjhcddoaa", sum := "a7faec1d723571f87328d10b022c1e39970e86d3a4045c0cfdfaef67c7c37006", func := "raddle/raddlelaw03.ValueExact", spec := "valueExact", apart := false }
def ValueExactSaid : Prop := valueExactRow.holds Try.pinned (OpenSpec.ofChange valueExactSpec)

/-- ITS FALSE NEIGHBOUR: 'it returns false'. Refute it at one input. -/
def valueExactWrong : ChangeSpec := { name := "valueExact", fn := fun _ => fun
  | [d1, d2, d3] => { results := [.lit (.bool false)], args := [d1, d2, d3] }
  | _ => none }
def ValueExactWrongFalsely : Prop := valueExactRow.holds Try.pinned (OpenSpec.ofChange valueExactWrong)

/-- 'raddlelaw03.ValueReads': WHATEVER THE INPUT: true; the input reads as it did. -/
def valueReadsSpec : ChangeSpec := { name := "valueReads", fn := fun _ => fun
  | [d1, d2] => { results := [.lit (.bool true)], args := [d1, d2] }
  | _ => none }
def valueReadsRow : OpenClaim := { program := "yteicflbjhcddoaa", sum := "a7faec1d723571f87328d10b022c1e39970e86d3a4045c0cfdfaef67c7c37006", func := "raddle/raddlelaw03.ValueReads", spec := "valueReads", apart := false }
def ValueReadsSaid : Prop := valueReadsRow.holds Try.pinned (OpenSpec.ofChange valueReadsSpec)

/-- ITS FALSE NEIGHBOUR: 'it returns false'. Refute it at one input. -/
def valueReadsWrong : ChangeSpec := { name := "valueReads", fn := fun _ => fun
  | [d1, d2] => { results := [.lit (.bool false)], args := [d1, d2] }
  | _ => none }
def ValueReadsWrongFalsely : Prop := valueReadsRow.holds Try.pinned (OpenSpec.ofChange valueReadsWrong)

/-- 'raddlelaw03.ValueOrder': WHATEVER THE INPUT: true; the input reads as it did. -/
def valueOrderSpec : ChangeSpec := { name := "valueOrder", fn := fun _ => fun
  | [d1, d2, d3] => { results := [.lit (.bool true)], args := [d1, d2, d3] }
  | _ => none }
def valueOrderRow : OpenClaim := { program := "yteicflbjhcddoaa", sum := "a7faec1d723571f87328d10b022c1e39970e86d3a4045c0cfdfaef67c7c37006", func := "raddle/raddlelaw03.ValueOrder", spec := "valueOrder", apart := false }
def ValueOrderSaid : Prop := valueOrderRow.holds Try.pinned (OpenSpec.ofChange valueOrderSpec)

/-- ITS FALSE NEIGHBOUR: 'it returns false'. Refute it at one input. -/
def valueOrderWrong : ChangeSpec := { name := "valueOrder", fn := fun _ => fun
  | [d1, d2, d3] => { results := [.lit (.bool false)], args := [d1, d2, d3] }
  | _ => none }
def ValueOrderWrongFalsely : Prop := valueOrderRow.holds Try.pinned (OpenSpec.ofChange valueOrderWrong)

/-- 'raddlelaw03.ValueKinds': WHATEVER THE INPUT: true; the input reads as it did. -/
def valueKindsSpec : ChangeSpec := { name := "valueKinds", fn := fun _ => fun
  | [d1, d2] => { results := [.lit (.bool true)], args := [d1, d2] }
  | _ => none }
def valueKindsRow : OpenClaim := { program := "yteicflbjhcddoaa", sum := "a7faec1d723571f87328d10b022c1e39970e86d3a4045c0cfdfaef67c7c37006", func := "raddle/raddlelaw03.ValueKinds", spec := "valueKinds", apart := false }
def ValueKindsSaid : Prop := valueKindsRow.holds Try.pinned (OpenSpec.ofChange valueKindsSpec)

/-- ITS FALSE NEIGHBOUR: 'it returns false'. Refute it at one input. -/
def valueKindsWrong : ChangeSpec := { name := "valueKinds", fn := fun _ => fun
  | [d1, d2] => { results := [.lit (.bool false)], args := [d1, d2] }
  | _ => none }
def ValueKindsWrongFalsely : Prop := valueKindsRow.holds Try.pinned (OpenSpec.ofChange valueKindsWrong)

/-- 'raddlelaw03.ValueSizes': WHATEVER THE INPUT: true; the input reads as it did. -/
def valueSizesSpec : ChangeSpec := { name := "valueSizes", fn := fun _ => fun
  | [d] => { results := [.lit (.bool true)], args := [d] }
  | _ => none }
def valueSizesRow : OpenClaim := { program := "yteicflbjhcddoaa", sum := "a7faec1d723571f87328d10b022c1e39970e86d3a4045c0cfdfaef67c7c37006", func := "raddle/raddlelaw03.ValueSizes", spec := "valueSizes", apart := false }
def ValueSizesSaid : Prop := valueSizesRow.holds Try.pinned (OpenSpec.ofChange valueSizesSpec)

/-- ITS FALSE NEIGHBOUR: 'it returns false'. Refute it at one input. -/
def valueSizesWrong : ChangeSpec := { name := "valueSizes", fn := fun _ => fun
  | [d] => { results := [.lit (.bool false)], args := [d] }
  | _ => none }
def ValueSizesWrongFalsely : Prop := valueSizesRow.holds Try.pinned (OpenSpec.ofChange valueSizesWrong)

/-- 'raddlelaw03.ValueEnds': WHATEVER THE INPUT: true; the input reads as it did. -/
def valueEndsSpec : ChangeSpec := { name := "valueEnds", fn := fun _ => fun
  | [d1, d2] => { results := [.lit (.bool true)], args := [d1, d2] }
  | _ => none }
def valueEndsRow : OpenClaim := { program := "yteicflbjhcddoaa", sum := "a7faec1d723571f87328d10b022c1e39970e86d3a4045c0cfdfaef67c7c37006", func := "raddle/raddlelaw03.ValueEnds", spec := "valueEnds", apart := false }
def ValueEndsSaid : Prop := valueEndsRow.holds Try.pinned (OpenSpec.ofChange valueEndsSpec)

/-- ITS FALSE NEIGHBOUR: 'it returns false'. Refute it at one input. -/
def valueEndsWrong : ChangeSpec := { name := "valueEnds", fn := fun _ => fun
  | [d1, d2] => { results := [.lit (.bool false)], args := [d1, d2] }
  | _ => none }
def ValueEndsWrongFalsely : Prop := valueEndsRow.holds Try.pinned (OpenSpec.ofChange valueEndsWrong)

/- THE SECOND FORM. 'bulk': how many values and letters a reading holds, each counted each time it is reached (what is shared counts as often as it is met; a slice's spare places count too). A statement '..UptoSaid' is the law's where the arguments, and the package variables that the reading takes, are together of bulk at most 1048576: NARROWER than '..Said'. Prove '..Said' where nothing that the law and all that it calls make is longer than what came in: it says more and counts as full. Else prove '..UptoSaid'. A law counts once. -/
mutual
def uptoBulk {H : Type} : DataW H → Nat
  | .lit (.string bytes) => bytes.length + 1
  | .lit _ => 1
  | .nil => 1
  | .ptr d => uptoBulk d + 1
  | .slice elems spare => uptoBulkAll elems + uptoBulkAll spare + 1
  | .agg parts => uptoBulkAll parts + 1
  | .iface _ d => uptoBulk d + 1
  | .map entries => uptoBulkEntries entries + 1
  | .held _ => 1
def uptoBulkAll {H : Type} : List (DataW H) → Nat
  | [] => 0
  | d :: r => uptoBulk d + uptoBulkAll r
def uptoBulkEntries {H : Type} : List (Lit × DataW H) → Nat
  | [] => 0
  | x :: r => uptoBulkEntry x + uptoBulkEntries r
def uptoBulkEntry {H : Type} : Lit × DataW H → Nat
  | (.string bytes, d) => bytes.length + uptoBulk d + 1
  | (_, d) => uptoBulk d + 1
 end
def uptoSmall : (H : Type) → List (DataW H) → Bool := fun _ ds => decide (uptoBulkAll ds ≤ 1048576)
def OpenSpec.upto (s : _root_.Go.ChangeSpec) : _root_.Go.OpenSpec := { _root_.Go.OpenSpec.ofChange s with cond := some uptoSmall }

/-- 'raddlelaw03.ValueExact', WHERE WHAT IT READS IS OF BULK AT MOST 1048576: true; the input reads as it did. -/
def valueExactUptoRow : OpenClaim := { program := "yteicflbjhcddoaa", sum := "a7faec1d723571f87328d10b022c1e39970e86d3a4045c0cfdfaef67c7c37006", func := "raddle/raddlelaw03.ValueExact", spec := "valueExact", apart := false, narrowed := true }
def ValueExactUptoSaid : Prop := valueExactUptoRow.holds Try.pinned (OpenSpec.upto valueExactSpec)

/-- 'raddlelaw03.ValueReads', WHERE WHAT IT READS IS OF BULK AT MOST 1048576: true; the input reads as it did. -/
def valueReadsUptoRow : OpenClaim := { program := "yteicflbjhcddoaa", sum := "a7faec1d723571f87328d10b022c1e39970e86d3a4045c0cfdfaef67c7c37006", func := "raddle/raddlelaw03.ValueReads", spec := "valueReads", apart := false, narrowed := true }
def ValueReadsUptoSaid : Prop := valueReadsUptoRow.holds Try.pinned (OpenSpec.upto valueReadsSpec)

/-- 'raddlelaw03.ValueOrder', WHERE WHAT IT READS IS OF BULK AT MOST 1048576: true; the input reads as it did. -/
def valueOrderUptoRow : OpenClaim := { program := "yteicflbjhcddoaa", sum := "a7faec1d723571f87328d10b022c1e39970e86d3a4045c0cfdfaef67c7c37006", func := "raddle/raddlelaw03.ValueOrder", spec := "valueOrder", apart := false, narrowed := true }
def ValueOrderUptoSaid : Prop := valueOrderUptoRow.holds Try.pinned (OpenSpec.upto valueOrderSpec)

/-- 'raddlelaw03.ValueKinds', WHERE WHAT IT READS IS OF BULK AT MOST 1048576: true; the input reads as it did. -/
def valueKindsUptoRow : OpenClaim := { program := "yteicflbjhcddoaa", sum := "a7faec1d723571f87328d10b022c1e39970e86d3a4045c0cfdfaef67c7c37006", func := "raddle/raddlelaw03.ValueKinds", spec := "valueKinds", apart := false, narrowed := true }
def ValueKindsUptoSaid : Prop := valueKindsUptoRow.holds Try.pinned (OpenSpec.upto valueKindsSpec)

/-- 'raddlelaw03.ValueSizes', WHERE WHAT IT READS IS OF BULK AT MOST 1048576: true; the input reads as it did. -/
def valueSizesUptoRow : OpenClaim := { program := "yteicflbjhcddoaa", sum := "a7faec1d723571f87328d10b022c1e39970e86d3a4045c0cfdfaef67c7c37006", func := "raddle/raddlelaw03.ValueSizes", spec := "valueSizes", apart := false, narrowed := true }
def ValueSizesUptoSaid : Prop := valueSizesUptoRow.holds Try.pinned (OpenSpec.upto valueSizesSpec)

/-- 'raddlelaw03.ValueEnds', WHERE WHAT IT READS IS OF BULK AT MOST 1048576: true; the input reads as it did. -/
def valueEndsUptoRow : OpenClaim := { program := "yteicflbjhcddoaa", sum := "a7faec1d723571f87328d10b022c1e39970e86d3a4045c0cfdfaef67c7c37006", func := "raddle/raddlelaw03.ValueEnds", spec := "valueEnds", apart := false, narrowed := true }
def ValueEndsUptoSaid : Prop := valueEndsUptoRow.holds Try.pinned (OpenSpec.upto valueEndsSpec)

end Rows
end Go.Proofs.Yteicflbjhcddoaa
