/-
  No cell of these rows narrows 'for every input' (looked for: loops, veiled, ifaces, maps, wideKeys, modest, calm, conditions, laid).
  DERIVED. THE GIVEN ROWS OF THIS SEAT. 7 by the template 'for every input the law returns true; each argument reads behind the call as it read before'; 0 by the template 'total and deterministic' (their statements: YtiaiglihndbjeaaTotals.lean).
  GIVEN WITH THE SEED: the statements are not yours to turn. If you find one false, say at which input.
  Laid BY PROGRAM, IN A SANDBOX (cutbox-rows.mjs): the forced cells as the released guide's own fill.sh prints them over the translation 66f5bf17d16b7617… (all of the seat's roots in one cut). By AI agents, Wed Nov 11 2026. No macro, syntax, notation, axiom, sorry.
-/
import Derived.Test.YtiaiglihndbjeaaChecked
import GoSem.Claim
import GoSem.ClaimJoined
import GoSem.ClaimMapViews
import Derived.JoinedTies
import Derived.KernelRfl
namespace Go.Proofs.Ytiaiglihndbjeaa
/- THE CELL 'sum', in the pinned program and in every row, IS THE sha256 OF THE DUMP (.gsa) THAT YtiaiglihndbjeaaProg.lean LOADS. Nothing in Lean hashes anything: it is a label: what it is worth is what the hold of that sum in a sandbox is worth. -/
noncomputable def Try.pinned : Pinned := { name := "ytiaiglihndbjeaa", sum := "66f5bf17d16b761796fb1b7346015023ba2366e0b5d4f1db7e8545a76e9c0fbd", checked := Try.checked }
namespace Rows
def none {H : Type} : Left H := { results := [], args := [] }

/-- 'raddlelaw04.RowReads': WHATEVER THE INPUT: true; the input reads as it did. -/
def rowReadsSpec : ChangeSpec := { name := "rowReads", fn := fun _ => fun
  | [d1, d2] => { results := [.lit (.bool true)], args := [d1, d2] }
  | _ => none }
def rowReadsRow : OpenClaim := { program := "ytiaiglihndbjeaa", sum := "66f5bf17d16b761796fb1b7346015023ba2366e0b5d4f1db7e8545a76e9c0fbd", func := "raddle/raddlelaw04.RowReads", spec := "rowReads", unfollowed := true, recurses := true, apart := false }
def RowReadsSaid : Prop := rowReadsRow.holds Try.pinned (OpenSpec.ofChange rowReadsSpec)

/-- ITS FALSE NEIGHBOUR: 'it returns false'. Refute it at one input. -/
def rowReadsWrong : ChangeSpec := { name := "rowReads", fn := fun _ => fun
  | [d1, d2] => { results := [.lit (.bool false)], args := [d1, d2] }
  | _ => none }
def RowReadsWrongFalsely : Prop := rowReadsRow.holds Try.pinned (OpenSpec.ofChange rowReadsWrong)

/-- 'raddlelaw04.RowOrder': WHATEVER THE INPUT: true; the input reads as it did. -/
def rowOrderSpec : ChangeSpec := { name := "rowOrder", fn := fun _ => fun
  | [d1, d2, d3, d4] => { results := [.lit (.bool true)], args := [d1, d2, d3, d4] }
  | _ => none }
def rowOrderRow : OpenClaim := { program := "ytiaiglihndbjeaa", sum := "66f5bf17d16b761796fb1b7346015023ba2366e0b5d4f1db7e8545a76e9c0fbd", func := "raddle/raddlelaw04.RowOrder", spec := "rowOrder", unfollowed := true, recurses := true, apart := false }
def RowOrderSaid : Prop := rowOrderRow.holds Try.pinned (OpenSpec.ofChange rowOrderSpec)

/-- ITS FALSE NEIGHBOUR: 'it returns false'. Refute it at one input. -/
def rowOrderWrong : ChangeSpec := { name := "rowOrder", fn := fun _ => fun
  | [d1, d2, d3, d4] => { results := [.lit (.bool false)], args := [d1, d2, d3, d4] }
  | _ => none }
def RowOrderWrongFalsely : Prop := rowOrderRow.holds Try.pinned (OpenSpec.ofChange rowOrderWrong)

/-- 'raddlelaw04.RowSizes': WHATEVER THE INPUT: true; the input reads as it did. -/
def rowSizesSpec : ChangeSpec := { name := "rowSizes", fn := fun _ => fun
  | [d1, d2, d3] => { results := [.lit (.bool true)], args := [d1, d2, d3] }
  | _ => none }
def rowSizesRow : OpenClaim := { program := "ytiaiglihndbjeaa", sum := "66f5bf17d16b761796fb1b7346015023ba2366e0b5d4f1db7e8545a76e9c0fbd", func := "raddle/raddlelaw04.RowSizes", spec := "rowSizes", unfollowed := true, recurses := true, apart := false }
def RowSizesSaid : Prop := rowSizesRow.holds Try.pinned (OpenSpec.ofChange rowSizesSpec)

/-- ITS FALSE NEIGHBOUR: 'it returns false'. Refute it at one input. -/
def rowSizesWrong : ChangeSpec := { name := "rowSizes", fn := fun _ => fun
  | [d1, d2, d3] => { results := [.lit (.bool false)], args := [d1, d2, d3] }
  | _ => none }
def RowSizesWrongFalsely : Prop := rowSizesRow.holds Try.pinned (OpenSpec.ofChange rowSizesWrong)

/-- 'raddlelaw04.RowArity': WHATEVER THE INPUT: true; the input reads as it did. -/
def rowAritySpec : ChangeSpec := { name := "rowArity", fn := fun _ => fun
  | [d1, d2] => { results := [.lit (.bool true)], args := [d1, d2] }
  | _ => none }
def rowArityRow : OpenClaim := { program := "ytiaiglihndbjeaa", sum := "66f5bf17d16b761796fb1b7346015023ba2366e0b5d4f1db7e8545a76e9c0fbd", func := "raddle/raddlelaw04.RowArity", spec := "rowArity", unfollowed := true, recurses := true, apart := false }
def RowAritySaid : Prop := rowArityRow.holds Try.pinned (OpenSpec.ofChange rowAritySpec)

/-- ITS FALSE NEIGHBOUR: 'it returns false'. Refute it at one input. -/
def rowArityWrong : ChangeSpec := { name := "rowArity", fn := fun _ => fun
  | [d1, d2] => { results := [.lit (.bool false)], args := [d1, d2] }
  | _ => none }
def RowArityWrongFalsely : Prop := rowArityRow.holds Try.pinned (OpenSpec.ofChange rowArityWrong)

/-- 'raddlelaw04.RowFits': WHATEVER THE INPUT: true; the input reads as it did. -/
def rowFitsSpec : ChangeSpec := { name := "rowFits", fn := fun _ => fun
  | [d1, d2, d3] => { results := [.lit (.bool true)], args := [d1, d2, d3] }
  | _ => none }
def rowFitsRow : OpenClaim := { program := "ytiaiglihndbjeaa", sum := "66f5bf17d16b761796fb1b7346015023ba2366e0b5d4f1db7e8545a76e9c0fbd", func := "raddle/raddlelaw04.RowFits", spec := "rowFits", unfollowed := true, recurses := true, apart := false }
def RowFitsSaid : Prop := rowFitsRow.holds Try.pinned (OpenSpec.ofChange rowFitsSpec)

/-- ITS FALSE NEIGHBOUR: 'it returns false'. Refute it at one input. -/
def rowFitsWrong : ChangeSpec := { name := "rowFits", fn := fun _ => fun
  | [d1, d2, d3] => { results := [.lit (.bool false)], args := [d1, d2, d3] }
  | _ => none }
def RowFitsWrongFalsely : Prop := rowFitsRow.holds Try.pinned (OpenSpec.ofChange rowFitsWrong)

/-- 'raddlelaw04.RowExact': WHATEVER THE INPUT: true; the input reads as it did. -/
def rowExactSpec : ChangeSpec := { name := "rowExact", fn := fun _ => fun
  | [d1, d2, d3, d4] => { results := [.lit (.bool true)], args := [d1, d2, d3, d4] }
  | _ => none }
def rowExactRow : OpenClaim := { program := "ytiaiglihndbjeaa", sum := "66f5bf17d16b761796fb1b7346015023ba2366e0b5d4f1db7e8545a76e9c0fbd", func := "raddle/raddlelaw04.RowExact", spec := "rowExact", unfollowed := true, recurses := true, apart := false }
def RowExactSaid : Prop := rowExactRow.holds Try.pinned (OpenSpec.ofChange rowExactSpec)

/-- ITS FALSE NEIGHBOUR: 'it returns false'. Refute it at one input. -/
def rowExactWrong : ChangeSpec := { name := "rowExact", fn := fun _ => fun
  | [d1, d2, d3, d4] => { results := [.lit (.bool false)], args := [d1, d2, d3, d4] }
  | _ => none }
def RowExactWrongFalsely : Prop := rowExactRow.holds Try.pinned (OpenSpec.ofChange rowExactWrong)

/-- 'raddlelaw04.RowPicks': WHATEVER THE INPUT: true; the input reads as it did. -/
def rowPicksSpec : ChangeSpec := { name := "rowPicks", fn := fun _ => fun
  | [d1, d2, d3, d4] => { results := [.lit (.bool true)], args := [d1, d2, d3, d4] }
  | _ => none }
def rowPicksRow : OpenClaim := { program := "ytiaiglihndbjeaa", sum := "66f5bf17d16b761796fb1b7346015023ba2366e0b5d4f1db7e8545a76e9c0fbd", func := "raddle/raddlelaw04.RowPicks", spec := "rowPicks", unfollowed := true, recurses := true, apart := false }
def RowPicksSaid : Prop := rowPicksRow.holds Try.pinned (OpenSpec.ofChange rowPicksSpec)

/-- ITS FALSE NEIGHBOUR: 'it returns false'. Refute it at one input. -/
def rowPicksWrong : ChangeSpec := { name := "rowPicks", fn := fun _ => fun
  | [d1, d2, d3, d4] => { results := [.lit (.bool false)], args := [d1, d2, d3, d4] }
  | _ => none }
def RowPicksWrongFalsely : Prop := rowPicksRow.holds Try.pinned (OpenSpec.ofChange rowPicksWrong)

/- THE SECOND FORM. 'bulk': how many values and letters a reading holds, each counted each time it is reached (what is shared counts as often as it is met; a slice's spare places count too). A statement '..UptoSaid' is the law's where the arguments, and the package variables that the reading takes, are together of bulk at most 1048576: NARROWER than '..Said'. Prove '..Said' where nothing that the law and all that it calls make is longer than what came in: it says more and counts as full. Else prove '..UptoSaid'. A law counts once. -/
mutual
def uptoBulk {H : Type} : DataW H → Nat
  | .lit (.string bytes) => bytes.length + 1
  | .lit _ => 1
  | .nil => 1
  | .ptr d => uptoBulk d + 1
  | .slice elems spare => uptoBulkAll elems + uptoBulkAll spare + 1
  | .agg parts => uptoBulkAll parts + 1
  | .iface _ d => uptoBulk d + 1
  | .map entries => uptoBulkEntries entries + 1
  | .held _ => 1
def uptoBulkAll {H : Type} : List (DataW H) → Nat
  | [] => 0
  | d :: r => uptoBulk d + uptoBulkAll r
def uptoBulkEntries {H : Type} : List (Lit × DataW H) → Nat
  | [] => 0
  | x :: r => uptoBulkEntry x + uptoBulkEntries r
def uptoBulkEntry {H : Type} : Lit × DataW H → Nat
  | (.string bytes, d) => bytes.length + uptoBulk d + 1
  | (_, d) => uptoBulk d + 1
 end
def uptoSmall : (H : Type) → List (DataW H) → Bool := fun _ ds => decide (uptoBulkAll ds ≤ 1048576)
def OpenSpec.upto (s : _root_.Go.ChangeSpec) : _root_.Go.OpenSpec := { _root_.Go.OpenSpec.ofChange s with cond := some uptoSmall }

/-- 'raddlelaw04.RowReads', WHERE WHAT IT READS IS OF BULK AT MOST 1048576: true; the input reads as it did. -/
def rowReadsUptoRow : OpenClaim := { program := "ytiaiglihndbjeaa", sum := "66f5bf17d16b761796fb1b7346015023ba2366e0b5d4f1db7e8545a76e9c0fbd", func := "raddle/raddlelaw04.RowReads", spec := "rowReads", unfollowed := true, recurses := true, apart := false, narrowed := true }
def RowReadsUptoSaid : Prop := rowReadsUptoRow.holds Try.pinned (OpenSpec.upto rowReadsSpec)

/-- 'raddlelaw04.RowOrder', WHERE WHAT IT READS IS OF BULK AT MOST 1048576: true; the input reads as it did. -/
def rowOrderUptoRow : OpenClaim := { program := "ytiaiglihndbjeaa", sum := "66f5bf17d16b761796fb1b7346015023ba2366e0b5d4f1db7e8545a76e9c0fbd", func := "raddle/raddlelaw04.RowOrder", spec := "rowOrder", unfollowed := true, recurses := true, apart := false, narrowed := true }
def RowOrderUptoSaid : Prop := rowOrderUptoRow.holds Try.pinned (OpenSpec.upto rowOrderSpec)

/-- 'raddlelaw04.RowSizes', WHERE WHAT IT READS IS OF BULK AT MOST 1048576: true; the input reads as it did. -/
def rowSizesUptoRow : OpenClaim := { program := "ytiaiglihndbjeaa", sum := "66f5bf17d16b761796fb1b7346015023ba2366e0b5d4f1db7e8545a76e9c0fbd", func := "raddle/raddlelaw04.RowSizes", spec := "rowSizes", unfollowed := true, recurses := true, apart := false, narrowed := true }
def RowSizesUptoSaid : Prop := rowSizesUptoRow.holds Try.pinned (OpenSpec.upto rowSizesSpec)

/-- 'raddlelaw04.RowArity', WHERE WHAT IT READS IS OF BULK AT MOST 1048576: true; the input reads as it did. -/
def rowArityUptoRow : OpenClaim := { program := "ytiaiglihndbjeaa", sum := "66f5bf17d16b761796fb1b7346015023ba2366e0b5d4f1db7e8545a76e9c0fbd", func := "raddle/raddlelaw04.RowArity", spec := "rowArity", unfollowed := true, recurses := true, apart := false, narrowed := true }
def RowArityUptoSaid : Prop := rowArityUptoRow.holds Try.pinned (OpenSpec.upto rowAritySpec)

/-- 'raddlelaw04.RowFits', WHERE WHAT IT READS IS OF BULK AT MOST 1048576: true; the input reads as it did. -/
def rowFitsUptoRow : OpenClaim := { program := "ytiaiglihndbjeaa", sum := "66f5bf17d16b761796fb1b7346015023ba2366e0b5d4f1db7e8545a76e9c0fbd", func := "raddle/raddlelaw04.RowFits", spec := "rowFits", unfollowed := true, recurses := true, apart := false, narrowed := true }
def RowFitsUptoSaid : Prop := rowFitsUptoRow.holds Try.pinned (OpenSpec.upto rowFitsSpec)

/-- 'raddlelaw04.RowExact', WHERE WHAT IT READS IS OF BULK AT MOST 1048576: true; the input reads as it did. -/
def rowExactUptoRow : OpenClaim := { program := "ytiaiglihndbjeaa", sum := "66f5bf17d16b761796fb1b7346015023ba2366e0b5d4f1db7e8545a76e9c0fbd", func := "raddle/raddlelaw04.RowExact", spec := "rowExact", unfollowed := true, recurses := true, apart := false, narrowed := true }
def RowExactUptoSaid : Prop := rowExactUptoRow.holds Try.pinned (OpenSpec.upto rowExactSpec)

/-- 'raddlelaw04.RowPicks', WHERE WHAT IT READS IS OF BULK AT MOST 1048576: true; the input reads as it did. -/
def rowPicksUptoRow : OpenClaim := { program := "ytiaiglihndbjeaa", sum := "66f5bf17d16b761796fb1b7346015023ba2366e0b5d4f1db7e8545a76e9c0fbd", func := "raddle/raddlelaw04.RowPicks", spec := "rowPicks", unfollowed := true, recurses := true, apart := false, narrowed := true }
def RowPicksUptoSaid : Prop := rowPicksUptoRow.holds Try.pinned (OpenSpec.upto rowPicksSpec)

end Rows
end Go.Proofs.Ytiaiglihndbjeaa
