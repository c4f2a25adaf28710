/-
  No cell of these rows narrows 'for every input' (looked for: loops, veiled, ifaces, maps, wideKeys, modest, calm, conditions, laid).
  DERIVED. THE GIVEN ROWS OF THIS SEAT. 7 by the template 'for every input the law returns true; each argument reads behind the call as it read before'; 0 by the template 'total and deterministic' (their statements: YtjnjfogfpmeacaaTotals.lean).
  GIVEN WITH THE SEED: the statements are not yours to turn. If you find one false, say at which input.
  Laid BY PROGRAM, IN A SANDBOX (cutbox-rows.mjs): the forced cells as the released guide's own fill.sh prints them over the translation fe20da17f314c67a… (all of the seat's roots in one cut). By AI agents, Wed Nov 11 2026. No macro, syntax, notation, axiom, sorry.
-/
import Derived.Test.YtjnjfogfpmeacaaChecked
import GoSem.Claim
import GoSem.ClaimJoined
import GoSem.ClaimMapViews
import Derived.JoinedTies
import Derived.KernelRfl
namespace Go.Proofs.Ytjnjfogfpmeacaa
/- THE CELL 'sum', in the pinned program and in every row, IS THE sha256 OF THE DUMP (.gsa) THAT YtjnjfogfpmeacaaProg.lean LOADS. Nothing in Lean hashes anything: it is a label: what it is worth is what the hold of that sum in a sandbox is worth. -/
noncomputable def Try.pinned : Pinned := { name := "ytjnjfogfpmeacaa", sum := "fe20da17f314c67a8d5d236143b5ee87749bd8abebd70143f7f198d07e87321b", checked := Try.checked }
namespace Rows
def none {H : Type} : Left H := { results := [], args := [] }

/-- 'raddlelaw07.OpReads': WHATEVER THE INPUT: true; the input reads as it did. -/
def opReadsSpec : ChangeSpec := { name := "opReads", fn := fun _ => fun
  | [d1, d2] => { results := [.lit (.bool true)], args := [d1, d2] }
  | _ => none }
def opReadsRow : OpenClaim := { program := "ytjnjfogfpmeacaa", sum := "fe20da17f314c67a8d5d236143b5ee87749bd8abebd70143f7f198d07e87321b", func := "raddle/raddlelaw07.OpReads", spec := "opReads", unfollowed := true, recurses := true, apart := false }
def OpReadsSaid : Prop := opReadsRow.holds Try.pinned (OpenSpec.ofChange opReadsSpec)

/-- ITS FALSE NEIGHBOUR: 'it returns false'. Refute it at one input. -/
def opReadsWrong : ChangeSpec := { name := "opReads", fn := fun _ => fun
  | [d1, d2] => { results := [.lit (.bool false)], args := [d1, d2] }
  | _ => none }
def OpReadsWrongFalsely : Prop := opReadsRow.holds Try.pinned (OpenSpec.ofChange opReadsWrong)

/-- 'raddlelaw07.OpUnlike': WHATEVER THE INPUT: true; the input reads as it did. -/
def opUnlikeSpec : ChangeSpec := { name := "opUnlike", fn := fun _ => fun
  | [d1, d2, d3, d4, d5] => { results := [.lit (.bool true)], args := [d1, d2, d3, d4, d5] }
  | _ => none }
def opUnlikeRow : OpenClaim := { program := "ytjnjfogfpmeacaa", sum := "fe20da17f314c67a8d5d236143b5ee87749bd8abebd70143f7f198d07e87321b", func := "raddle/raddlelaw07.OpUnlike", spec := "opUnlike", unfollowed := true, recurses := true, apart := false }
def OpUnlikeSaid : Prop := opUnlikeRow.holds Try.pinned (OpenSpec.ofChange opUnlikeSpec)

/-- ITS FALSE NEIGHBOUR: 'it returns false'. Refute it at one input. -/
def opUnlikeWrong : ChangeSpec := { name := "opUnlike", fn := fun _ => fun
  | [d1, d2, d3, d4, d5] => { results := [.lit (.bool false)], args := [d1, d2, d3, d4, d5] }
  | _ => none }
def OpUnlikeWrongFalsely : Prop := opUnlikeRow.holds Try.pinned (OpenSpec.ofChange opUnlikeWrong)

/-- 'raddlelaw07.OpKinds': WHATEVER THE INPUT: true; the input reads as it did. -/
def opKindsSpec : ChangeSpec := { name := "opKinds", fn := fun _ => fun
  | [d1, d2, d3, d4] => { results := [.lit (.bool true)], args := [d1, d2, d3, d4] }
  | _ => none }
def opKindsRow : OpenClaim := { program := "ytjnjfogfpmeacaa", sum := "fe20da17f314c67a8d5d236143b5ee87749bd8abebd70143f7f198d07e87321b", func := "raddle/raddlelaw07.OpKinds", spec := "opKinds", unfollowed := true, recurses := true, apart := false }
def OpKindsSaid : Prop := opKindsRow.holds Try.pinned (OpenSpec.ofChange opKindsSpec)

/-- ITS FALSE NEIGHBOUR: 'it returns false'. Refute it at one input. -/
def opKindsWrong : ChangeSpec := { name := "opKinds", fn := fun _ => fun
  | [d1, d2, d3, d4] => { results := [.lit (.bool false)], args := [d1, d2, d3, d4] }
  | _ => none }
def OpKindsWrongFalsely : Prop := opKindsRow.holds Try.pinned (OpenSpec.ofChange opKindsWrong)

/-- 'raddlelaw07.OpDots': WHATEVER THE INPUT: true; the input reads as it did. -/
def opDotsSpec : ChangeSpec := { name := "opDots", fn := fun _ => fun
  | [d1, d2] => { results := [.lit (.bool true)], args := [d1, d2] }
  | _ => none }
def opDotsRow : OpenClaim := { program := "ytjnjfogfpmeacaa", sum := "fe20da17f314c67a8d5d236143b5ee87749bd8abebd70143f7f198d07e87321b", func := "raddle/raddlelaw07.OpDots", spec := "opDots", unfollowed := true, recurses := true, apart := false }
def OpDotsSaid : Prop := opDotsRow.holds Try.pinned (OpenSpec.ofChange opDotsSpec)

/-- ITS FALSE NEIGHBOUR: 'it returns false'. Refute it at one input. -/
def opDotsWrong : ChangeSpec := { name := "opDots", fn := fun _ => fun
  | [d1, d2] => { results := [.lit (.bool false)], args := [d1, d2] }
  | _ => none }
def OpDotsWrongFalsely : Prop := opDotsRow.holds Try.pinned (OpenSpec.ofChange opDotsWrong)

/-- 'raddlelaw07.OpSizes': WHATEVER THE INPUT: true; the input reads as it did. -/
def opSizesSpec : ChangeSpec := { name := "opSizes", fn := fun _ => fun
  | [d] => { results := [.lit (.bool true)], args := [d] }
  | _ => none }
def opSizesRow : OpenClaim := { program := "ytjnjfogfpmeacaa", sum := "fe20da17f314c67a8d5d236143b5ee87749bd8abebd70143f7f198d07e87321b", func := "raddle/raddlelaw07.OpSizes", spec := "opSizes", unfollowed := true, recurses := true, apart := false }
def OpSizesSaid : Prop := opSizesRow.holds Try.pinned (OpenSpec.ofChange opSizesSpec)

/-- ITS FALSE NEIGHBOUR: 'it returns false'. Refute it at one input. -/
def opSizesWrong : ChangeSpec := { name := "opSizes", fn := fun _ => fun
  | [d] => { results := [.lit (.bool false)], args := [d] }
  | _ => none }
def OpSizesWrongFalsely : Prop := opSizesRow.holds Try.pinned (OpenSpec.ofChange opSizesWrong)

/-- 'raddlelaw07.OpForms': WHATEVER THE INPUT: true; the input reads as it did. -/
def opFormsSpec : ChangeSpec := { name := "opForms", fn := fun _ => fun
  | [d1, d2, d3] => { results := [.lit (.bool true)], args := [d1, d2, d3] }
  | _ => none }
def opFormsRow : OpenClaim := { program := "ytjnjfogfpmeacaa", sum := "fe20da17f314c67a8d5d236143b5ee87749bd8abebd70143f7f198d07e87321b", func := "raddle/raddlelaw07.OpForms", spec := "opForms", unfollowed := true, recurses := true, apart := false }
def OpFormsSaid : Prop := opFormsRow.holds Try.pinned (OpenSpec.ofChange opFormsSpec)

/-- ITS FALSE NEIGHBOUR: 'it returns false'. Refute it at one input. -/
def opFormsWrong : ChangeSpec := { name := "opForms", fn := fun _ => fun
  | [d1, d2, d3] => { results := [.lit (.bool false)], args := [d1, d2, d3] }
  | _ => none }
def OpFormsWrongFalsely : Prop := opFormsRow.holds Try.pinned (OpenSpec.ofChange opFormsWrong)

/-- 'raddlelaw07.OpKeys': WHATEVER THE INPUT: true; the input reads as it did. -/
def opKeysSpec : ChangeSpec := { name := "opKeys", fn := fun _ => fun
  | [d1, d2] => { results := [.lit (.bool true)], args := [d1, d2] }
  | _ => none }
def opKeysRow : OpenClaim := { program := "ytjnjfogfpmeacaa", sum := "fe20da17f314c67a8d5d236143b5ee87749bd8abebd70143f7f198d07e87321b", func := "raddle/raddlelaw07.OpKeys", spec := "opKeys", unfollowed := true, recurses := true, apart := false }
def OpKeysSaid : Prop := opKeysRow.holds Try.pinned (OpenSpec.ofChange opKeysSpec)

/-- ITS FALSE NEIGHBOUR: 'it returns false'. Refute it at one input. -/
def opKeysWrong : ChangeSpec := { name := "opKeys", fn := fun _ => fun
  | [d1, d2] => { results := [.lit (.bool false)], args := [d1, d2] }
  | _ => none }
def OpKeysWrongFalsely : Prop := opKeysRow.holds Try.pinned (OpenSpec.ofChange opKeysWrong)

/- THE SECOND FORM. 'bulk': how many values and letters a reading holds, each counted each time it is reached (what is shared counts as often as it is met; a slice's spare places count too). A statement '..UptoSaid' is the law's where the arguments, and the package variables that the reading takes, are together of bulk at most 1048576: NARROWER than '..Said'. Prove '..Said' where nothing that the law and all that it calls make is longer than what came in: it says more and counts as full. Else prove '..UptoSaid'. A law counts once. -/
mutual
def uptoBulk {H : Type} : DataW H → Nat
  | .lit (.string bytes) => bytes.length + 1
  | .lit _ => 1
  | .nil => 1
  | .ptr d => uptoBulk d + 1
  | .slice elems spare => uptoBulkAll elems + uptoBulkAll spare + 1
  | .agg parts => uptoBulkAll parts + 1
  | .iface _ d => uptoBulk d + 1
  | .map entries => uptoBulkEntries entries + 1
  | .held _ => 1
def uptoBulkAll {H : Type} : List (DataW H) → Nat
  | [] => 0
  | d :: r => uptoBulk d + uptoBulkAll r
def uptoBulkEntries {H : Type} : List (Lit × DataW H) → Nat
  | [] => 0
  | x :: r => uptoBulkEntry x + uptoBulkEntries r
def uptoBulkEntry {H : Type} : Lit × DataW H → Nat
  | (.string bytes, d) => bytes.length + uptoBulk d + 1
  | (_, d) => uptoBulk d + 1
 end
def uptoSmall : (H : Type) → List (DataW H) → Bool := fun _ ds => decide (uptoBulkAll ds ≤ 1048576)
def OpenSpec.upto (s : _root_.Go.ChangeSpec) : _root_.Go.OpenSpec := { _root_.Go.OpenSpec.ofChange s with cond := some uptoSmall }

/-- 'raddlelaw07.OpReads', WHERE WHAT IT READS IS OF BULK AT MOST 1048576: true; the input reads as it did. -/
def opReadsUptoRow : OpenClaim := { program := "ytjnjfogfpmeacaa", sum := "fe20da17f314c67a8d5d236143b5ee87749bd8abebd70143f7f198d07e87321b", func := "raddle/raddlelaw07.OpReads", spec := "opReads", unfollowed := true, recurses := true, apart := false, narrowed := true }
def OpReadsUptoSaid : Prop := opReadsUptoRow.holds Try.pinned (OpenSpec.upto opReadsSpec)

/-- 'raddlelaw07.OpUnlike', WHERE WHAT IT READS IS OF BULK AT MOST 1048576: true; the input reads as it did. -/
def opUnlikeUptoRow : OpenClaim := { program := "ytjnjfogfpmeacaa", sum := "fe20da17f314c67a8d5d236143b5ee87749bd8abebd70143f7f198d07e87321b", func := "raddle/raddlelaw07.OpUnlike", spec := "opUnlike", unfollowed := true, recurses := true, apart := false, narrowed := true }
def OpUnlikeUptoSaid : Prop := opUnlikeUptoRow.holds Try.pinned (OpenSpec.upto opUnlikeSpec)

/-- 'raddlelaw07.OpKinds', WHERE WHAT IT READS IS OF BULK AT MOST 1048576: true; the input reads as it did. -/
def opKindsUptoRow : OpenClaim := { program := "ytjnjfogfpmeacaa", sum := "fe20da17f314c67a8d5d236143b5ee87749bd8abebd70143f7f198d07e87321b", func := "raddle/raddlelaw07.OpKinds", spec := "opKinds", unfollowed := true, recurses := true, apart := false, narrowed := true }
def OpKindsUptoSaid : Prop := opKindsUptoRow.holds Try.pinned (OpenSpec.upto opKindsSpec)

/-- 'raddlelaw07.OpDots', WHERE WHAT IT READS IS OF BULK AT MOST 1048576: true; the input reads as it did. -/
def opDotsUptoRow : OpenClaim := { program := "ytjnjfogfpmeacaa", sum := "fe20da17f314c67a8d5d236143b5ee87749bd8abebd70143f7f198d07e87321b", func := "raddle/raddlelaw07.OpDots", spec := "opDots", unfollowed := true, recurses := true, apart := false, narrowed := true }
def OpDotsUptoSaid : Prop := opDotsUptoRow.holds Try.pinned (OpenSpec.upto opDotsSpec)

/-- 'raddlelaw07.OpSizes', WHERE WHAT IT READS IS OF BULK AT MOST 1048576: true; the input reads as it did. -/
def opSizesUptoRow : OpenClaim := { program := "ytjnjfogfpmeacaa", sum := "fe20da17f314c67a8d5d236143b5ee87749bd8abebd70143f7f198d07e87321b", func := "raddle/raddlelaw07.OpSizes", spec := "opSizes", unfollowed := true, recurses := true, apart := false, narrowed := true }
def OpSizesUptoSaid : Prop := opSizesUptoRow.holds Try.pinned (OpenSpec.upto opSizesSpec)

/-- 'raddlelaw07.OpForms', WHERE WHAT IT READS IS OF BULK AT MOST 1048576: true; the input reads as it did. -/
def opFormsUptoRow : OpenClaim := { program := "ytjnjfogfpmeacaa", sum := "fe20da17f314c67a8d5d236143b5ee87749bd8abebd70143f7f198d07e87321b", func := "raddle/raddlelaw07.OpForms", spec := "opForms", unfollowed := true, recurses := true, apart := false, narrowed := true }
def OpFormsUptoSaid : Prop := opFormsUptoRow.holds Try.pinned (OpenSpec.upto opFormsSpec)

/-- 'raddlelaw07.OpKeys', WHERE WHAT IT READS IS OF BULK AT MOST 1048576: true; the input reads as it did. -/
def opKeysUptoRow : OpenClaim := { program := "ytjnjfogfpmeacaa", sum := "fe20da17f314c67a8d5d236143b5ee87749bd8abebd70143f7f198d07e87321b", func := "raddle/raddlelaw07.OpKeys", spec := "opKeys", unfollowed := true, recurses := true, apart := false, narrowed := true }
def OpKeysUptoSaid : Prop := opKeysUptoRow.holds Try.pinned (OpenSpec.upto opKeysSpec)

end Rows
end Go.Proofs.Ytjnjfogfpmeacaa
