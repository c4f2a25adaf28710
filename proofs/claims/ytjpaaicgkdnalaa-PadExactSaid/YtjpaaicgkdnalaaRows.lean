/-
  No cell of these rows narrows 'for every input' (looked for: loops, veiled, ifaces, maps, wideKeys, modest, calm, conditions, laid).
  DERIVED. THE GIVEN ROWS OF THIS SEAT. 8 by the template 'for every input the law returns true; each argument reads behind the call as it read before'; 0 by the template 'total and deterministic' (their statements: YtjpaaicgkdnalaaTotals.lean).
  GIVEN WITH THE SEED: the statements are not yours to turn. If you find one false, say at which input.
  Laid BY PROGRAM, IN A SANDBOX (cutbox-rows.mjs): the forced cells as the released guide's own fill.sh prints them over the translation 8832f6f74dfe7de0… (all of the seat's roots in one cut). By AI agents, Wed Nov 11 2026. No macro, syntax, notation, axiom, sorry.
-/
import Derived.Test.YtjpaaicgkdnalaaChecked
import GoSem.Claim
import GoSem.ClaimJoined
import GoSem.ClaimMapViews
import Derived.JoinedTies
import Derived.KernelRfl
namespace Go.Proofs.Ytjpaaicgkdnalaa
/- THE CELL 'sum', in the pinned program and in every row, IS THE sha256 OF THE DUMP (.gsa) THAT YtjpaaicgkdnalaaProg.lean LOADS. Nothing in Lean hashes anything: it is a label: what it is worth is what the hold of that sum in a sandbox is worth. -/
noncomputable def Try.pinned : Pinned := { name := "ytjpaaicgkdnalaa", sum := "8832f6f74dfe7de00a138c3206e89c084b9f43b49dbb02a44fdbc5a74a12399a", checked := Try.checked }
namespace Rows
def none {H : Type} : Left H := { results := [], args := [] }

/-- 'raddlelaw09.PadChoice': WHATEVER THE INPUT: true; the input reads as it did. -/
def padChoiceSpec : ChangeSpec := { name := "padChoice", fn := fun _ => fun
  | [d1, d2, d3, d4] => { results := [.lit (.bool true)], args := [d1, d2, d3, d4] }
  | _ => none }
def padChoiceRow : OpenClaim := { program := "ytjpaaicgkdnalaa", sum := "8832f6f74dfe7de00a138c3206e89c084b9f43b49dbb02a44fdbc5a74a12399a", func := "raddle/raddlelaw09.PadChoice", spec := "padChoice", apart := false }
def PadChoiceSaid : Prop := padChoiceRow.holds Try.pinned (OpenSpec.ofChange padChoiceSpec)

/-- ITS FALSE NEIGHBOUR: 'it returns false'. Refute it at one input. -/
def padChoiceWrong : ChangeSpec := { name := "padChoice", fn := fun _ => fun
  | [d1, d2, d3, d4] => { results := [.lit (.bool false)], args := [d1, d2, d3, d4] }
  | _ => none }
def PadChoiceWrongFalsely : Prop := padChoiceRow.holds Try.pinned (OpenSpec.ofChange padChoiceWrong)

/-- 'raddlelaw09.PadSafe': WHATEVER THE INPUT: true; the input reads as it did. -/
def padSafeSpec : ChangeSpec := { name := "padSafe", fn := fun _ => fun
  | [d1, d2] => { results := [.lit (.bool true)], args := [d1, d2] }
  | _ => none }
def padSafeRow : OpenClaim := { program := "ytjpaaicgkdnalaa", sum := "8832f6f74dfe7de00a138c3206e89c084b9f43b49dbb02a44fdbc5a74a12399a", func := "raddle/raddlelaw09.PadSafe", spec := "padSafe", apart := false }
def PadSafeSaid : Prop := padSafeRow.holds Try.pinned (OpenSpec.ofChange padSafeSpec)

/-- ITS FALSE NEIGHBOUR: 'it returns false'. Refute it at one input. -/
def padSafeWrong : ChangeSpec := { name := "padSafe", fn := fun _ => fun
  | [d1, d2] => { results := [.lit (.bool false)], args := [d1, d2] }
  | _ => none }
def PadSafeWrongFalsely : Prop := padSafeRow.holds Try.pinned (OpenSpec.ofChange padSafeWrong)

/-- 'raddlelaw09.PadLives': WHATEVER THE INPUT: true; the input reads as it did. -/
def padLivesSpec : ChangeSpec := { name := "padLives", fn := fun _ => fun
  | [d1, d2] => { results := [.lit (.bool true)], args := [d1, d2] }
  | _ => none }
def padLivesRow : OpenClaim := { program := "ytjpaaicgkdnalaa", sum := "8832f6f74dfe7de00a138c3206e89c084b9f43b49dbb02a44fdbc5a74a12399a", func := "raddle/raddlelaw09.PadLives", spec := "padLives", apart := false }
def PadLivesSaid : Prop := padLivesRow.holds Try.pinned (OpenSpec.ofChange padLivesSpec)

/-- ITS FALSE NEIGHBOUR: 'it returns false'. Refute it at one input. -/
def padLivesWrong : ChangeSpec := { name := "padLives", fn := fun _ => fun
  | [d1, d2] => { results := [.lit (.bool false)], args := [d1, d2] }
  | _ => none }
def PadLivesWrongFalsely : Prop := padLivesRow.holds Try.pinned (OpenSpec.ofChange padLivesWrong)

/-- 'raddlelaw09.PadRoom': WHATEVER THE INPUT: true; the input reads as it did. -/
def padRoomSpec : ChangeSpec := { name := "padRoom", fn := fun _ => fun
  | [d] => { results := [.lit (.bool true)], args := [d] }
  | _ => none }
def padRoomRow : OpenClaim := { program := "ytjpaaicgkdnalaa", sum := "8832f6f74dfe7de00a138c3206e89c084b9f43b49dbb02a44fdbc5a74a12399a", func := "raddle/raddlelaw09.PadRoom", spec := "padRoom", apart := false }
def PadRoomSaid : Prop := padRoomRow.holds Try.pinned (OpenSpec.ofChange padRoomSpec)

/-- ITS FALSE NEIGHBOUR: 'it returns false'. Refute it at one input. -/
def padRoomWrong : ChangeSpec := { name := "padRoom", fn := fun _ => fun
  | [d] => { results := [.lit (.bool false)], args := [d] }
  | _ => none }
def PadRoomWrongFalsely : Prop := padRoomRow.holds Try.pinned (OpenSpec.ofChange padRoomWrong)

/-- 'raddlelaw09.PadEnds': WHATEVER THE INPUT: true; the input reads as it did. -/
def padEndsSpec : ChangeSpec := { name := "padEnds", fn := fun _ => fun
  | [d1, d2, d3] => { results := [.lit (.bool true)], args := [d1, d2, d3] }
  | _ => none }
def padEndsRow : OpenClaim := { program := "ytjpaaicgkdnalaa", sum := "8832f6f74dfe7de00a138c3206e89c084b9f43b49dbb02a44fdbc5a74a12399a", func := "raddle/raddlelaw09.PadEnds", spec := "padEnds", apart := false }
def PadEndsSaid : Prop := padEndsRow.holds Try.pinned (OpenSpec.ofChange padEndsSpec)

/-- ITS FALSE NEIGHBOUR: 'it returns false'. Refute it at one input. -/
def padEndsWrong : ChangeSpec := { name := "padEnds", fn := fun _ => fun
  | [d1, d2, d3] => { results := [.lit (.bool false)], args := [d1, d2, d3] }
  | _ => none }
def PadEndsWrongFalsely : Prop := padEndsRow.holds Try.pinned (OpenSpec.ofChange padEndsWrong)

/-- 'raddlelaw09.PadExact': WHATEVER THE INPUT: true; the input reads as it did. -/
def padExactSpec : ChangeSpec := { name := "padExact", fn := fun _ => fun
  | [d] => { results := [.lit (.bool true)], args := [d] }
  | _ => none }
def padExactRow : OpenClaim := { program := "ytjpaaicgkdnalaa", sum := "8832f6f74dfe7de00a138c3206e89c084b9f43b49dbb02a44fdbc5a74a12399a", func := "raddle/raddlelaw09.PadExact", spec := "padExact", apart := false }
def PadExactSaid : Prop := padExactRow.holds Try.pinned (OpenSpec.ofChange padExactSpec)

/-- ITS FALSE NEIGHBOUR: 'it returns false'. Refute it at one input. -/
def padExactWrong : ChangeSpec := { name := "padExact", fn := fun _ => fun
  | [d] => { results := [.lit (.bool false)], args := [d] }
  | _ => none }
def PadExactWrongFalsely : Prop := padExactRow.holds Try.pinned (OpenSpec.ofChange padExactWrong)

/-- 'raddlelaw09.PadTrips': WHATEVER THE INPUT: true; the input reads as it did. -/
def padTripsSpec : ChangeSpec := { name := "padTrips", fn := fun _ => fun
  | [d1, d2, d3] => { results := [.lit (.bool true)], args := [d1, d2, d3] }
  | _ => none }
def padTripsRow : OpenClaim := { program := "ytjpaaicgkdnalaa", sum := "8832f6f74dfe7de00a138c3206e89c084b9f43b49dbb02a44fdbc5a74a12399a", func := "raddle/raddlelaw09.PadTrips", spec := "padTrips", apart := false }
def PadTripsSaid : Prop := padTripsRow.holds Try.pinned (OpenSpec.ofChange padTripsSpec)

/-- ITS FALSE NEIGHBOUR: 'it returns false'. Refute it at one input. -/
def padTripsWrong : ChangeSpec := { name := "padTrips", fn := fun _ => fun
  | [d1, d2, d3] => { results := [.lit (.bool false)], args := [d1, d2, d3] }
  | _ => none }
def PadTripsWrongFalsely : Prop := padTripsRow.holds Try.pinned (OpenSpec.ofChange padTripsWrong)

/-- 'raddlelaw09.PadTwo': WHATEVER THE INPUT: true; the input reads as it did. -/
def padTwoSpec : ChangeSpec := { name := "padTwo", fn := fun _ => fun
  | [d1, d2] => { results := [.lit (.bool true)], args := [d1, d2] }
  | _ => none }
def padTwoRow : OpenClaim := { program := "ytjpaaicgkdnalaa", sum := "8832f6f74dfe7de00a138c3206e89c084b9f43b49dbb02a44fdbc5a74a12399a", func := "raddle/raddlelaw09.PadTwo", spec := "padTwo", apart := false }
def PadTwoSaid : Prop := padTwoRow.holds Try.pinned (OpenSpec.ofChange padTwoSpec)

/-- ITS FALSE NEIGHBOUR: 'it returns false'. Refute it at one input. -/
def padTwoWrong : ChangeSpec := { name := "padTwo", fn := fun _ => fun
  | [d1, d2] => { results := [.lit (.bool false)], args := [d1, d2] }
  | _ => none }
def PadTwoWrongFalsely : Prop := padTwoRow.holds Try.pinned (OpenSpec.ofChange padTwoWrong)

/- THE SECOND FORM. 'bulk': how many values and letters a reading holds, each counted each time it is reached (what is shared counts as often as it is met; a slice's spare places count too). A statement '..UptoSaid' is the law's where the arguments, and the package variables that the reading takes, are together of bulk at most 1048576: NARROWER than '..Said'. Prove '..Said' where nothing that the law and all that it calls make is longer than what came in: it says more and counts as full. Else prove '..UptoSaid'. A law counts once. -/
mutual
def uptoBulk {H : Type} : DataW H → Nat
  | .lit (.string bytes) => bytes.length + 1
  | .lit _ => 1
  | .nil => 1
  | .ptr d => uptoBulk d + 1
  | .slice elems spare => uptoBulkAll elems + uptoBulkAll spare + 1
  | .agg parts => uptoBulkAll parts + 1
  | .iface _ d => uptoBulk d + 1
  | .map entries => uptoBulkEntries entries + 1
  | .held _ => 1
def uptoBulkAll {H : Type} : List (DataW H) → Nat
  | [] => 0
  | d :: r => uptoBulk d + uptoBulkAll r
def uptoBulkEntries {H : Type} : List (Lit × DataW H) → Nat
  | [] => 0
  | x :: r => uptoBulkEntry x + uptoBulkEntries r
def uptoBulkEntry {H : Type} : Lit × DataW H → Nat
  | (.string bytes, d) => bytes.length + uptoBulk d + 1
  | (_, d) => uptoBulk d + 1
 end
def uptoSmall : (H : Type) → List (DataW H) → Bool := fun _ ds => decide (uptoBulkAll ds ≤ 1048576)
def OpenSpec.upto (s : _root_.Go.ChangeSpec) : _root_.Go.OpenSpec := { _root_.Go.OpenSpec.ofChange s with cond := some uptoSmall }

/-- 'raddlelaw09.PadChoice', WHERE WHAT IT READS IS OF BULK AT MOST 1048576: true; the input reads as it did. -/
def padChoiceUptoRow : OpenClaim := { program := "ytjpaaicgkdnalaa", sum := "8832f6f74dfe7de00a138c3206e89c084b9f43b49dbb02a44fdbc5a74a12399a", func := "raddle/raddlelaw09.PadChoice", spec := "padChoice", apart := false, narrowed := true }
def PadChoiceUptoSaid : Prop := padChoiceUptoRow.holds Try.pinned (OpenSpec.upto padChoiceSpec)

/-- 'raddlelaw09.PadSafe', WHERE WHAT IT READS IS OF BULK AT MOST 1048576: true; the input reads as it did. -/
def padSafeUptoRow : OpenClaim := { program := "ytjpaaicgkdnalaa", sum := "8832f6f74dfe7de00a138c3206e89c084b9f43b49dbb02a44fdbc5a74a12399a", func := "raddle/raddlelaw09.PadSafe", spec := "padSafe", apart := false, narrowed := true }
def PadSafeUptoSaid : Prop := padSafeUptoRow.holds Try.pinned (OpenSpec.upto padSafeSpec)

/-- 'raddlelaw09.PadLives', WHERE WHAT IT READS IS OF BULK AT MOST 1048576: true; the input reads as it did. -/
def padLivesUptoRow : OpenClaim := { program := "ytjpaaicgkdnalaa", sum := "8832f6f74dfe7de00a138c3206e89c084b9f43b49dbb02a44fdbc5a74a12399a", func := "raddle/raddlelaw09.PadLives", spec := "padLives", apart := false, narrowed := true }
def PadLivesUptoSaid : Prop := padLivesUptoRow.holds Try.pinned (OpenSpec.upto padLivesSpec)

/-- 'raddlelaw09.PadRoom', WHERE WHAT IT READS IS OF BULK AT MOST 1048576: true; the input reads as it did. -/
def padRoomUptoRow : OpenClaim := { program := "ytjpaaicgkdnalaa", sum := "8832f6f74dfe7de00a138c3206e89c084b9f43b49dbb02a44fdbc5a74a12399a", func := "raddle/raddlelaw09.PadRoom", spec := "padRoom", apart := false, narrowed := true }
def PadRoomUptoSaid : Prop := padRoomUptoRow.holds Try.pinned (OpenSpec.upto padRoomSpec)

/-- 'raddlelaw09.PadEnds', WHERE WHAT IT READS IS OF BULK AT MOST 1048576: true; the input reads as it did. -/
def padEndsUptoRow : OpenClaim := { program := "ytjpaaicgkdnalaa", sum := "8832f6f74dfe7de00a138c3206e89c084b9f43b49dbb02a44fdbc5a74a12399a", func := "raddle/raddlelaw09.PadEnds", spec := "padEnds", apart := false, narrowed := true }
def PadEndsUptoSaid : Prop := padEndsUptoRow.holds Try.pinned (OpenSpec.upto padEndsSpec)

/-- 'raddlelaw09.PadExact', WHERE WHAT IT READS IS OF BULK AT MOST 1048576: true; the input reads as it did. -/
def padExactUptoRow : OpenClaim := { program := "ytjpaaicgkdnalaa", sum := "8832f6f74dfe7de00a138c3206e89c084b9f43b49dbb02a44fdbc5a74a12399a", func := "raddle/raddlelaw09.PadExact", spec := "padExact", apart := false, narrowed := true }
def PadExactUptoSaid : Prop := padExactUptoRow.holds Try.pinned (OpenSpec.upto padExactSpec)

/-- 'raddlelaw09.PadTrips', WHERE WHAT IT READS IS OF BULK AT MOST 1048576: true; the input reads as it did. -/
def padTripsUptoRow : OpenClaim := { program := "ytjpaaicgkdnalaa", sum := "8832f6f74dfe7de00a138c3206e89c084b9f43b49dbb02a44fdbc5a74a12399a", func := "raddle/raddlelaw09.PadTrips", spec := "padTrips", apart := false, narrowed := true }
def PadTripsUptoSaid : Prop := padTripsUptoRow.holds Try.pinned (OpenSpec.upto padTripsSpec)

/-- 'raddlelaw09.PadTwo', WHERE WHAT IT READS IS OF BULK AT MOST 1048576: true; the input reads as it did. -/
def padTwoUptoRow : OpenClaim := { program := "ytjpaaicgkdnalaa", sum := "8832f6f74dfe7de00a138c3206e89c084b9f43b49dbb02a44fdbc5a74a12399a", func := "raddle/raddlelaw09.PadTwo", spec := "padTwo", apart := false, narrowed := true }
def PadTwoUptoSaid : Prop := padTwoUptoRow.holds Try.pinned (OpenSpec.upto padTwoSpec)

end Rows
end Go.Proofs.Ytjpaaicgkdnalaa
