-- Printed by a program of this session (wip/hp.py: the printer of the kit with hooks of our own); Lean checks it.
import Derived.Test.YtomahagonogapaaProg
import Derived.Below
import Derived.Deep.Draws
import Derived.Deep.AppendLies
import Derived.Maps.AppendAt
import Derived.OwnWalk
import Derived.Laws.BytesArg
import Derived.Laws.MakeOwn
import Derived.Laws.OwnMore
import Derived.Deep.OwnRows
import Derived.Tactics
import Derived.Lib.ConvBytes
import Derived.Laws.Slices
import Derived.WalkKit
import Derived.KernelRfl
import Derived.RowKit3
import Derived.Deep.LoopGhost
import Derived.Deep.QuietTactic
import Derived.BigQuiet
import Derived.WideLaws
import Derived.Deep.DeepCutAuto
import Derived.Deep.CutBlock
import Derived.Deep.RegionHeld3
import Derived.Laws.Rows
import Derived.Lib.AppendStr
import Derived.ArgAppend
import Derived.Laws.IdiomCopy
import Derived.OrdersHeld
import Derived.Laws.BitsLemmas
import Derived.RowKit
import Derived.WalkSpells
import Derived.Lib.SliceRun
import Derived.Test.YtomahagonogapaaWWords
import Derived.Test.YtomahagonogapaaWLast
import Derived.Test.YtomahagonogapaaWTab
import Derived.Test.YtomahagonogapaaWFour
import Derived.Test.YtomahagonogapaaWQPut
import Derived.Test.YtomahagonogapaaWApart
import Derived.Test.YtomahagonogapaaWArr
import Derived.Test.YtomahagonogapaaWZeros
import Derived.Test.YtomahagonogapaaWFoot
import Derived.Test.YtomahagonogapaaWKept
import Derived.Test.YtomahagonogapaaWShare
import Derived.Test.YtomahagonogapaaWN
import Derived.Test.YtomahagonogapaaWFootNe
import Derived.Test.YtomahagonogapaaWAt
import Derived.Test.YtomahagonogapaaWEqStruct
import Derived.Test.YtomahagonogapaaWRepsOne
import Derived.Test.YtomahagonogapaaWInv
import Derived.Test.YtomahagonogapaaWInvWords
import Derived.Test.YtomahagonogapaaWGuard
import Derived.Test.YtomahagonogapaaWNEv
import Derived.Test.YtomahagonogapaaWMore
namespace Go.Proofs.Ytomahagonogapaa.PAll
open Go.RowKit Go.Proofs.YtomahagonogapaaW.PrintWords Go.Proofs.YtomahagonogapaaW.PrintLast Go.Proofs.YtomahagonogapaaW.PrintMore
attribute [local go_sem] max2_int min2_int max_two min_two max_three min_three max_four min_four   -- for this text's walks alone
set_option linter.unusedVariables false
set_option linter.unusedSimpArgs false



def errW : Option Int → Value
  | none => .nilIface
  | some c => .iface 0 (.int .i64 c)
theorem errW_none : errW none = .nilIface := rfl
theorem errW_some (c : Int) : errW (some c) = .iface 0 (.int .i64 c) := rfl

theorem info5 : (Try.prog.info? 5).map (fun i => (i.zero, i.size, i.bytes)) = some (some (.int .u8 0), 1, 1) := by kernel_rfl
-- the values' own types

end Go.Proofs.Ytomahagonogapaa.PAll
