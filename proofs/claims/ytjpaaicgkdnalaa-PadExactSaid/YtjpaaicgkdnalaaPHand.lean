-- Printed by a program of this session (wip/hp.py: the printer of the kit with hooks of our own); Lean checks it.
import Derived.Test.YtjpaaicgkdnalaaPAllx0
namespace Go.Proofs.Ytjpaaicgkdnalaa.PAll
open Go.RowKit Go.Proofs.YtjpaaicgkdnalaaW.PrintWords Go.Proofs.YtjpaaicgkdnalaaW.PrintLast Go.Proofs.YtjpaaicgkdnalaaW.PrintMore
attribute [local go_sem] max2_int min2_int max_two min_two max_three min_three max_four min_four   -- for this text's walks alone
set_option linter.unusedVariables false
set_option linter.unusedSimpArgs false

def hand.WF41 (x : S41) : Prop := (Lit.int .i64 x.f0).wf = true ∧ (Lit.int .i64 x.f1).wf = true ∧ (x.f2.length ≤ maxLen ∧ ∀ x0_ ∈ x.f2, (Lit.int .u8 x0_).wf = true) ∧ (x.f3.length ≤ maxLen ∧ ∀ x0_ ∈ x.f3, True) ∧ (Lit.int .i64 x.f4).wf = true
end Go.Proofs.Ytjpaaicgkdnalaa.PAll
