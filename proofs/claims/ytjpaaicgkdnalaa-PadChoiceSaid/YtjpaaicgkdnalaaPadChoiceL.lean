/-
  PadChoice: what its row asks of the walk.
  Conditions: none.
-/
import Derived.Test.YtjpaaicgkdnalaaPadChoiceW
namespace Go.Proofs.Ytjpaaicgkdnalaa.Pads
open Go.RowKit Go.Proofs.YtjpaaicgkdnalaaW.PrintWords
theorem choice_law (safe loose : Int) (A : Option Addr) (c : Nat) (keep : List Bool) (torn : Int) (w : World) (_ : (Lit.int .i64 safe).wf = true) (_ : (Lit.int .i64 loose).wf = true) (_ : keep.length ≤ maxLen ∧ ∀ x ∈ keep, True) (_ : (Lit.int .i64 torn).wf = true)
    (hr : Kd.C Kd.bool w A keep.length keep) (hc : keep.length ≤ c) :
    Calls Try.prog 3 #[.int .i64 safe, .int .i64 loose, .slice A keep.length c, .int .i64 torn] w fun e w' => e = .returned (.bool true) ∧ Below w.heap.size w w' := choice_calls safe loose A c keep torn w hr hc
end Go.Proofs.Ytjpaaicgkdnalaa.Pads
