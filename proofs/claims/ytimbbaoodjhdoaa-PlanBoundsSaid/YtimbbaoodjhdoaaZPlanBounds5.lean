-- wip/slice2.py
import Derived.Test.YtimbbaoodjhdoaaZPlanBounds4

section
namespace Go.Proofs.Ytimbbaoodjhdoaa.Opens
open Go.RowKit Go.Proofs.YtimbbaoodjhdoaaW.PrintWords Go.Proofs.YtimbbaoodjhdoaaW.PrintLast Go.Proofs.Ytimbbaoodjhdoaa.ZipT Go.Proofs.YtimbbaoodjhdoaaW.PrintWords.Kd Go.Proofs.YtimbbaoodjhdoaaW.PrintMore.Kd
set_option linter.unusedVariables false
set_option linter.unusedSimpArgs false
theorem pair_mk {α β : Type} {a : Kd α} {b : Kd β} {w : World} {x : α} {y : β} {cs : List Value} (n : Nat) (h0 : a.K w x (cs.take n)) (h1 : b.K w y (cs.drop n)) : (Kd.pair a b).K w (x, y) cs :=
 ⟨cs.take n, cs.drop n, (List.take_append_drop n cs).symm, h0, h1⟩
end Go.Proofs.Ytimbbaoodjhdoaa.Opens
end
