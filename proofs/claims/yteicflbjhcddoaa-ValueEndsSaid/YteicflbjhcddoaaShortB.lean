/-
  More short forms, for texts that would be too long.
  Conditions: none; plain theorems.
-/
import Derived.Test.YteicflbjhcddoaaShort
import Derived.Test.YteicflbjhcddoaaWMore
namespace Go.Proofs.Yteicflbjhcddoaa.ShortB
open Go.RowKit Go.Proofs.YteicflbjhcddoaaW.PrintWords Go.Proofs.YteicflbjhcddoaaW.PrintLast Go.Proofs.YteicflbjhcddoaaW.PrintMore
set_option linter.unusedVariables false
theorem rK {α : Type} {d : Kd α} {e : Nat} {w w1 : World} {base : Nat} {ok : Nat → Prop} {v : Value} {xs : List α} (k : Aside0 (Kd.R d e w base ok v xs))
    (h : Kd.R d e w base ok v xs → Kd.R d e w1 base ok v xs := by intro h_; (with_reducible repeat (first | apply Kd.R_alloc | apply Kd.R_drewN | apply Kd.R_drew)); exact h_) : Kd.R d e w1 base ok v xs := h k.out
section
variable {P : Program} {ops : Array Oper} {Q : Exit → Act → World → Prop} {md : Region.Mode} {S : World → Prop} {ds : List Nat}
theorem nE {fuel : Nat} {l : Array Bool} {a a' : Act} {w : World} (h : wpAnyLast P md ops Q S ds fuel l a' w)
    (ha : a = a' := by first | (simp only [putAll, Act.put, List.setIfInBounds_toArray, List.set_cons_zero, List.set_cons_succ]; done) | (simp only [putAll, Act.put, List.setIfInBounds_toArray, List.set_cons_zero, List.set_cons_succ]; rfl)) : wpAnyLast P md ops Q S ds fuel l a w := norm_ ha h
end
end Go.Proofs.Yteicflbjhcddoaa.ShortB
