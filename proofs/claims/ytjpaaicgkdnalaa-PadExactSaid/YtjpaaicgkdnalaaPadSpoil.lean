/-
  A row that is spoilt, walked: what else there is stays.
  Conditions: none.
-/
import Derived.Test.YtjpaaicgkdnalaaPadActs
import Derived.Test.YtjpaaicgkdnalaaPAllx1
namespace Go.Proofs.Ytjpaaicgkdnalaa.Pads
open Go.RowKit Go.Proofs.YtjpaaicgkdnalaaW.PrintWords Go.Proofs.YtjpaaicgkdnalaaW.PrintLast Go.Proofs.YtjpaaicgkdnalaaW.PrintMore Go.Proofs.Ytjpaaicgkdnalaa.Sep PAll
set_option linter.unusedVariables false
theorem spoil_l (m : Nat) : ∀ (n i : Nat) (x : List Int), x.length = m → m ≤ 70000 → i + n = m → ∃ r, raddlekeep_SpoilBytes.l0 (n + 1) x (i : Int) = some r
  | 0, i, x, hl, hm, h => by
    unfold raddlekeep_SpoilBytes.l0
    rw [if_neg (by omega)]
    exact ⟨_, rfl⟩
  | n + 1, i, x, hl, hm, h => by
    unfold raddlekeep_SpoilBytes.l0
    rw [if_pos (by omega), if_pos (by omega), show wrap64 ((i : Int) + 1) = ((i + 1 : Nat) : Int) from by unfold wrap64; omega]
    exact spoil_l m n (i + 1) _ (by rw [List.length_set]; exact hl) hm (by omega)
theorem spoil_f (x : List Int) (hx : x.length ≤ 70000) : ∃ r, raddlekeep_SpoilBytes.f (x.length + 1) x = some r := spoil_l x.length x.length 0 x rfl hx (by omega)
theorem spoil_calls {w : World} {F : List Part} {v : Value} {x : List Int} (hS : Sp w (Row (Kd.int .u8) 5 v x :: F)) (hx : x.length ≤ 70000) :
    Calls Try.prog 35 #[v] w fun e w' => e = .returned (.tuple #[]) ∧ Sp w' F := by
  obtain ⟨ok, h1, h2, h3⟩ := hS.head1
  obtain ⟨r, hr⟩ := spoil_f x hx
  refine (raddlekeep_SpoilBytes.calls (x.length + 1) ok v x r { w with heap := #[] } w ⟨rfl, rfl, rfl, Nat.zero_le _, fun k hk => absurd hk (Nat.not_lt_zero k)⟩ h2 hr).mono ?_
  rintro e w' ⟨rfl, hR, hB, hK⟩
  refine ⟨rfl, Sp.tail (h3 w' (Row (Kd.int .u8) 5 v r) ?_ ?_)⟩
  · exact ⟨hB.os, hB.tape, hB.output, hK.1, fun i hi hn => hK.2 i hi hn⟩
  · exact Kd.R_mono (Kd.R_bound hR) (fun k hk => hk.1.elim .inl (fun h => .inr ⟨h, hk.2.2.1⟩))
end Go.Proofs.Ytjpaaicgkdnalaa.Pads
