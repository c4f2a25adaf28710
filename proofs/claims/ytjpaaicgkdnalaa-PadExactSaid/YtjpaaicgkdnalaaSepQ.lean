/-
  Rows that may begin inside their block, as parts of memory.
  Conditions: none; plain theorems.
-/
import Derived.Test.YtjpaaicgkdnalaaSep
import Derived.Test.YtjpaaicgkdnalaaWQPut
namespace Go.Proofs.Ytjpaaicgkdnalaa.Sep
open Go.RowKit Go.Proofs.YtjpaaicgkdnalaaW.PrintWords
set_option linter.unusedVariables false
theorem Q_readsM {α : Type} {d : Kd α} {e : Nat} {w : World} {base : Nat} {ok : Nat → Prop} {xs : List α} {A : Option Addr} {n c : Nat} (h : d.Q e w base ok (.slice A n c) xs) : n = xs.length ∧ n ≤ c ∧ ReadsRow (d.M w base ok) d.sz w A xs.length xs := by
  obtain ⟨_, inner, ho, hr⟩ := h
  obtain ⟨A', c', he, hl⟩ := q_slice ho
  injection he with h1 h2 h3
  subst h1; subst h2; subst h3
  refine ⟨rfl, hl, rfl, q_max ho, fun hp => ?_⟩
  obtain ⟨ad, ha, hc⟩ := q_cells ho hp
  refine ⟨ad, ha, fun j p hj => ⟨(inner.drop (j * d.sz)).take d.sz, ?_, d.M_mono (fun k hk => hk.1) (hr.2 j p hj), fun i u hu => ?_⟩⟩
  · have hjl := (List.getElem?_eq_some_iff.1 hj).1
    have h1 : j * d.sz + d.sz ≤ inner.length := by rw [hr.1, ← Nat.succ_mul]; exact Nat.mul_le_mul_right _ hjl
    rw [List.length_take, List.length_drop]
    omega
  · refine hc _ u ?_
    rw [List.getElem?_take] at hu
    split at hu
    · rw [List.getElem?_drop] at hu
      exact hu
    · cases hu
/-- A cut from the front, read. -/
theorem R_dropM {α : Type} {d : Kd α} {e : Nat} {w : World} {base : Nat} {ok : Nat → Prop} {xs : List α} {A : Option Addr} {n c : Nat} (h : d.R e w base ok (.slice A n c) xs) {k : Nat} (hk : k ≤ xs.length) :
    ReadsRow (d.M w base ok) d.sz w (if c = k then A else A.map (·.add (k * d.sz))) (xs.drop k).length (xs.drop k) := (Q_readsM (Kd.Q_drop (Kd.Q_of_R h) hk)).2.2
/-- A cut at the end, read. -/
theorem R_takeM {α : Type} {d : Kd α} {e : Nat} {w : World} {base : Nat} {ok : Nat → Prop} {xs : List α} {A : Option Addr} {n c : Nat} (h : d.R e w base ok (.slice A n c) xs) {k : Nat} (hk : k ≤ xs.length) :
    ReadsRow (d.M w base ok) d.sz w A (xs.take k).length (xs.take k) := (Q_readsM (Kd.Q_take (Kd.Q_of_R h) hk)).2.2
end Go.Proofs.Ytjpaaicgkdnalaa.Sep
