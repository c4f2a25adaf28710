-- Put together by a program of this session (wip/slice2.py) out of the seat's texts.
import Derived.Test.YtcbfliajgopdaaaZSUp8
import Derived.ProofKit
import Derived.OpenShut
import Derived.ShutString
import Derived.ChangeOld
set_option maxHeartbeats 8000000
set_option maxRecDepth 100000
open Go.Proofs.YtcbfliajgopdaaaW Go.Proofs.Ytcbfliajgopdaaa
section
namespace Go.Proofs.Ytcbfliajgopdaaa.Opens
open Go.RowKit PrintWords PrintLast ZipT PrintWords.Kd PrintMore.Kd
set_option linter.unusedVariables false
set_option linter.unusedSimpArgs false
def Opens {α : Type} (P : Program) (t : TypeId) (d : Kd α) (wf : α → Prop) : Prop :=
 ∀ {H : Type} {enc : TypeId × Value → H} {w : World} {base : Nat} {spare : Nat → Bool} {held : Bool} {fuel : Nat} {cs : List Value} {x : DataW H × List MemPlace},
  DataW.trod enc P w base spare held fuel t cs = some x → ∃ v : α, d.K w v cs ∧ wf v
theorem Opens.int {P : Program} {t : TypeId} {k : IntKind} (ht : P.underlying t = some (.int k)) : Opens P t (Kd.int k) (fun n => (Lit.int k n).wf = true) := by
 intro H enc w base spare held fuel cs x h
 obtain ⟨n, rfl, _, hw⟩ := DataW.trod_int ht h
 exact ⟨n, rfl, hw⟩
theorem Opens.bool {P : Program} {t : TypeId} (ht : P.underlying t = some .bool) : Opens P t Kd.bool (fun _ => True) := by
 intro H enc w base spare held fuel cs x h
 obtain ⟨n, rfl, _⟩ := DataW.trod_bool ht h
 exact ⟨n, rfl, trivial⟩
theorem Opens.string {P : Program} {t : TypeId} (ht : P.underlying t = some .string) : Opens P t Kd.string (fun s => s.size ≤ maxLen) := by
 intro H enc w base spare held fuel cs x h
 obtain ⟨s, rfl, _, hs⟩ := DataW.trod_string ht h
 exact ⟨s, rfl, hs⟩
theorem iU {α : Type} {p : Nat → α → Prop} : ∀ (n : Nat), (∀ i, i < n → ∃ v, p i v) → ∃ vs : List α, vs.length = n ∧ ∀ i v, vs[i]? = some v → p i v
 | 0, _ => ⟨[], rfl, fun i v h => by simp at h⟩
 | n + 1, h => by
  obtain ⟨vs, hl, hv⟩ := iU n (fun i hi => h i z2_)
  obtain ⟨v, hp⟩ := h n z2_
  refine ⟨vs ++ [v], by simp [hl], fun i u hu => ?_⟩
  rcases Nat.lt_or_ge i n with hi | hi
  ·
   rw [List.getElem?_append_left z2_] at hu; exact hv i u hu
  ·
   have hi2 : i = n := by
    have := (List.getElem?_eq_some_iff.1 hu).1
    simp at this; omega
   subst hi2
   rw [← hl] at hu ⊢
   simp at hu
   subst hu
   rw [hl]; exact hp
theorem Opens.slice {α : Type} {P : Program} {t e : TypeId} {d : Kd α} {wf : α → Prop} (ht : P.underlying t = some (.slice e)) (hc : P.cellsOf e = d.sz) (he : Opens P e d wf) :
  Opens P t (Kd.slice e d) (fun l => l.length ≤ maxLen ∧ ∀ x ∈ l, wf x) := by
 intro H enc w base spare held fuel cs x h
 rcases DataW.trod_slice ht h with ⟨hcs, _⟩ | ⟨a, len, cap, elems, rest, n, _, hcs, _, _, hl, hm, hlen, hel, _, _⟩
 ·
  exact ⟨[], ⟨none, 0, hcs, Nat.le_refl _, by simp, by simp, fun h => by simp at h⟩, by simp, by simp⟩
 ·
  have key : ∀ i, i < len → ∃ v : α, (∃ c, c.length = d.sz ∧ d.K w v c ∧ ∀ j u, c[j]? = some u → w.cell? (a.add (i * d.sz + j)) = some u) ∧ wf v := by
   intro i hi
   have h1 := hel i hi
   rw [hc] at h1
   have h2 : ∃ y, elems[i]? = some y := ⟨elems[i]'z2_, List.getElem?_eq_getElem z2_⟩
   obtain ⟨y, hy⟩ := h2
   rw [hy] at h1
   obtain ⟨c, hcells, htrod⟩ := Option.bind_eq_some_iff.1 h1
   obtain ⟨v, hK, hwf⟩ := he htrod
   obtain ⟨_, hcl, hcc⟩ := World.cells?_some hcells
   refine ⟨v, ⟨c, hcl, hK, fun j u hu => ?_⟩, hwf⟩
   have hj : j < d.sz := by have := (List.getElem?_eq_some_iff.1 hu).1; omega
   have := hcc j hj
   rw [← hu, ← this]
   rw [Addr.add_add]
  obtain ⟨vs, hvl, hvs⟩ := iU len key
  refine ⟨vs, ⟨some a, cap, by rw [hvl]; exact hcs, by omega, ?_⟩, by omega, ?_⟩
  ·
   refine ⟨rfl, ?_, fun _ => ⟨a, rfl, fun j p hp => (hvs j p hp).1⟩⟩
   have h1 : cap ≤ maxLen := hm
   unfold maxLen at h1
   omega
  ·
   intro x hx
   obtain ⟨i, hi⟩ := List.getElem?_of_mem hx
   exact (hvs i x hi).2
theorem dZ {α β : Type} {a : Kd α} {b : Kd β} {w : World} {x : α} {y : β} {cs : List Value} (n : Nat) (h0 : a.K w x (cs.take n)) (h1 : b.K w y (cs.drop n)) : (Kd.pair a b).K w (x, y) cs :=
 ⟨cs.take n, cs.drop n, (List.take_append_drop n cs).symm, h0, h1⟩
end Go.Proofs.Ytcbfliajgopdaaa.Opens
end
