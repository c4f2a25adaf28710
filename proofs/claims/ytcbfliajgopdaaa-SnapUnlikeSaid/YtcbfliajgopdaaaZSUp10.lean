-- Put together by a program of this session (wip/slice2.py) out of the seat's texts.
import Derived.Test.YtcbfliajgopdaaaZSUp9
import Derived.SizedLaws
set_option maxHeartbeats 8000000
set_option maxRecDepth 100000
open Go.Proofs.YtcbfliajgopdaaaW Go.Proofs.Ytcbfliajgopdaaa
section
namespace Go.Proofs.Ytcbfliajgopdaaa.Opens
open Go.RowKit PrintWords PrintLast ZipT PrintWords.Kd PrintMore.Kd
set_option linter.unusedVariables false
set_option linter.unusedSimpArgs false
def OpensW {α : Type} (P : Program) (t : TypeId) (d : Kd α) (wf : α → Prop) : Prop :=
 ∀ {H : Type} {enc : TypeId × Value → H} {w : World} {base : Nat} {spare : Nat → Bool} {held : Bool} {fuel : Nat} {cs : List Value} {x : DataW H × List MemPlace},
  DataW.trod enc P w base spare held fuel t cs = some x → (∀ n ∈ x.1.weights P t, n ≤ reachBytes) → ∃ v : α, d.K w v cs ∧ wf v
theorem Opens.sized {α : Type} {P : Program} {t : TypeId} {d : Kd α} {wf : α → Prop} (h : Opens P t d wf) : OpensW P t d wf := fun h1 _ => h h1
theorem iT {H : Type} {P : Program} {e : TypeId} : ∀ {l : List (DataW H)} {d : DataW H} {n : Nat}, d ∈ l → n ∈ d.weights P e → n ∈ DataW.weightsAll P e l
 | x :: l, d, n, hd, hn => by
  simp only [DataW.weightsAll, List.mem_append]
  rcases List.mem_cons.1 hd with rfl | h
  ·
   exact Or.inl hn
  ·
   exact Or.inr (iT h hn)
theorem dI {H : Type} {P : Program} {t ft : TypeId} {fs : Array Field} {ds : List (DataW H)} {j : Nat} {d : DataW H} (ht : P.underlying t = some (.struct fs)) (hz : ∀ n ∈ (DataW.agg ds).weights P t, n ≤ reachBytes)
  (hj : (fs.toList.map (·.type))[j]? = some ft) (hd : ds[j]? = some d) : ∀ n ∈ d.weights P ft, n ≤ reachBytes := by
 intro n hn
 apply hz
 simp only [DataW.weights, ht]
 exact DataW.weights_mem_each hj hd n hn
theorem OpensW.slice {α : Type} {P : Program} {t e : TypeId} {d : Kd α} {wf : α → Prop} (B : Nat) (ht : P.underlying t = some (.slice e)) (hc : P.cellsOf e = d.sz) (hB : B ≤ P.bytesOf e) (he : OpensW P e d wf) :
  OpensW P t (Kd.slice e d) (fun l => l.length * B ≤ 140737488351232 ∧ ∀ x ∈ l, wf x) := by
 intro H enc w base spare held fuel cs x h hz
 rcases DataW.trod_slice ht h with ⟨hcs, _⟩ | ⟨a, len, cap, elems, rest, n, _, hcs, hx, _, hl, hm, hlen, hel, _, _⟩
 ·
  exact ⟨[], ⟨none, 0, hcs, Nat.le_refl _, by simp, by simp, fun h => by simp at h⟩, by simp, by simp⟩
 ·
  subst hx
  have key : ∀ i, i < len → ∃ v : α, (∃ c, c.length = d.sz ∧ d.K w v c ∧ ∀ j u, c[j]? = some u → w.cell? (a.add (i * d.sz + j)) = some u) ∧ wf v := by
   intro i hi
   have h1 := hel i hi
   rw [hc] at h1
   have h2 : ∃ y, elems[i]? = some y := ⟨elems[i]'z2_, List.getElem?_eq_getElem z2_⟩
   obtain ⟨y, hy⟩ := h2
   rw [hy] at h1
   obtain ⟨c, hcells, htrod⟩ := Option.bind_eq_some_iff.1 h1
   obtain ⟨v, hK, hwf⟩ := he htrod (fun n hn => hz n (by
    simp only [DataW.weights, ht]
    refine List.mem_cons_of_mem _ (List.mem_append.2 (Or.inl (iT (List.mem_map.2 ⟨y, List.mem_of_getElem? hy, rfl⟩) hn)))))
   obtain ⟨_, hcl, hcc⟩ := World.cells?_some hcells
   refine ⟨v, ⟨c, hcl, hK, fun j u hu => ?_⟩, hwf⟩
   have hj : j < d.sz := by have := (List.getElem?_eq_some_iff.1 hu).1; omega
   have := hcc j hj
   rw [← hu, ← this]
   rw [Addr.add_add]
  obtain ⟨vs, hvl, hvs⟩ := iU len key
  refine ⟨vs, ⟨some a, cap, by rw [hvl]; exact hcs, by omega, ?_⟩, ?_, ?_⟩
  ·
   refine ⟨rfl, ?_, fun _ => ⟨a, rfl, fun j p hp => (hvs j p hp).1⟩⟩
   have h1 : cap ≤ maxLen := hm
   unfold maxLen at h1
   omega
  ·
   have h1 := hz ((elems.length + rest.length) * P.bytesOf e) (by simp only [DataW.weights, ht, List.length_map]; exact List.mem_cons_self)
   have h2 : vs.length * B ≤ (elems.length + rest.length) * P.bytesOf e := Nat.mul_le_mul z2_ hB
   exact Nat.le_trans h2 h1
  ·
   intro x hx
   obtain ⟨i, hi⟩ := List.getElem?_of_mem hx
   exact (hvs i x hi).2
end Go.Proofs.Ytcbfliajgopdaaa.Opens
end
