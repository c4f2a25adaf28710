/-
  Rows that may begin inside their block, as parts of memory that are written.
  Conditions: none; plain theorems.
-/
import Derived.Test.YtjpaaicgkdnalaaSepQ
import Derived.Test.YtjpaaicgkdnalaaPadParts
namespace Go.Proofs.Ytjpaaicgkdnalaa.Sep
open Go.RowKit Go.Proofs.YtjpaaicgkdnalaaW.PrintWords
set_option linter.unusedVariables false
/-- A row that may begin inside its block. -/
def RowQ {α : Type} (d : Kd α) (e : Nat) (v : Value) (xs : List α) : Part where
  P := fun w ok => d.Q e w 0 ok v xs
  mono := fun h hk => Kd.Q_mono (Kd.Q_bound h) (fun k hk' => hk k hk'.2.2.1 hk'.1)
  move := fun h hm => Kd.Q_step h (fun k ho hk => hm.block k hk (fun hn => hn ho))
section
variable {α : Type} {d : Kd α} {e : Nat} {v : Value} {xs : List α} {w : World} {F : List Part}
theorem Sp.rowQ (h : Sp w (RowQ d e v xs :: F)) : ∃ A c, v = .slice A xs.length c ∧ xs.length ≤ c ∧ d.C w A xs.length xs := (h.has).elim fun _ h => Kd.Q_reads h
theorem Sp.rowQ_form (h : Sp w (RowQ d e v xs :: F)) (hp : 0 < xs.length) : ∃ g o cap, v = .slice (some ⟨g, o, none⟩) xs.length cap := by
  obtain ⟨_, h⟩ := h.has
  obtain ⟨g, o, cap, hv, _⟩ := Kd.Q_form h hp
  exact ⟨g, o, cap, hv⟩
theorem Sp.nilQ (d : Kd α) (e : Nat) (h : Sp w F) : Sp w (RowQ d e (.slice none 0 0) [] :: F) :=
  ⟨fun _ => False, fun _ h => h.elim, Kd.Q_nil _ _ _ _ _, Sep.wide h (fun k hk => ⟨hk, fun e => e⟩)⟩
theorem Sp.takeQ {A : Option Addr} {m n c : Nat} (h : Sp w (RowQ d e (.slice A n c) xs :: F)) (hm : m ≤ xs.length) : Sp w (RowQ d e (.slice A m c) (xs.take m) :: F) :=
  h.as (fun _ h => Kd.Q_take h hm)
theorem Sp.dropQ {A : Option Addr} {k n c : Nat} (h : Sp w (RowQ d e (.slice A n c) xs :: F)) (hk : k ≤ xs.length) : Sp w (RowQ d e (.slice (if c = k then A else A.map (·.add (k * d.sz))) (n - k) (c - k)) (xs.drop k) :: F) :=
  h.as (fun _ h => Kd.Q_drop h hk)
end
section
variable {P : Program} {ops : Array Oper} {rest : List Oper} {o : Oper} {a : Act} {Q : Exit → Act → World → Prop} {Kc : Act → World → Prop} {α : Type}
theorem Sp.appendedQ {d : Kd α} {e : TypeId} {W w1 : World} {F : List Part} {v v1 : Value} {ys : List α} {ok1 ok2 : Nat → Prop} (h1 : ∀ k, ok1 k → k < W.heap.size) (h2 : ∀ k, ok2 k → k < W.heap.size)
    (h3 : Sep W (fun k => (k < W.heap.size ∧ ¬ ok1 k) ∧ ¬ ok2 k) F) (hv : ∀ k, v.ownBlock = some k → ok1 k) (hr : d.Q e w1 0 (fun k => ok1 k ∨ ok2 k ∨ W.heap.size ≤ k) v1 ys) (hg : W.grownBy w1 v.ownBlock) : Sp w1 (RowQ d e v1 ys :: F) := by
  refine ⟨fun k => (ok1 k ∨ ok2 k ∨ W.heap.size ≤ k) ∧ k < w1.heap.size, fun k hk => hk.2, Kd.Q_mono (Kd.Q_bound hr) (fun k hk => ⟨hk.1, hk.2.2.1⟩), ?_⟩
  refine (Sep.moved (Moved.of_grown hg (S := ok1) (fun i hi _ => hv i hi)) h3 (fun k _ hf => hf.1.2)).wide (fun k hk => ⟨Nat.lt_of_lt_of_le hk.1.1 hg.size, fun e => ?_⟩)
  rcases e.1 with e1 | e1 | e1
  · exact hk.1.2 e1
  · exact hk.2 e1
  · have := hk.1.1; omega
/-- append(v, x), in a region that draws. -/
theorem Sp.appendQ_step (d : Kd α) {W : World} {F : List Part} (hw : Region.wanted o (yielded ops a.tmps) = true) (s x : Operand) (t e : TypeId) (z : Value) (bytes : Nat)
    (ho : o.op = .call { callee := .builtin .append, args := #[s, x], argTypes := #[t, t] })
    (ht : P.underlying t = some (.slice e)) (hinfo : (P.info? e).map (fun i => (i.zero, i.size, i.bytes)) = some (some z, d.sz, bytes)) (hz : z.cells.size = d.sz) (hs0 : 0 < d.sz) (hb0 : 0 < bytes)
    (v : Value) (xs : List α) (p : α) (cs : List Value) (hs : a.eval s = v) (hx : a.eval x = .slice (some ⟨W.heap.size, 0, none⟩) 1 1)
    (hS : Sp W (RowQ d e v xs :: El d p cs :: F)) (hl : (xs.length + 1) * bytes ≤ 140737488355328)
    (h : ∀ v1 w1, Sp w1 (RowQ d e v1 (xs ++ [p]) :: F) → Kc (a.put o.dst v1) w1) :
    if Region.wanted o (yielded ops a.tmps) = true then Oper.wp P o a (W.alloc (.cells cs.toArray e)) Kc Q else Kc (a.put o.dst undef) (W.alloc (.cells cs.toArray e)) := by
  obtain ⟨ok1, h1, hr, ok2, h2, hp, h3⟩ := hS
  refine Kd.Q_append_step d (w0 := W) 0 hw s x t e z bytes ho ht hinfo hz hs0 hb0 v xs p cs (fun k => ok1 k ∨ ok2 k ∨ W.heap.size ≤ k) ok2 hs hx hp (fun k hk => ⟨.inr (.inl hk), fun e => (h2 k hk).2 (hr.1 k e.symm)⟩) (fun k hk => .inr (.inr hk)) (Kd.Q_mono hr (fun k hk => .inl hk)) (Below.refl _ _) (Nat.zero_le _) hl ?_
  intro v1 w1 hr1 _ hg _
  exact h v1 w1 (Sp.appendedQ h1 (fun k hk => (h2 k hk).1) h3 hr.1 hr1 hg)
end
end Go.Proofs.Ytjpaaicgkdnalaa.Sep
namespace Go.Proofs.Ytjpaaicgkdnalaa.Pads
open Go.RowKit Go.Proofs.YtjpaaicgkdnalaaW.PrintWords Go.Proofs.Ytjpaaicgkdnalaa.Sep
/-- A slot of such a row, its second cell written. -/
theorem spoilQ {w : World} {F : List Part} {e g o n cap : Nat} {xs : List Sl} (hS : Sp w (RowQ kSl e (.slice (some ⟨g, o, none⟩) n cap) xs :: F)) (i : Nat) (hi : i < n) :
    ∃ (A : Option Addr) (m cc : Nat), m = (xs.getD i ([], false)).1.length ∧ m ≤ cc ∧ Kd.C (Kd.int .u8) w A m (xs.getD i ([], false)).1 ∧ w.cell? ⟨g, o + i * 2, none⟩ = some (.slice A m cc) ∧ w.cell? ⟨g, o + i * 2 + 1, none⟩ = some (.bool (xs.getD i ([], false)).2) ∧
      w.frozen? ⟨g, o + i * 2 + 1, none⟩ = false ∧ Sp (w.setCell ⟨g, o + i * 2 + 1, none⟩ (.bool true)) (RowQ kSl e (.slice (some ⟨g, o, none⟩) n cap) (xs.set i ((xs.getD i ([], false)).1, true)) :: F) := by
  obtain ⟨ok, h1, h2, h3⟩ := hS.head1
  obtain ⟨c, hcl, hM, hcc, hf⟩ := Kd.Q_elem h2 ([], false) (i : Int) (by omega) (by omega)
  simp only [Int.toNat_natCast] at hM hcc hf
  have hK := kSl.K_of_M hM
  obtain ⟨c0, c1, rfl, ⟨A, cc, rfl, hle, hC⟩, rfl⟩ := hK
  have hM2 : kSl.M w 0 (fun k => ok k ∧ k ≠ g) ((xs.getD i ([], false)).1, true) [.slice A (xs.getD i ([], false)).1.length cc, .bool true] := by
    obtain ⟨d0, d1, he, hd0, hd1⟩ := hM
    exact ⟨d0, [.bool true], by
      obtain ⟨v, rfl, _⟩ := hd0
      simp only [List.cons_append, List.nil_append, List.cons.injEq] at he ⊢
      exact ⟨he.1, by first | trivial | rfl⟩, hd0, rfl⟩
  obtain ⟨hr, hg⟩ := Kd.Q_seg h2 (i : Int) (by omega) (by omega) (c := [.slice A (xs.getD i ([], false)).1.length cc, .bool (xs.getD i ([], false)).2]) (seg := [.bool true]) (j := 1) (x' := ((xs.getD i ([], false)).1, true)) (okp := fun k => ok k ∧ k ≠ g) rfl (fun j u hu => by simp only [Int.toNat_natCast]; exact hcc j u hu) (by show 1 + 1 ≤ 2; omega) hM2 (fun _ h => h)
  simp only [Int.toNat_natCast] at hr hg
  exact ⟨A, _, cc, rfl, hle, hC, hcc 0 _ rfl, hcc 1 _ rfl, hf 1, h3 _ _ (Moved.of_grown hg (fun j hj _ => by injection hj with hj; subst hj; exact h2.1 _ rfl)) (Kd.Q_mono hr (fun k hk => .inl hk))⟩
end Go.Proofs.Ytjpaaicgkdnalaa.Pads
