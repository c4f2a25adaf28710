-- Put together by a program of this session (wip/slice2.py) out of the seat's texts.
import Derived.Test.YtjnjfogfpmeacaaZOKp5

set_option maxHeartbeats 8000000
set_option maxRecDepth 100000
open Go.Proofs.YtjnjfogfpmeacaaW Go.Proofs.Ytjnjfogfpmeacaa
section
namespace Go.Proofs.Ytjnjfogfpmeacaa.Sep
open Go.RowKit PrintWords ZipT PrintWords.Kd PrintMore.Kd
set_option linter.unusedVariables false
structure Moved (w w' : World) (S : Nat → Prop) : Prop where
 os : w'.os = w.os
 tape : w'.tape = w.tape
 output : w'.output = w.output
 size : w.heap.size ≤ w'.heap.size
 block : ∀ k, k < w.heap.size → ¬ S k → w'.heap[k]? = w.heap[k]?
theorem Moved.refl (w : World) (S : Nat → Prop) : Moved w w S := ⟨rfl, rfl, rfl, Nat.le_refl _, fun _ _ _ => rfl⟩
theorem Moved.trans {w w1 w2 : World} {S S1 : Nat → Prop} (h : Moved w w1 S) (k : Moved w1 w2 S1) (hs : ∀ i, i < w.heap.size → S1 i → S i) : Moved w w2 S :=
 ⟨k.os.trans h.os, k.tape.trans h.tape, k.output.trans h.output, Nat.le_trans h.size k.size, fun i hi hn =>
  (k.block i (Nat.lt_of_lt_of_le hi h.size) (fun e => hn (hs i hi e))).trans (h.block i hi hn)⟩
theorem Moved.wider {w w' : World} {S S' : Nat → Prop} (h : Moved w w' S) (hs : ∀ i, i < w.heap.size → S i → S' i) : Moved w w' S' :=
 ⟨h.os, h.tape, h.output, h.size, fun i hi hn => h.block i hi (fun e => hn (hs i hi e))⟩
theorem Moved.of_below {w w' : World} (h : Below w.heap.size w w') (S : Nat → Prop) : Moved w w' S := ⟨h.os, h.tape, h.output, h.size, fun i hi _ => h.block i hi⟩
theorem Moved.of_grown {w w' : World} {row : Option Nat} (h : w.grownBy w' row) {S : Nat → Prop} (hr : ∀ i, row = some i → i < w.heap.size → S i) : Moved w w' S :=
 ⟨h.os, h.tape, h.output, h.size, fun i hi hn => h.block i hi (fun e => hn (hr i e.symm hi))⟩
theorem Moved.set {w w1 : World} {S : Nat → Prop} (h : Moved w w1 S) {p : Addr} (hp : p.block < w.heap.size → S p.block) (u : Value) : Moved w (w1.setCell p u) S :=
 h.trans (S1 := fun i => i = p.block) ⟨rfl, rfl, rfl, by simp [World.setCell], fun i _ hn => Below.heap_setCell w1 p u i hn⟩ (fun i hi e => by subst e; exact hp hi)
theorem Moved.alloc {w w1 : World} {S : Nat → Prop} (h : Moved w w1 S) (o : Obj) : Moved w (w1.alloc o) S :=
 h.trans (S1 := fun _ => False) (Moved.of_below (below_alloc (Below.refl _ _) o) _) (fun _ _ e => e.elim)
theorem Moved.drewN {w w1 : World} {S : Nat → Prop} (h : Moved w w1 S) (n : Nat) : Moved w (w1.drewN n) S := ⟨h.os, h.tape, h.output, h.size, h.block⟩
theorem Moved.drew {w w1 : World} {S : Nat → Prop} (h : Moved w w1 S) : Moved w w1.drew S := ⟨h.os, h.tape, h.output, h.size, h.block⟩
theorem Moved.below {w w1 w2 : World} {S : Nat → Prop} (h : Moved w w1 S) (k : Below w1.heap.size w1 w2) : Moved w w2 S :=
 h.trans (S1 := fun _ => False) (Moved.of_below k _) (fun _ _ e => e.elim)
theorem Moved.blk {w w' : World} {S : Nat → Prop} (h : Moved w w' S) {g : Nat} {o : Obj} (hg : w.heap[g]? = some o) (hn : ¬ S g) : w'.heap[g]? = some o :=
 (h.block g (Array.getElem?_eq_some_iff.1 hg).1 hn).trans hg
structure Part where
 P : World → (Nat → Prop) → Prop
 mono : ∀ {w ok ok'}, P w ok → (∀ k, k < w.heap.size → ok k → ok' k) → P w ok'
 move : ∀ {w w' ok}, P w ok → Moved w w' (fun k => ¬ ok k) → P w' ok
theorem Part.moved (p : Part) {w w' : World} {ok S : Nat → Prop} (h : p.P w ok) (hm : Moved w w' S) (hd : ∀ k, k < w.heap.size → ok k → ¬ S k) : p.P w' ok :=
 p.move h (hm.wider (fun i hi hs e => hd i hi e hs))
def Sep (w : World) : (Nat → Prop) → List Part → Prop
 | _, [] => True
 | fr, p :: ps => ∃ ok : Nat → Prop, (∀ k, ok k → fr k) ∧ p.P w ok ∧ Sep w (fun k => fr k ∧ ¬ ok k) ps
def Sp (w : World) (ps : List Part) : Prop := Sep w (fun k => k < w.heap.size) ps
theorem Sep.wide {w : World} : ∀ {ps : List Part} {fr fr' : Nat → Prop}, Sep w fr ps → (∀ k, fr k → fr' k) → Sep w fr' ps
 | [], _, _, _, _ => trivial
 | p :: ps, fr, fr', ⟨ok, h1, h2, h3⟩, h => ⟨ok, fun k hk => h k (h1 k hk), h2, Sep.wide h3 (fun k hk => ⟨h k hk.1, hk.2⟩)⟩
theorem Sep.moved {w w' : World} {S : Nat → Prop} (hm : Moved w w' S) : ∀ {ps : List Part} {fr : Nat → Prop}, Sep w fr ps → (∀ k, k < w.heap.size → fr k → ¬ S k) → Sep w' fr ps
 | [], _, _, _ => trivial
 | p :: ps, fr, ⟨ok, h1, h2, h3⟩, h => ⟨ok, h1, p.moved h2 hm (fun k hk hok => h k hk (h1 k hok)), Sep.moved hm h3 (fun k hk hf => h k hk hf.1)⟩
theorem Sep.swap {w : World} {fr : Nat → Prop} {a b : Part} {ps : List Part} : Sep w fr (a :: b :: ps) → Sep w fr (b :: a :: ps) := by
 rintro ⟨ok, h1, h2, ok', h1', h2', h3⟩
 exact ⟨ok', fun k hk => (h1' k hk).1, h2', ok, fun k hk => ⟨h1 k hk, fun hk' => (h1' k hk').2 hk⟩, h2, h3.wide (fun k hk => ⟨⟨hk.1.1, hk.2⟩, hk.1.2⟩)⟩
theorem Sep.cons {w : World} {fr : Nat → Prop} {a : Part} {ps qs : List Part} (f : ∀ fr, Sep w fr ps → Sep w fr qs) : Sep w fr (a :: ps) → Sep w fr (a :: qs) := by
 rintro ⟨ok, h1, h2, h3⟩
 exact ⟨ok, h1, h2, f _ h3⟩
theorem Sep.tail {w : World} {fr : Nat → Prop} {a : Part} {ps : List Part} : Sep w fr (a :: ps) → Sep w fr ps := by
 rintro ⟨ok, h1, h2, h3⟩
 exact h3.wide (fun k hk => hk.1)
theorem Sep.app {w : World} : ∀ {ps qs : List Part} {fr1 fr2 fr : Nat → Prop}, Sep w fr1 ps → Sep w fr2 qs → (∀ k, fr1 k → fr k) → (∀ k, fr2 k → fr k) → (∀ k, fr1 k → ¬ fr2 k) → Sep w fr (ps ++ qs)
 | [], qs, fr1, fr2, fr, _, h, _, h2, _ => h.wide h2
 | p :: ps, qs, fr1, fr2, fr, ⟨ok, h1, h2, h3⟩, h, a, b, d =>
  ⟨ok, fun k hk => a k (h1 k hk), h2, Sep.app h3 h (fun k hk => ⟨a k hk.1, hk.2⟩) (fun k hk => ⟨b k hk, fun hok => d k (h1 k hok) hk⟩) (fun k hk => d k hk.1)⟩
theorem Sep.shrink {w : World} : ∀ {ps : List Part} {fr fr' : Nat → Prop}, Sep w fr ps → (∀ k, k < w.heap.size → fr k → fr' k) → Sep w fr' ps
 | [], _, _, _, _ => trivial
 | p :: ps, fr, fr', ⟨ok, h1, h2, h3⟩, h => ⟨fun k => ok k ∧ k < w.heap.size, fun k hk => h k hk.2 (h1 k hk.1), p.mono h2 (fun k hk hok => ⟨hok, hk⟩), Sep.shrink h3 (fun k hk hf => ⟨h k hk hf.1, fun e => hf.2 e.1⟩)⟩
theorem Sep.split {w : World} : ∀ {ps qs : List Part} {fr : Nat → Prop}, Sep w fr (ps ++ qs) → ∃ ok : Nat → Prop, (∀ k, ok k → fr k) ∧ Sep w ok ps ∧ Sep w (fun k => fr k ∧ ¬ ok k) qs
 | [], qs, fr, h => ⟨fun _ => False, fun _ h => h.elim, trivial, h.wide (fun k hk => ⟨hk, fun e => e⟩)⟩
 | p :: ps, qs, fr, ⟨ok, h1, h2, h3⟩ => by
  obtain ⟨ok', h1', h2', h3'⟩ := Sep.split (ps := ps) h3
  refine ⟨fun k => ok k ∨ ok' k, fun k hk => hk.elim (h1 k) (fun h => (h1' k h).1), ⟨ok, fun k hk => .inl hk, h2, h2'.wide (fun k hk => ⟨.inr hk, (h1' k hk).2⟩)⟩, h3'.wide (fun k hk => ⟨hk.1.1, fun e => e.elim hk.1.2 hk.2⟩)⟩
def Part.all (ps : List Part) : Part where
 P := fun w ok => Sep w ok ps
 mono := fun h hk => h.shrink hk
 move := fun h hm => Sep.moved hm h (fun k _ hk e => e hk)
def Part.ex {α : Type} (f : α → Part) : Part where
 P := fun w ok => ∃ x, (f x).P w ok
 mono := fun ⟨x, h⟩ hk => ⟨x, (f x).mono h hk⟩
 move := fun ⟨x, h⟩ hm => ⟨x, (f x).move h hm⟩
def Part.pure (p : Prop) : Part where
 P := fun _ _ => p
 mono := fun h _ => h
 move := fun h _ => h
section
variable {w w' : World} {a b c d e f : Part} {F G : List Part}
theorem Sp.nil (w : World) : Sp w [] := trivial
theorem Sp.tail (h : Sp w (a :: F)) : Sp w F := Sep.tail h
theorem Sp.s1 (h : Sp w (a :: b :: F)) : Sp w (b :: a :: F) := Sep.swap h
theorem Sp.s2 (h : Sp w (a :: b :: c :: F)) : Sp w (c :: a :: b :: F) := Sp.s1 (Sep.cons (fun _ => Sep.swap) h)
theorem Sp.s3 (h : Sp w (a :: b :: c :: d :: F)) : Sp w (d :: a :: b :: c :: F) := Sp.s1 (Sep.cons (fun _ h => Sep.swap (Sep.cons (fun _ => Sep.swap) h)) h)
theorem Sp.s4 (h : Sp w (a :: b :: c :: d :: e :: F)) : Sp w (e :: a :: b :: c :: d :: F) := Sp.s1 (Sep.cons (fun _ h => Sep.swap (Sep.cons (fun _ h => Sep.swap (Sep.cons (fun _ => Sep.swap) h)) h)) h)
theorem Sp.s5 (h : Sp w (a :: b :: c :: d :: e :: f :: F)) : Sp w (f :: a :: b :: c :: d :: e :: F) := Sp.s1 (Sep.cons (fun _ h => Sep.swap (Sep.cons (fun _ h => Sep.swap (Sep.cons (fun _ h => Sep.swap (Sep.cons (fun _ => Sep.swap) h)) h)) h)) h)
theorem Sp.below (h : Sp w F) (hb : Below w.heap.size w w') : Sp w' F :=
 (Sep.moved (Moved.of_below hb (fun _ => False)) h (fun _ _ _ e => e)).wide (fun _ hk => Nat.lt_of_lt_of_le hk hb.size)
theorem Sp.alloc (h : Sp w F) (o : Obj) : Sp (w.alloc o) F := h.below (below_alloc (Below.refl _ _) o)
theorem Sp.drewN (h : Sp w F) (n : Nat) : Sp (w.drewN n) F := h.below (pw_below_drewN (Below.refl _ _) n)
theorem Sp.drew (h : Sp w F) : Sp w.drew F := h.below (below_drew (Below.refl _ _))
theorem Sp.new (h : Sp w F) (hb : Below w.heap.size w w') (ha : a.P w' (fun k => w.heap.size ≤ k ∧ k < w'.heap.size)) : Sp w' (a :: F) :=
 ⟨fun k => w.heap.size ≤ k ∧ k < w'.heap.size, fun k hk => hk.2, ha, (Sep.moved (Moved.of_below hb (fun _ => False)) h (fun _ _ _ e => e)).wide (fun k hk => ⟨Nat.lt_of_lt_of_le hk hb.size, fun e => by omega⟩)⟩
theorem Sp.head (h : Sp w (a :: F)) : ∃ ok : Nat → Prop, (∀ k, ok k → k < w.heap.size) ∧ a.P w ok ∧
  ∀ w' qs, Moved w w' ok → Sep w' (fun k => ok k ∨ w.heap.size ≤ k ∧ k < w'.heap.size) qs → Sp w' (qs ++ F) := by
 obtain ⟨ok, h1, h2, h3⟩ := h
 refine ⟨ok, h1, h2, fun w' qs hm hq => ?_⟩
 refine Sep.app hq (Sep.moved hm h3 (fun k hk hf => hf.2)) (fun k hk => ?_) (fun k hk => Nat.lt_of_lt_of_le hk.1 hm.size) (fun k hk hf => ?_)
 ·
  rcases hk with hk | hk
  ·
   exact Nat.lt_of_lt_of_le (h1 k hk) hm.size
  ·
   exact hk.2
 ·
  rcases hk with hk | hk
  ·
   exact hf.2 hk
  ·
   omega
theorem Sp.head1 (h : Sp w (a :: F)) : ∃ ok : Nat → Prop, (∀ k, ok k → k < w.heap.size) ∧ a.P w ok ∧
  ∀ w' (q : Part), Moved w w' ok → q.P w' (fun k => ok k ∨ w.heap.size ≤ k ∧ k < w'.heap.size) → Sp w' (q :: F) := by
 obtain ⟨ok, h1, h2, h3⟩ := h.head
 exact ⟨ok, h1, h2, fun w' q hm hq => h3 w' [q] hm ⟨_, fun _ hk => hk, hq, trivial⟩⟩
theorem Sp.ofEx {α : Type} {f : α → Part} (h : Sp w (Part.ex f :: F)) : ∃ x, Sp w (f x :: F) := by
 obtain ⟨ok, h1, ⟨x, h2⟩, h3⟩ := h
 exact ⟨x, ok, h1, h2, h3⟩
theorem Sp.toEx {α : Type} {f : α → Part} (x : α) (h : Sp w (f x :: F)) : Sp w (Part.ex f :: F) := by
 obtain ⟨ok, h1, h2, h3⟩ := h
 exact ⟨ok, h1, ⟨x, h2⟩, h3⟩
theorem Sp.ofAll {ps : List Part} (h : Sp w (Part.all ps :: F)) : Sp w (ps ++ F) := by
 obtain ⟨ok, h1, h2, h3⟩ := h
 exact Sep.app h2 h3 h1 (fun k hk => hk.1) (fun k hk hf => hf.2 hk)
theorem Sp.toAll {ps : List Part} (h : Sp w (ps ++ F)) : Sp w (Part.all ps :: F) := by
 obtain ⟨ok, h1, h2, h3⟩ := Sep.split h
 exact ⟨ok, h1, h2, h3⟩
theorem Sp.has (h : Sp w (a :: F)) : ∃ ok, a.P w ok := by
 obtain ⟨ok, _, h2, _⟩ := h
 exact ⟨ok, h2⟩
end
def Old (w0 : World) : Part where
 P := fun w ok => (∀ k, k < w0.heap.size → ok k) ∧ Below w0.heap.size w0 w
 mono := fun h hk => ⟨fun k hk0 => hk k (Nat.lt_of_lt_of_le hk0 h.2.size) (h.1 k hk0), h.2⟩
 move := fun h hm => ⟨h.1, h.2.trans ⟨hm.os, hm.tape, hm.output, hm.size, fun k hk => hm.block k (Nat.lt_of_lt_of_le hk h.2.size) (fun e => e (h.1 k hk))⟩⟩
theorem Sp.start (w : World) : Sp w [Old w] := ⟨fun k => k < w.heap.size, fun _ h => h, ⟨fun _ h => h, Below.refl _ _⟩, trivial⟩
theorem Sp.old {w w0 : World} {F : List Part} (h : Sp w (Old w0 :: F)) : Below w0.heap.size w0 w := (h.has).elim fun _ h => h.2
def Row {α : Type} (d : Kd α) (e : Nat) (v : Value) (xs : List α) : Part where
 P := fun w ok => d.R e w 0 ok v xs
 mono := fun h hk => R_mono (R_bound h) (fun k hk' => hk k hk'.2.2.1 hk'.1)
 move := fun h hm => R_step h (fun k ho hk => hm.block k hk (fun hn => hn ho))
theorem Sp.row {α : Type} {d : Kd α} {e : Nat} {v : Value} {xs : List α} {w : World} {F : List Part} (h : Sp w (Row d e v xs :: F)) : ∃ A c, v = .slice A xs.length c ∧ xs.length ≤ c ∧ d.C w A xs.length xs := (h.has).elim fun _ h => R_reads h
theorem Sp.made {α : Type} {d : Kd α} {e : Nat} {v : Value} {xs : List α} {w w' : World} {F : List Part} {ok : Nat → Prop} (h : Sp w F) (hb : Below w.heap.size w w') (hr : d.R e w' w.heap.size ok v xs) : Sp w' (Row d e v xs :: F) :=
 h.new (a := Row d e v xs) hb (R_lower (R_mono (R_bound hr) (fun k hk => ⟨hk.2.1, hk.2.2.1⟩)) (Nat.zero_le _))
def Blk (g : Nat) (o : Obj) : Part where
 P := fun w ok => ok g ∧ w.heap[g]? = some o
 mono := fun h hk => ⟨hk g (Array.getElem?_eq_some_iff.1 h.2).1 h.1, h.2⟩
 move := fun h hm => ⟨h.1, hm.blk h.2 (fun hn => hn h.1)⟩
theorem Sp.blk {g : Nat} {o : Obj} {w : World} {F : List Part} (h : Sp w (Blk g o :: F)) : w.heap[g]? = some o := (h.has).elim fun _ h => h.2
theorem Sp.box {w : World} {F : List Part} (h : Sp w F) (o : Obj) : Sp (w.alloc o) (Blk w.heap.size o :: F) :=
 h.new (a := Blk w.heap.size o) (below_alloc (Below.refl _ _) o) ⟨⟨Nat.le_refl _, by simp⟩, blk_new w o⟩
theorem setCell_blk {w : World} {g j : Nat} {cs : Array Value} {t : TypeId} {fz : Nat × Nat} (h : w.heap[g]? = some (.cells cs t fz)) (u : Value) : (w.setCell ⟨g, j, none⟩ u).heap[g]? = some (.cells (cs.setIfInBounds j u) t fz) := by
 simp only [World.setCell, Array.getElem?_modify, if_true, h, Option.map_some]
 rfl
theorem Sp.store {g : Nat} {cs : Array Value} {t : TypeId} {fz : Nat × Nat} {w : World} {F : List Part} (h : Sp w (Blk g (.cells cs t fz) :: F)) (j : Nat) (u : Value) : Sp (w.setCell ⟨g, j, none⟩ u) (Blk g (.cells (cs.setIfInBounds j u) t fz) :: F) := by
 obtain ⟨ok, h1, h2, h3⟩ := h.head1
 exact h3 _ _ ((Moved.refl w ok).set (fun _ => h2.1) u) ⟨.inl h2.1, setCell_blk h2.2 u⟩
def El {α : Type} (d : Kd α) (p : α) (cs : List Value) : Part where
 P := fun w ok => d.M w 0 ok p cs
 mono := fun h hk => d.M_mono (fun k hk' => hk k hk'.2.2.1 hk'.1) (d.M_bound h)
 move := fun h hm => Kd.M_step h (fun k ho hk => hm.block k hk (fun hn => hn ho))
section
variable {P : Program} {ops : Array Oper} {rest : List Oper} {o : Oper} {a : Act} {Q : Exit → Act → World → Prop} {α : Type}
theorem Sp.appended {d : Kd α} {e : TypeId} {W w1 : World} {F : List Part} {v v1 : Value} {ys : List α} {ok1 ok2 : Nat → Prop} (h1 : ∀ k, ok1 k → k < W.heap.size) (h2 : ∀ k, ok2 k → k < W.heap.size)
  (h3 : Sep W (fun k => (k < W.heap.size ∧ ¬ ok1 k) ∧ ¬ ok2 k) F) (hv : ∀ k, v.ownBlock = some k → ok1 k) (hr : d.R e w1 0 (fun k => ok1 k ∨ ok2 k ∨ W.heap.size ≤ k) v1 ys) (hg : W.grownBy w1 v.ownBlock) : Sp w1 (Row d e v1 ys :: F) := by
 refine ⟨fun k => (ok1 k ∨ ok2 k ∨ W.heap.size ≤ k) ∧ k < w1.heap.size, fun k hk => hk.2, R_mono (R_bound hr) (fun k hk => ⟨hk.1, hk.2.2.1⟩), ?_⟩
 refine (Sep.moved (Moved.of_grown hg (S := ok1) (fun i hi _ => hv i hi)) h3 (fun k _ hf => hf.1.2)).wide (fun k hk => ⟨Nat.lt_of_lt_of_le hk.1.1 hg.size, fun e => ?_⟩)
 rcases e.1 with e | e | e
 ·
  exact hk.1.2 e
 ·
  exact hk.2 e
 ·
  have := hk.1.1; omega
theorem Sp.append (d : Kd α) {W : World} {F : List Part} (hgd : o.guard = none) (s x : Operand) (t e : TypeId) (z : Value) (bytes : Nat)
  (ho : o.op = .call { callee := .builtin .append, args := #[s, x], argTypes := #[t, t] })
  (ht : P.underlying t = some (.slice e)) (hinfo : (P.info? e).map (fun i => (i.zero, i.size, i.bytes)) = some (some z, d.sz, bytes)) (hz : z.cells.size = d.sz) (hs0 : 0 < d.sz) (hb0 : 0 < bytes)
  (v : Value) (xs : List α) (p : α) (cs : List Value) (hs : a.eval s = v) (hx : a.eval x = .slice (some ⟨W.heap.size, 0, none⟩) 1 1)
  (hS : Sp W (Row d e v xs :: El d p cs :: F)) (hl : (xs.length + 1) * bytes ≤ 140737488355328)
  (h : ∀ v1 w1, Sp w1 (Row d e v1 (xs ++ [p]) :: F) → wpList P ops Q rest (a.put o.dst v1) w1) :
  wpList P ops Q (o :: rest) a (W.alloc (.cells cs.toArray e)) := by
 obtain ⟨ok1, h1, hr, ok2, h2, hp, h3⟩ := hS
 refine R_append d (w0 := W) 0 hgd s x t e z bytes ho ht hinfo hz hs0 hb0 v xs p cs (fun k => ok1 k ∨ ok2 k ∨ W.heap.size ≤ k) ok2 hs hx hp (fun k hk => ⟨.inr (.inl hk), fun e => (h2 k hk).2 (hr.1 k e.symm)⟩) (fun k hk => .inr (.inr hk)) (R_mono hr (fun k hk => .inl hk)) (Below.refl _ _) (Nat.zero_le _) hl ?_
 intro v1 w1 hr1 _ hg _
 exact h v1 w1 (Sp.appended h1 (fun k hk => (h2 k hk).1) h3 hr.1 hr1 hg)
theorem Sp.appendRow (d : Kd α) {W : World} {F : List Part} (hgd : o.guard = none) (s x : Operand) (t e : TypeId) (z : Value) (bytes : Nat)
  (ho : o.op = .call { callee := .builtin .append, args := #[s, x], argTypes := #[t, t] })
  (ht : P.underlying t = some (.slice e)) (hinfo : (P.info? e).map (fun i => (i.zero, i.size, i.bytes)) = some (some z, d.sz, bytes)) (hz : z.cells.size = d.sz) (hs0 : 0 < d.sz) (hb0 : 0 < bytes)
  (v : Value) (xs ys : List α) (A : Option Addr) (m c : Nat) (hs : a.eval s = v) (hx : a.eval x = .slice A m c)
  (hKM : ∀ x cs, d.K W x cs → d.M W 0 (fun _ => False) x cs) (hS : Sp W (Row d e v xs :: F)) (hR : d.C W A m ys) (hl : (xs.length + m) * bytes ≤ 140737488355328)
  (h : ∀ v1 w1, Sp w1 (Row d e v1 (xs ++ ys) :: F) → wpList P ops Q rest (a.put o.dst v1) w1) :
  wpList P ops Q (o :: rest) a W := by
 obtain ⟨ok1, h1, hr, h3⟩ := hS
 refine R_append_rows d (w0 := W) 0 hgd s x t e z bytes ho ht hinfo hz hs0 hb0 v xs ys A m c (fun k => ok1 k ∨ False ∨ W.heap.size ≤ k) (fun _ => False) hs hx (R_mono hr (fun k hk => .inl hk)) hR hKM (fun _ h => h.elim) (fun k hk => .inr (.inr hk)) (Below.refl _ _) (Nat.zero_le _) hl ?_
 intro v1 w1 hr1 _ hg _
 exact h v1 w1 (Sp.appended (ok2 := fun _ => False) h1 (fun k hk => hk.elim) (h3.wide (fun k hk => ⟨hk, fun e => e⟩)) hr.1 hr1 hg)
end
theorem Sp.elem {α : Type} {d : Kd α} {e g n cap : Nat} {w : World} {xs : List α} {F : List Part} (hS : Sp w (Row d e (.slice (some ⟨g, 0, none⟩) n cap) xs :: F)) (z : α) (i : Nat) (hi : i < n) :
  ∃ c, c.length = d.sz ∧ (∀ j u, c[j]? = some u → w.cell? ⟨g, i * d.sz + j, none⟩ = some u) ∧ (∀ j, w.frozen? ⟨g, i * d.sz + j, none⟩ = false) ∧ d.K w (xs.getD i z) c := by
 obtain ⟨ok, h2⟩ := hS.has
 obtain ⟨c, hcl, hM, hcc, hf⟩ := R_elem h2 z (i : Int) z3_ z3_
 simp only [Int.toNat_natCast] at hM hcc hf
 exact ⟨c, hcl, hcc, hf, d.K_of_M hM⟩
section
variable {P : Program} {ops : Array Oper} {o : Oper} {a : Act} {Q : Exit → Act → World → Prop} {Kc : Act → World → Prop} {α : Type}
theorem Sp.append_step (d : Kd α) {W : World} {F : List Part} (hw : Region.wanted o (yielded ops a.tmps) = true) (s x : Operand) (t e : TypeId) (z : Value) (bytes : Nat)
  (ho : o.op = .call { callee := .builtin .append, args := #[s, x], argTypes := #[t, t] })
  (ht : P.underlying t = some (.slice e)) (hinfo : (P.info? e).map (fun i => (i.zero, i.size, i.bytes)) = some (some z, d.sz, bytes)) (hz : z.cells.size = d.sz) (hs0 : 0 < d.sz) (hb0 : 0 < bytes)
  (v : Value) (xs : List α) (p : α) (cs : List Value) (hs : a.eval s = v) (hx : a.eval x = .slice (some ⟨W.heap.size, 0, none⟩) 1 1)
  (hS : Sp W (Row d e v xs :: El d p cs :: F)) (hl : (xs.length + 1) * bytes ≤ 140737488355328)
  (h : ∀ v1 w1, Sp w1 (Row d e v1 (xs ++ [p]) :: F) → Kc (a.put o.dst v1) w1) :
  if Region.wanted o (yielded ops a.tmps) = true then Oper.wp P o a (W.alloc (.cells cs.toArray e)) Kc Q else Kc (a.put o.dst undef) (W.alloc (.cells cs.toArray e)) := by
 obtain ⟨ok1, h1, hr, ok2, h2, hp, h3⟩ := hS
 refine R_append_step d (w0 := W) 0 hw s x t e z bytes ho ht hinfo hz hs0 hb0 v xs p cs (fun k => ok1 k ∨ ok2 k ∨ W.heap.size ≤ k) ok2 hs hx hp (fun k hk => ⟨.inr (.inl hk), fun e => (h2 k hk).2 (hr.1 k e.symm)⟩) (fun k hk => .inr (.inr hk)) (R_mono hr (fun k hk => .inl hk)) (Below.refl _ _) (Nat.zero_le _) hl ?_
 intro v1 w1 hr1 _ hg _
 exact h v1 w1 (Sp.appended h1 (fun k hk => (h2 k hk).1) h3 hr.1 hr1 hg)
end
theorem Sp.as {w : World} {a b : Part} {F : List Part} (h : Sp w (a :: F)) (hab : ∀ ok, a.P w ok → b.P w ok) : Sp w (b :: F) := by
 obtain ⟨ok, h1, h2, h3⟩ := h
 exact ⟨ok, h1, hab ok h2, h3⟩
end Go.Proofs.Ytjnjfogfpmeacaa.Sep
end
section
namespace Go.Proofs.Ytjnjfogfpmeacaa.Ops
open Go.RowKit PAll Plain PrintWords PrintLast PrintMore Go.Proofs.Ytjnjfogfpmeacaa.Sep ZipT PrintWords.Kd PrintMore.Kd
set_option linter.unusedVariables false
set_option linter.unusedSimpArgs false
def WrP (g : Nat) (s : Wr) : Part := Part.ex fun v : Value => Part.all [Blk g (.cells #[v, .bool s.2] 72 (0, 0)), Row (Kd.int .u8) 5 v s.1]
section
variable {w : World} {g : Nat} {s : Wr} {F : List Part}
theorem WrP.open (h : Sp w (WrP g s :: F)) : ∃ v, Sp w (Blk g (.cells #[v, .bool s.2] 72 (0, 0)) :: Row (Kd.int .u8) 5 v s.1 :: F) := by
 obtain ⟨v, h⟩ := h.ofEx
 exact ⟨v, h.ofAll⟩
theorem WrP.shut {v : Value} {bs : List Int} {bad : Bool} (h : Sp w (Blk g (.cells #[v, .bool bad] 72 (0, 0)) :: Row (Kd.int .u8) 5 v bs :: F)) : Sp w (WrP g (bs, bad) :: F) :=
 Sp.toEx (f := fun v : Value => Part.all [Blk g (.cells #[v, .bool bad] 72 (0, 0)), Row (Kd.int .u8) 5 v bs]) v (Sp.toAll (ps := [_, _]) h)
theorem sPut_len (n size : Int) : (sPut [] n size).1.length ≤ 7 := by
 unfold sPut
 split
 ·
  rename_i h; simp [big_length]; omega
 ·
  simp
theorem wNum_len (n size : Int) (s : Wr) : (wNum n size s).1.length ≤ s.1.length + 7 := by
 have := sPut_len n size
 unfold wNum wAdd; simp only [List.length_append]; omega
theorem wadd_calls (bs : List Int) (bad : Bool) (A : Option Addr) (c : Nat) (b : List Int) (e : Int) (hS : Sp w (WrP g (bs, bad) :: Row (Kd.int .u8) 5 (.slice A b.length c) b :: F)) (hl : bs.length + b.length ≤ 1000000000) :
  Calls Try.prog 71 #[.pointer (some ⟨g, 0, none⟩), .slice A b.length c, .int .i64 e] w fun r w' => (∃ v, r = .returned v) ∧ Sp w' (WrP g (wAdd (bs, bad) (b, e)) :: F) := by
 obtain ⟨v, hS⟩ := WrP.open hS
 obtain ⟨A0, c0, rfl, hc0, _⟩ := hS.tail.row
 have h0 : w.cell? ⟨g, 0, none⟩ = some (.slice A0 bs.length c0) := blk_cell hS.blk 0
 have h1 : w.cell? ⟨g, 1, none⟩ = some (.bool bad) := blk_cell hS.blk 1
 have f0 := blk_frozen hS.blk 0
 have f1 := blk_frozen hS.blk 1
 have key : ∀ nb : Bool, Aside0 (Sp (w.setCell ⟨g, 1, none⟩ (.bool nb)) (Blk g (.cells #[.slice A0 bs.length c0, .bool nb] 72 (0, 0)) :: Row (Kd.int .u8) 5 (.slice A0 bs.length c0) bs :: Row (Kd.int .u8) 5 (.slice A b.length c) b :: F)) := fun nb => ⟨hS.store 1 (.bool nb)⟩
 have HL := mk_ hl
 clear hS hl hc0
 cases bad with
 | true =>
  have HS1 := key true
  have HC1 := mk_ (HS1.out.s2.row.elim fun _ h => h.elim fun _ h => (show Kd.C (Kd.int .u8) _ A b.length b by have e_ := h.1; injection e_ with e1 e2 e3; rw [e1]; exact h.2.2))
  have k0 := blk_cell HS1.out.blk 0
  have kf := blk_frozen HS1.out.blk 0
  clear key
  go_enter Try.func71, Try.ntmps71
  go_wp2_with ((with_reducible refine gate_builtin (b := .append) (xs := #[.tmp 21, .tmp 22]) rfl ?_); at_builtin; refine Sp.appendRow (Kd.int .u8) rfl (.tmp 21) (.tmp 22) 22 5 (.int .u8 0) 1 rfl Try.underlying22 z0_ rfl z5_ z3_ (.slice A0 bs.length c0) bs b A b.length c rfl rfl (fun _ _ h => h) HS1.out.s1 HC1.out (by have := HL.out; omega) ?_; intro v1 w1 h1; obtain ⟨A1, c1, rfl, _, _⟩ := h1.row; have k1 := blk_cell h1.s1.blk 0; have kg := blk_frozen h1.s1.blk 0; have HS2 := mk_ h1; clear h1)
  go_end0
  refine ⟨⟨_, rfl⟩, ?_⟩
  have h2 := HS2.out.s1.store 0 (.slice A1 (bs ++ b).length c1)
  have h3 := (WrP.shut (bs := bs ++ b) (bad := true) h2).s1.tail
  have e1 : wAdd (bs, true) (b, e) = (bs ++ b, true) := by unfold wAdd; simp
  first | rw [e1] | (rw [he] at e1; rw [e1])
  rw [List.length_append] at h3
  exact h3
 | false =>
  by_cases he : e = 0
  ·
   have hb0 : (e == 0) = true := beq_iff_eq.2 he
   have hb1 : (e != 0) = false := bne_eq_false_iff_eq.2 he
   have hb2 : decide (e = 0) = true := decide_eq_true he
   have HS1 := key false
   have HC1 := mk_ (HS1.out.s2.row.elim fun _ h => h.elim fun _ h => (show Kd.C (Kd.int .u8) _ A b.length b by have e_ := h.1; injection e_ with e1 e2 e3; rw [e1]; exact h.2.2))
   have k0 := blk_cell HS1.out.blk 0
   have kf := blk_frozen HS1.out.blk 0
   clear key
   go_enter Try.func71, Try.ntmps71
   go_wp2_with ((with_reducible refine gate_builtin (b := .append) (xs := #[.tmp 21, .tmp 22]) rfl ?_); at_builtin; refine Sp.appendRow (Kd.int .u8) rfl (.tmp 21) (.tmp 22) 22 5 (.int .u8 0) 1 rfl Try.underlying22 z0_ rfl z5_ z3_ (.slice A0 bs.length c0) bs b A b.length c rfl rfl (fun _ _ h => h) HS1.out.s1 HC1.out (by have := HL.out; omega) ?_; intro v1 w1 h1; obtain ⟨A1, c1, rfl, _, _⟩ := h1.row; have k1 := blk_cell h1.s1.blk 0; have kg := blk_frozen h1.s1.blk 0; have HS2 := mk_ h1; clear h1)
   go_end0
   refine ⟨⟨_, rfl⟩, ?_⟩
   have h2 := HS2.out.s1.store 0 (.slice A1 (bs ++ b).length c1)
   have h3 := (WrP.shut (bs := bs ++ b) (bad := false) h2).s1.tail
   have e1 : wAdd (bs, false) (b, e) = (bs ++ b, false) := by unfold wAdd; simp [he]
   first | rw [e1] | (rw [he] at e1; rw [e1])
   rw [List.length_append] at h3
   exact h3
  have hb0 : (e == 0) = false := beq_eq_false_iff_ne.2 he
  have hb1 : (e != 0) = true := bne_iff_ne.2 he
  have hb2 : decide (e = 0) = false := decide_eq_false he
  have HS1 := key true
  have HC1 := mk_ (HS1.out.s2.row.elim fun _ h => h.elim fun _ h => (show Kd.C (Kd.int .u8) _ A b.length b by have e_ := h.1; injection e_ with e1 e2 e3; rw [e1]; exact h.2.2))
  have k0 := blk_cell HS1.out.blk 0
  have kf := blk_frozen HS1.out.blk 0
  clear key
  go_enter Try.func71, Try.ntmps71
  go_wp2_with ((with_reducible refine gate_builtin (b := .append) (xs := #[.tmp 21, .tmp 22]) rfl ?_); at_builtin; refine Sp.appendRow (Kd.int .u8) rfl (.tmp 21) (.tmp 22) 22 5 (.int .u8 0) 1 rfl Try.underlying22 z0_ rfl z5_ z3_ (.slice A0 bs.length c0) bs b A b.length c rfl rfl (fun _ _ h => h) HS1.out.s1 HC1.out (by have := HL.out; omega) ?_; intro v1 w1 h1; obtain ⟨A1, c1, rfl, _, _⟩ := h1.row; have k1 := blk_cell h1.s1.blk 0; have kg := blk_frozen h1.s1.blk 0; have HS2 := mk_ h1; clear h1)
  go_end0
  refine ⟨⟨_, rfl⟩, ?_⟩
  have h2 := HS2.out.s1.store 0 (.slice A1 (bs ++ b).length c1)
  have h3 := (WrP.shut (bs := bs ++ b) (bad := true) h2).s1.tail
  have e1 : wAdd (bs, false) (b, e) = (bs ++ b, true) := by unfold wAdd; simp [he]
  first | rw [e1] | (rw [he] at e1; rw [e1])
  rw [List.length_append] at h3
  exact h3
theorem wnum_calls (s : Wr) (n size : Int) (hS : Sp w (WrP g s :: F)) (hl : s.1.length ≤ 900000000) :
  Calls Try.prog 66 #[.pointer (some ⟨g, 0, none⟩), .int .i64 n, .int .i64 size] w fun r w' => (∃ v, r = .returned v) ∧ Sp w' (WrP g (wNum n size s) :: F) := by
 have HS := mk_ hS
 have HL := mk_ hl
 have HP := mk_ (put_eq 10 [] n size (by simp) (Nat.le_refl _))
 clear hS hl
 go_enter Try.func66, Try.ntmps66
 go_wp2_with (first
  | (go_at_call 98; refine (PAll.wire_Put.calls 10 none 0 [] n size (sPut [] n size).1 (sPut [] n size).2 _ (C_nil _ _) (Nat.le_refl _) HP.out).mono ?_; rintro e V ⟨u, rfl, hr, hq⟩; obtain ⟨Au, cu, rfl⟩ := R_slice hr; have HS1 := mk_ (Sp.made HS.out hq hr); clear hr hq)
  | (go_at_call 71; refine (wadd_calls s.1 s.2 Au cu (sPut [] n size).1 (sPut [] n size).2 HS1.out.s1 (by have := HL.out; have := sPut_len n size; omega)).mono ?_; rintro e V2 ⟨⟨u, rfl⟩, h2⟩; have HS2 := mk_ h2; clear h2))
 go_end0
 exact ⟨⟨_, rfl⟩, HS2.out⟩
theorem sPutText_len (t : ByteArray) : (sPutText [] t).1.length ≤ 25 := by
 unfold sPutText
 split
 ·
  rename_i h; simp [bytesOf_length]; omega
 ·
  simp
theorem wText_len (t : ByteArray) (s : Wr) : (wText t s).1.length ≤ s.1.length + 25 := by
 have := sPutText_len t
 unfold wText wAdd; simp only [List.length_append]; omega
theorem wtext_calls (s : Wr) (t : ByteArray) (hS : Sp w (WrP g s :: F)) (hl : s.1.length ≤ 900000000) :
  Calls Try.prog 70 #[.pointer (some ⟨g, 0, none⟩), .string t] w fun r w' => (∃ v, r = .returned v) ∧ Sp w' (WrP g (wText t s) :: F) := by
 have HS := mk_ hS
 have HL := mk_ hl
 have HP := mk_ (putText_eq [] t (by simp))
 clear hS hl
 go_enter Try.func70, Try.ntmps70
 go_wp2_with (first
  | (go_at_call 89; refine (PAll.wire_PutText.calls none 0 [] t (sPutText [] t).1 (sPutText [] t).2 _ (C_nil _ _) (Nat.le_refl _) HP.out).mono ?_; rintro e V ⟨u, rfl, hr, hq⟩; obtain ⟨Au, cu, rfl⟩ := R_slice hr; have HS1 := mk_ (Sp.made HS.out hq hr); clear hr hq)
  | (go_at_call 71; refine (wadd_calls s.1 s.2 Au cu (sPutText [] t).1 (sPutText [] t).2 HS1.out.s1 (by have := HL.out; have := sPutText_len t; omega)).mono ?_; rintro e V2 ⟨⟨u, rfl⟩, h2⟩; have HS2 := mk_ h2; clear h2))
 go_end0
 exact ⟨⟨_, rfl⟩, HS2.out⟩
theorem wdot_calls (s : Wr) (d : Dt) (hS : Sp w (WrP g s :: F)) (hl : s.1.length ≤ 800000000) :
  Calls Try.prog 67 #[.pointer (some ⟨g, 0, none⟩), .agg #[.int .i64 d.f0, .int .i64 d.f1]] w fun r w' => (∃ v, r = .returned v) ∧ Sp w' (WrP g (wDot d s) :: F) := by
 have HB := mk_ ((hS.box (.cells #[.int .i64 d.f0, .int .i64 d.f1] 25 (0, 0))).s1)
 have HL := mk_ hl
 clear hS hl
 go_enter Try.func67, Try.ntmps67
 go_wp2_with (first
  | (go_at_call 66; (with_reducible show Calls _ _ #[_, .int .i64 d.f0, .int .i64 1] _ _); refine (wnum_calls (s) d.f0 1 HB.out (by have := HL.out; omega)).mono ?_; rintro e V0 ⟨⟨u, rfl⟩, h1⟩; have k1 := blk_cell h1.s1.blk 1; have HS1 := mk_ h1; clear h1)
  | (go_at_call 66; (with_reducible show Calls _ _ #[_, .int .i64 d.f1, .int .i64 4] _ _); refine (wnum_calls (wNum d.f0 1 (s)) d.f1 4 HS1.out (by have := HL.out; have := wNum_len d.f0 1 (s); omega)).mono ?_; rintro e V1 ⟨⟨u, rfl⟩, h1⟩; have HS2 := mk_ h1; clear h1))
 go_end0
 exact ⟨⟨_, rfl⟩, HS2.out.s1.tail⟩
theorem wstamp_calls (s : Wr) (d : St) (hS : Sp w (WrP g s :: F)) (hl : s.1.length ≤ 800000000) :
  Calls Try.prog 69 #[.pointer (some ⟨g, 0, none⟩), .agg #[.int .i64 d.f0, .int .i64 d.f1, .int .i64 d.f2]] w fun r w' => (∃ v, r = .returned v) ∧ Sp w' (WrP g (wStamp d s) :: F) := by
 have HB := mk_ ((hS.box (.cells #[.int .i64 d.f0, .int .i64 d.f1, .int .i64 d.f2] 28 (0, 0))).s1)
 have HL := mk_ hl
 clear hS hl
 go_enter Try.func69, Try.ntmps69
 go_wp2_with (first
  | (go_at_call 66; (with_reducible show Calls _ _ #[_, .int .i64 d.f0, .int .i64 6] _ _); refine (wnum_calls (s) d.f0 6 HB.out (by have := HL.out; omega)).mono ?_; rintro e V0 ⟨⟨u, rfl⟩, h1⟩; have k1 := blk_cell h1.s1.blk 1; have HS1 := mk_ h1; clear h1)
  | (go_at_call 66; (with_reducible show Calls _ _ #[_, .int .i64 d.f1, .int .i64 3] _ _); refine (wnum_calls (wNum d.f0 6 (s)) d.f1 3 HS1.out (by have := HL.out; have := wNum_len d.f0 6 (s); omega)).mono ?_; rintro e V1 ⟨⟨u, rfl⟩, h1⟩; have k2 := blk_cell h1.s1.blk 2; have HS2 := mk_ h1; clear h1)
  | (go_at_call 66; (with_reducible show Calls _ _ #[_, .int .i64 d.f2, .int .i64 1] _ _); refine (wnum_calls (wNum d.f1 3 (wNum d.f0 6 (s))) d.f2 1 HS2.out (by have := HL.out; have := wNum_len d.f0 6 (s); have := wNum_len d.f1 3 (wNum d.f0 6 (s)); omega)).mono ?_; rintro e V2 ⟨⟨u, rfl⟩, h1⟩; have HS3 := mk_ h1; clear h1))
 go_end0
 exact ⟨⟨_, rfl⟩, HS3.out.s1.tail⟩
theorem wDot_len (d : Dt) (s : Wr) : (wDot d s).1.length ≤ s.1.length + 14 := by
 have h1 := wNum_len d.f0 1 s
 have h2 := wNum_len d.f1 4 (wNum d.f0 1 s)
 unfold wDot; omega
theorem wStamp_len (d : St) (s : Wr) : (wStamp d s).1.length ≤ s.1.length + 21 := by
 have h1 := wNum_len d.f0 6 s
 have h2 := wNum_len d.f1 3 (wNum d.f0 6 s)
 have h3 := wNum_len d.f2 1 (wNum d.f1 3 (wNum d.f0 6 s))
 unfold wStamp; omega
theorem wAll_snoc {α : Type} (f : α → Wr → Wr) : ∀ (l : List α) (x : α) (s : Wr), wAll f (l ++ [x]) s = f x (wAll f l s)
 | [], x, s => rfl
 | y :: l, x, s => by rw [List.cons_append, wAll, wAll, wAll_snoc f l x]
theorem wAll_len {α : Type} {f : α → Wr → Wr} {m : Nat} (hf : ∀ x s, (f x s).1.length ≤ s.1.length + m) : ∀ (l : List α) (s : Wr), (wAll f l s).1.length ≤ s.1.length + m * l.length
 | [], s => by simp [wAll]
 | y :: l, s => by
  have h1 := wAll_len hf l (f y s)
  have h2 := hf y s
  rw [wAll, List.length_cons, Nat.mul_succ]; omega
theorem take_snoc {α : Type} {l : List α} {i : Nat} (h : i < l.length) : l.take (i + 1) = l.take i ++ [l[i]] := by rw [List.take_add_one, List.getElem?_eq_getElem h]; rfl
theorem rd_get {l : List Int} {i : Nat} (h : i < l.length) : rd l (i : Int) = l[i] := by
 show l.getD (i : Int).toNat 0 = _
 rw [Int.toNat_natCast, List.getD_eq_getElem?_getD, List.getElem?_eq_getElem h]; rfl
theorem wnums_calls {w0 : World} (A : Option Addr) (c : Nat) (l : List Int) (hC : Kd.C (Kd.int .i64) w0 A l.length l) (hlc : l.length ≤ c) (hll : l.length ≤ 1000) (s : Wr) (hS : Sp w (WrP g s :: Old w0 :: F)) (hl : s.1.length ≤ 700000000) :
  Calls Try.prog 68 #[.pointer (some ⟨g, 0, none⟩), .slice A l.length c] w fun r w' => (∃ v, r = .returned v) ∧ Sp w' (WrP g (wNums l s) :: Old w0 :: F) := by
 obtain ⟨bs, bad⟩ := s
 have HC := mk_ hC
 have HLL := mk_ hll
 have HL := mk_ (show bs.length ≤ 700000000 from hl)
 obtain ⟨v, hS⟩ := WrP.open hS
 have h1 : w.cell? ⟨g, 1, none⟩ = some (.bool bad) := blk_cell hS.blk 1
 have f1 := blk_frozen hS.blk 1
 have key : ∀ nb : Bool, Aside0 (Sp (w.setCell ⟨g, 1, none⟩ (.bool nb)) (WrP g (bs, nb) :: Old w0 :: F)) := fun nb => ⟨WrP.shut (hS.store 1 (.bool nb))⟩
 clear hS hC hlc hll hl
 cases bad with
 | true =>
  have hcase : True := trivial
  have HS1 := key true
  have hn0 : wOr (decide (l.length > 5)) (bs, true) = (bs, true) := by unfold wOr; simp [hcase]
  clear key
  go_enter Try.func68, Try.ntmps68
  go_wp2_with (go_at_call 66; refine (wnum_calls (bs, true) (l.length : Int) 1 HS1.out (by have := HL.out; show bs.length ≤ _; omega)).mono ?_; rintro e V ⟨⟨u, rfl⟩, h1⟩; have HS2 := mk_ h1; clear h1)
  go_loopg [24] (l.length + 1) (fun kq v24 W' => ∃ (i : Nat), v24 = .int .i64 (i : Int) ∧ Aside0 (Sp W' (WrP g (wAll (fun n => wNum n 4) (l.take i) (wNum (l.length : Int) 1 (bs, true))) :: Old w0 :: F)) ∧ Aside0 (kq + i = l.length + 1 ∧ i ≤ l.length))
  case atStart => exact ⟨0, rfl, ⟨HS2.out⟩, ⟨by omega⟩⟩
  case round =>
   obtain ⟨i, rfl, HA, HK⟩ := hrel
   obtain ⟨k1, rfl⟩ : ∃ k1, gk = k1 + 1 := ⟨gk - 1, by have := HK.out; omega⟩
   by_cases hi : i < l.length
   rotate_left
   ·
    have hie : i = l.length := by have := HK.out; omega
    subst hie
    have hb2' : decide ((l.length : Int) < (l.length : Int)) = false := decide_eq_false z3_
    have hb3' : decide (l.length < l.length) = false := decide_eq_false z3_
    clear hi
    go_wp2
    go_end0
    refine ⟨⟨_, rfl⟩, ?_⟩
    have h := HA.out
    rw [List.take_length] at h
    unfold wNums
    rw [hn0]
    exact h
   have hx := Kd.at_int (C_below HC.out HA.out.s1.old) (i : Int) z3_ z3_
   obtain ⟨ad, hA, hx⟩ := hx
   cases hA
   rw [rd_get hi, Int.toNat_natCast] at hx
   have hb0 : (0 ≤ (i : Int)) = True := eq_true z3_
   have hb1 : ((i : Int) < (l.length : Int)) = True := eq_true z3_
   have hb2 : decide ((i : Int) < (l.length : Int)) = true := decide_eq_true z3_
   have hb3 : decide (i < l.length) = true := decide_eq_true hi
   have HI2 := mk_ hi
   have HT := mk_ (take_snoc hi)
   generalize hlx : l[i] = x at *
   clear hi hlx
   go_wp2_with (go_at_call 66; refine (wnum_calls _ x 4 HA.out (by have := HL.out; have h1 := wAll_len (f := fun n => wNum n 4) (m := 7) (fun x s => wNum_len x 4 s) (l.take i) (wNum (l.length : Int) 1 (bs, true)); have h2 := wNum_len (l.length : Int) 1 (bs, true); have h3 := HLL.out; have h4 := List.length_take_le i l; have h6 := HI2.out; have h5 : (bs, true).1.length = bs.length := rfl; omega)).mono ?_; rintro e V2 ⟨⟨u, rfl⟩, h1⟩; have HS3 := mk_ h1; clear h1)
   go_roundg k1
   case measure => exact Nat.lt_succ_self _
   case rel => exact ⟨i + 1, by rw [w64 z3_ (by have := HI2.out; have := HLL.out; omega)]; rfl, ⟨by rw [HT.out, wAll_snoc]; exact HS3.out⟩, ⟨by have := HK.out; omega, by have := HI2.out; omega⟩⟩
 | false =>
  by_cases hcase : l.length > 5
  ·
   have hd1 : decide ((5 : Int) < (l.length : Int)) = true := decide_eq_true z3_
   have hd2 : decide (5 < l.length) = true := decide_eq_true hcase
   have HS1 := key true
   have hn0 : wOr (decide (l.length > 5)) (bs, false) = (bs, true) := by unfold wOr; simp [hcase]
   clear key
   go_enter Try.func68, Try.ntmps68
   go_wp2_with (go_at_call 66; refine (wnum_calls (bs, true) (l.length : Int) 1 HS1.out (by have := HL.out; show bs.length ≤ _; omega)).mono ?_; rintro e V ⟨⟨u, rfl⟩, h1⟩; have HS2 := mk_ h1; clear h1)
   go_loopg [24] (l.length + 1) (fun kq v24 W' => ∃ (i : Nat), v24 = .int .i64 (i : Int) ∧ Aside0 (Sp W' (WrP g (wAll (fun n => wNum n 4) (l.take i) (wNum (l.length : Int) 1 (bs, true))) :: Old w0 :: F)) ∧ Aside0 (kq + i = l.length + 1 ∧ i ≤ l.length))
   case atStart => exact ⟨0, rfl, ⟨HS2.out⟩, ⟨by omega⟩⟩
   case round =>
    obtain ⟨i, rfl, HA, HK⟩ := hrel
    obtain ⟨k1, rfl⟩ : ∃ k1, gk = k1 + 1 := ⟨gk - 1, by have := HK.out; omega⟩
    by_cases hi : i < l.length
    rotate_left
    ·
     have hie : i = l.length := by have := HK.out; omega
     subst hie
     have hb2' : decide ((l.length : Int) < (l.length : Int)) = false := decide_eq_false z3_
     have hb3' : decide (l.length < l.length) = false := decide_eq_false z3_
     clear hi
     go_wp2
     go_end0
     refine ⟨⟨_, rfl⟩, ?_⟩
     have h := HA.out
     rw [List.take_length] at h
     unfold wNums
     rw [hn0]
     exact h
    have hx := Kd.at_int (C_below HC.out HA.out.s1.old) (i : Int) z3_ z3_
    obtain ⟨ad, hA, hx⟩ := hx
    cases hA
    rw [rd_get hi, Int.toNat_natCast] at hx
    have hb0 : (0 ≤ (i : Int)) = True := eq_true z3_
    have hb1 : ((i : Int) < (l.length : Int)) = True := eq_true z3_
    have hb2 : decide ((i : Int) < (l.length : Int)) = true := decide_eq_true z3_
    have hb3 : decide (i < l.length) = true := decide_eq_true hi
    have HI2 := mk_ hi
    have HT := mk_ (take_snoc hi)
    generalize hlx : l[i] = x at *
    clear hi hlx
    go_wp2_with (go_at_call 66; refine (wnum_calls _ x 4 HA.out (by have := HL.out; have h1 := wAll_len (f := fun n => wNum n 4) (m := 7) (fun x s => wNum_len x 4 s) (l.take i) (wNum (l.length : Int) 1 (bs, true)); have h2 := wNum_len (l.length : Int) 1 (bs, true); have h3 := HLL.out; have h4 := List.length_take_le i l; have h6 := HI2.out; have h5 : (bs, true).1.length = bs.length := rfl; omega)).mono ?_; rintro e V2 ⟨⟨u, rfl⟩, h1⟩; have HS3 := mk_ h1; clear h1)
    go_roundg k1
    case measure => exact Nat.lt_succ_self _
    case rel => exact ⟨i + 1, by rw [w64 z3_ (by have := HI2.out; have := HLL.out; omega)]; rfl, ⟨by rw [HT.out, wAll_snoc]; exact HS3.out⟩, ⟨by have := HK.out; omega, by have := HI2.out; omega⟩⟩
  have hd1 : decide ((5 : Int) < (l.length : Int)) = false := decide_eq_false z3_
  have hd2 : decide (5 < l.length) = false := decide_eq_false hcase
  have HS1 := key false
  have hn0 : wOr (decide (l.length > 5)) (bs, false) = (bs, false) := by unfold wOr; simp [hcase]
  clear key
  go_enter Try.func68, Try.ntmps68
  go_wp2_with (go_at_call 66; refine (wnum_calls (bs, false) (l.length : Int) 1 HS1.out (by have := HL.out; show bs.length ≤ _; omega)).mono ?_; rintro e V ⟨⟨u, rfl⟩, h1⟩; have HS2 := mk_ h1; clear h1)
  go_loopg [24] (l.length + 1) (fun kq v24 W' => ∃ (i : Nat), v24 = .int .i64 (i : Int) ∧ Aside0 (Sp W' (WrP g (wAll (fun n => wNum n 4) (l.take i) (wNum (l.length : Int) 1 (bs, false))) :: Old w0 :: F)) ∧ Aside0 (kq + i = l.length + 1 ∧ i ≤ l.length))
  case atStart => exact ⟨0, rfl, ⟨HS2.out⟩, ⟨by omega⟩⟩
  case round =>
   obtain ⟨i, rfl, HA, HK⟩ := hrel
   obtain ⟨k1, rfl⟩ : ∃ k1, gk = k1 + 1 := ⟨gk - 1, by have := HK.out; omega⟩
   by_cases hi : i < l.length
   rotate_left
   ·
    have hie : i = l.length := by have := HK.out; omega
    subst hie
    have hb2' : decide ((l.length : Int) < (l.length : Int)) = false := decide_eq_false z3_
    have hb3' : decide (l.length < l.length) = false := decide_eq_false z3_
    clear hi
    go_wp2
    go_end0
    refine ⟨⟨_, rfl⟩, ?_⟩
    have h := HA.out
    rw [List.take_length] at h
    unfold wNums
    rw [hn0]
    exact h
   have hx := Kd.at_int (C_below HC.out HA.out.s1.old) (i : Int) z3_ z3_
   obtain ⟨ad, hA, hx⟩ := hx
   cases hA
   rw [rd_get hi, Int.toNat_natCast] at hx
   have hb0 : (0 ≤ (i : Int)) = True := eq_true z3_
   have hb1 : ((i : Int) < (l.length : Int)) = True := eq_true z3_
   have hb2 : decide ((i : Int) < (l.length : Int)) = true := decide_eq_true z3_
   have hb3 : decide (i < l.length) = true := decide_eq_true hi
   have HI2 := mk_ hi
   have HT := mk_ (take_snoc hi)
   generalize hlx : l[i] = x at *
   clear hi hlx
   go_wp2_with (go_at_call 66; refine (wnum_calls _ x 4 HA.out (by have := HL.out; have h1 := wAll_len (f := fun n => wNum n 4) (m := 7) (fun x s => wNum_len x 4 s) (l.take i) (wNum (l.length : Int) 1 (bs, false)); have h2 := wNum_len (l.length : Int) 1 (bs, false); have h3 := HLL.out; have h4 := List.length_take_le i l; have h6 := HI2.out; have h5 : (bs, false).1.length = bs.length := rfl; omega)).mono ?_; rintro e V2 ⟨⟨u, rfl⟩, h1⟩; have HS3 := mk_ h1; clear h1)
   go_roundg k1
   case measure => exact Nat.lt_succ_self _
   case rel => exact ⟨i + 1, by rw [w64 z3_ (by have := HI2.out; have := HLL.out; omega)]; rfl, ⟨by rw [HT.out, wAll_snoc]; exact HS3.out⟩, ⟨by have := HK.out; omega, by have := HI2.out; omega⟩⟩
end
end Go.Proofs.Ytjnjfogfpmeacaa.Ops
end
section
namespace Go.Proofs.Ytjnjfogfpmeacaa.Ops
open Go.RowKit PAll Plain PrintWords PrintLast PrintMore Go.Proofs.Ytjnjfogfpmeacaa.Sep ZipT PrintWords.Kd PrintMore.Kd
set_option linter.unusedVariables false
set_option linter.unusedSimpArgs false
def RdP (g : Nat) (A : Option Addr) (n c : Nat) (r : Rr) : Part := Blk g (.cells #[.slice A n c, .int .i64 r.1, .bool r.2] 61 (0, 0))
section
variable {w w0 : World} {g : Nat} {A : Option Addr} {c : Nat} {l : List Int} {F : List Part}
theorem rnum_calls (hC0 : Kd.C (Kd.int .u8) w0 A l.length l) (hlc : l.length ≤ c) (hb : Bytes l) (hl : l.length ≤ 1000000) (r : Rr) (size : Int) (hp : 0 ≤ r.1 ∧ r.1 ≤ l.length) (hS : Sp w (RdP g A l.length c r :: Old w0 :: F)) :
  Calls Try.prog 52 #[.pointer (some ⟨g, 0, none⟩), .int .i64 size] w fun e w' => e = .returned (.int .i64 (rNum size l r).1) ∧ Sp w' (RdP g A l.length c (rNum size l r).2 :: Old w0 :: F) := by
 have HC := mk_ (C_below hC0 hS.s1.old)
 have HLC := mk_ hlc
 have hg := get_eq 20 l r.1 size hb hl z3_ (Nat.le_refl _)
 have hu : rNum size l r = rOf (0 : Int) (sGet l r.1 size) r := rfl
 rw [hu]
 obtain ⟨at_, bad⟩ := r
 dsimp only at hg hp hu ⊢
 generalize hgg : sGet l at_ size = gg at hg hu ⊢
 obtain ⟨v_, nx_, e_⟩ := gg
 have HG := mk_ (show PAll.wire_Get.f 20 l at_ size = some (v_, nx_, e_) from hg)
 have h0 : w.cell? ⟨g, 0, none⟩ = some (.slice A l.length c) := blk_cell hS.blk 0
 have h1 : w.cell? ⟨g, 1, none⟩ = some (.int .i64 at_) := blk_cell hS.blk 1
 have h2 : w.cell? ⟨g, 2, none⟩ = some (.bool bad) := blk_cell hS.blk 2
 have f1 := blk_frozen hS.blk 1
 have f2 := blk_frozen hS.blk 2
 have HS := mk_ hS
 clear hS hC0 hlc hb hl hp hg hu hgg
 cases bad with
 | true =>
  go_enter Try.func52, Try.ntmps52
  go_wp2
  go_quiet (first | (go_at_call 92; refine (PAll.wire_Get.calls 20 A c l at_ size v_ nx_ _ _ (by repeat (first | exact HC.out | refine C_drewN ?_ _ | refine C_drew ?_)) HLC.out HG.out).mono ?_; rintro e V ⟨rfl, ⟨m, rfl⟩⟩; (try first | exact ⟨rfl, _, World.drewN_drewN _ _ _⟩ | exact ⟨rfl, _, Eq.trans (World.drewN_drewN _ _ _) (congrArg (World.drewN _) (Nat.add_assoc _ _ _))⟩)))
  go_wp2
  go_ret
  have hr : rOf (0 : Int) (v_, nx_, e_) (at_, true) = ((0 : Int), (at_, true)) := by unfold rOf; simp
  rw [hr]
  refine ⟨rfl, ?_⟩
  refine Sp.store (cs := #[.slice A l.length c, .int .i64 at_, .bool true]) ?_ 2 (.bool true)
  repeat (first | exact HS.out | refine Sp.drewN ?_ _ | refine Sp.drew ?_)
 | false =>
  by_cases he : e_ = 0
  ·
   subst he
   go_enter Try.func52, Try.ntmps52
   go_wp2
   go_quiet (first | (go_at_call 92; refine (PAll.wire_Get.calls 20 A c l at_ size v_ nx_ _ _ (by repeat (first | exact HC.out | refine C_drewN ?_ _ | refine C_drew ?_)) HLC.out HG.out).mono ?_; rintro e V ⟨rfl, ⟨m, rfl⟩⟩; (try first | exact ⟨rfl, _, World.drewN_drewN _ _ _⟩ | exact ⟨rfl, _, Eq.trans (World.drewN_drewN _ _ _) (congrArg (World.drewN _) (Nat.add_assoc _ _ _))⟩)))
   go_wp2
   go_ret
   have hr : rOf (0 : Int) (v_, nx_, 0) (at_, false) = (v_, (nx_, false)) := by unfold rOf; simp
   rw [hr]
   refine ⟨rfl, ?_⟩
   refine Sp.store (cs := #[.slice A l.length c, .int .i64 at_, .bool false]) ?_ 1 (.int .i64 nx_)
   repeat (first | exact HS.out | refine Sp.drewN ?_ _ | refine Sp.drew ?_)
  have hb0 : (e_ == 0) = false := beq_eq_false_iff_ne.2 he
  have hb1 : (e_ != 0) = true := bne_iff_ne.2 he
  have hb2 : decide (e_ = 0) = false := decide_eq_false he
  go_enter Try.func52, Try.ntmps52
  go_wp2
  go_quiet (first | (go_at_call 92; refine (PAll.wire_Get.calls 20 A c l at_ size v_ nx_ _ _ (by repeat (first | exact HC.out | refine C_drewN ?_ _ | refine C_drew ?_)) HLC.out HG.out).mono ?_; rintro e V ⟨rfl, ⟨m, rfl⟩⟩; (try first | exact ⟨rfl, _, World.drewN_drewN _ _ _⟩ | exact ⟨rfl, _, Eq.trans (World.drewN_drewN _ _ _) (congrArg (World.drewN _) (Nat.add_assoc _ _ _))⟩)))
  go_wp2
  go_ret
  have hr : rOf (0 : Int) (v_, nx_, e_) (at_, false) = ((0 : Int), (at_, true)) := by unfold rOf; simp [he]
  rw [hr]
  refine ⟨rfl, ?_⟩
  refine Sp.store (cs := #[.slice A l.length c, .int .i64 at_, .bool false]) ?_ 2 (.bool true)
  repeat (first | exact HS.out | refine Sp.drewN ?_ _ | refine Sp.drew ?_)
theorem rtext_calls (hC0 : Kd.C (Kd.int .u8) w0 A l.length l) (hlc : l.length ≤ c) (hb : Bytes l) (hl : l.length ≤ 1000000) (r : Rr) (hp : 0 ≤ r.1 ∧ r.1 ≤ l.length) (hS : Sp w (RdP g A l.length c r :: Old w0 :: F)) :
  Calls Try.prog 56 #[.pointer (some ⟨g, 0, none⟩)] w fun e w' => e = .returned (.string (rText l r).1) ∧ Sp w' (RdP g A l.length c (rText l r).2 :: Old w0 :: F) := by
 have HC := mk_ (C_below hC0 hS.s1.old)
 have HLC := mk_ hlc
 have hg := getText_eq 20 l r.1 hb hl z3_ (Nat.le_refl _)
 have hu : rText l r = rOf (⟨#[]⟩ : ByteArray) (sGetText l r.1) r := rfl
 rw [hu]
 obtain ⟨at_, bad⟩ := r
 dsimp only at hg hp hu ⊢
 generalize hgg : sGetText l at_ = gg at hg hu ⊢
 obtain ⟨v_, nx_, e_⟩ := gg
 have HG := mk_ (show PAll.wire_GetText.f 20 l at_ = some (v_, nx_, e_) from hg)
 have h0 : w.cell? ⟨g, 0, none⟩ = some (.slice A l.length c) := blk_cell hS.blk 0
 have h1 : w.cell? ⟨g, 1, none⟩ = some (.int .i64 at_) := blk_cell hS.blk 1
 have h2 : w.cell? ⟨g, 2, none⟩ = some (.bool bad) := blk_cell hS.blk 2
 have f1 := blk_frozen hS.blk 1
 have f2 := blk_frozen hS.blk 2
 have HS := mk_ hS
 clear hS hC0 hlc hb hl hp hg hu hgg
 cases bad with
 | true =>
  go_enter Try.func56, Try.ntmps56
  go_wp2
  go_quiet (first | (go_at_call 93; refine (PAll.wire_GetText.calls 20 A c l at_ v_ nx_ _ _ (by repeat (first | exact HC.out | refine C_drewN ?_ _ | refine C_drew ?_)) HLC.out HG.out).mono ?_; rintro e V ⟨rfl, ⟨m, rfl⟩⟩; (try first | exact ⟨rfl, _, World.drewN_drewN _ _ _⟩ | exact ⟨rfl, _, Eq.trans (World.drewN_drewN _ _ _) (congrArg (World.drewN _) (Nat.add_assoc _ _ _))⟩)))
  go_wp2
  go_ret
  have hr : rOf (⟨#[]⟩ : ByteArray) (v_, nx_, e_) (at_, true) = ((⟨#[]⟩ : ByteArray), (at_, true)) := by unfold rOf; simp
  rw [hr]
  refine ⟨rfl, ?_⟩
  refine Sp.store (cs := #[.slice A l.length c, .int .i64 at_, .bool true]) ?_ 2 (.bool true)
  repeat (first | exact HS.out | refine Sp.drewN ?_ _ | refine Sp.drew ?_)
 | false =>
  by_cases he : e_ = 0
  ·
   subst he
   go_enter Try.func56, Try.ntmps56
   go_wp2
   go_quiet (first | (go_at_call 93; refine (PAll.wire_GetText.calls 20 A c l at_ v_ nx_ _ _ (by repeat (first | exact HC.out | refine C_drewN ?_ _ | refine C_drew ?_)) HLC.out HG.out).mono ?_; rintro e V ⟨rfl, ⟨m, rfl⟩⟩; (try first | exact ⟨rfl, _, World.drewN_drewN _ _ _⟩ | exact ⟨rfl, _, Eq.trans (World.drewN_drewN _ _ _) (congrArg (World.drewN _) (Nat.add_assoc _ _ _))⟩)))
   go_wp2
   go_ret
   have hr : rOf (⟨#[]⟩ : ByteArray) (v_, nx_, 0) (at_, false) = (v_, (nx_, false)) := by unfold rOf; simp
   rw [hr]
   refine ⟨rfl, ?_⟩
   refine Sp.store (cs := #[.slice A l.length c, .int .i64 at_, .bool false]) ?_ 1 (.int .i64 nx_)
   repeat (first | exact HS.out | refine Sp.drewN ?_ _ | refine Sp.drew ?_)
  have hb0 : (e_ == 0) = false := beq_eq_false_iff_ne.2 he
  have hb1 : (e_ != 0) = true := bne_iff_ne.2 he
  have hb2 : decide (e_ = 0) = false := decide_eq_false he
  go_enter Try.func56, Try.ntmps56
  go_wp2
  go_quiet (first | (go_at_call 93; refine (PAll.wire_GetText.calls 20 A c l at_ v_ nx_ _ _ (by repeat (first | exact HC.out | refine C_drewN ?_ _ | refine C_drew ?_)) HLC.out HG.out).mono ?_; rintro e V ⟨rfl, ⟨m, rfl⟩⟩; (try first | exact ⟨rfl, _, World.drewN_drewN _ _ _⟩ | exact ⟨rfl, _, Eq.trans (World.drewN_drewN _ _ _) (congrArg (World.drewN _) (Nat.add_assoc _ _ _))⟩)))
  go_wp2
  go_ret
  have hr : rOf (⟨#[]⟩ : ByteArray) (v_, nx_, e_) (at_, false) = ((⟨#[]⟩ : ByteArray), (at_, true)) := by unfold rOf; simp [he]
  rw [hr]
  refine ⟨rfl, ?_⟩
  refine Sp.store (cs := #[.slice A l.length c, .int .i64 at_, .bool false]) ?_ 2 (.bool true)
  repeat (first | exact HS.out | refine Sp.drewN ?_ _ | refine Sp.drew ?_)
theorem rmany_calls (hC0 : Kd.C (Kd.int .u8) w0 A l.length l) (hlc : l.length ≤ c) (hb : Bytes l) (hl : l.length ≤ 1000000) (r : Rr) (size most : Int) (hp : 0 ≤ r.1 ∧ r.1 ≤ l.length) (hS : Sp w (RdP g A l.length c r :: Old w0 :: F)) :
  Calls Try.prog 58 #[.pointer (some ⟨g, 0, none⟩), .int .i64 size, .int .i64 most] w fun e w' => e = .returned (.int .i64 (rMany size most l r).1) ∧ Sp w' (RdP g A l.length c (rMany size most l r).2 :: Old w0 :: F) := by
 have hN := rnum_calls hC0 hlc hb hl r size hp hS
 have hu : rMany size most l r = if (rNum size l r).1 > most then (0, ((rNum size l r).2.1, true)) else rNum size l r := rfl
 rw [hu]; clear hu
 generalize rNum size l r = q at hN ⊢
 obtain ⟨n, at1, bad1⟩ := q
 have HN := mk_ hN
 clear hN hS hC0 hlc hb hl hp
 by_cases hm : n > most
 ·
  have hb0 : decide (most < n) = true := decide_eq_true hm
  rw [if_pos hm]
  clear hm
  go_enter Try.func58, Try.ntmps58
  go_wp2_with (go_at_call 52; refine HN.out.mono ?_; rintro e V ⟨rfl, h1⟩; have HS1 := mk_ h1; have k2 := blk_cell h1.blk 2; have f2 := blk_frozen h1.blk 2; clear h1)
  go_ret
  exact ⟨rfl, Sp.store (cs := #[.slice A l.length c, .int .i64 at1, .bool bad1]) HS1.out 2 (.bool true)⟩
 have hb0 : decide (most < n) = false := decide_eq_false hm
 rw [if_neg hm]
 clear hm
 go_enter Try.func58, Try.ntmps58
 go_wp2_with (go_at_call 52; refine HN.out.mono ?_; rintro e V ⟨rfl, h1⟩; have HS1 := mk_ h1; clear h1)
 go_ret
 exact ⟨rfl, HS1.out⟩
end
end Go.Proofs.Ytjnjfogfpmeacaa.Ops
end
section
namespace Go.Proofs.Ytjnjfogfpmeacaa.Ops
open Go.RowKit PAll Plain PrintWords PrintLast PrintMore Go.Proofs.Ytjnjfogfpmeacaa.Sep ZipT PrintWords.Kd PrintMore.Kd
set_option linter.unusedVariables false
set_option linter.unusedSimpArgs false
section
variable {w w0 : World} {g : Nat} {A : Option Addr} {c : Nat} {l : List Int} {F : List Part}
theorem gate_st {P : Program} {ops : Array Oper} {rest : List Oper} {o : Oper} {a : Act} {Q : Exit → Act → World → Prop} {W : World} {ty : TypeId} {x y : Operand} (_ho : o.op = .store ty x y) (h : wpList P ops Q (o :: rest) a W) : wpList P ops Q (o :: rest) a W := h
theorem sp_storeRow {g : Nat} {cs : Array Value} {t : TypeId} {fz : Nat × Nat} {w : World} {F : List Part} (h : Sp w (Blk g (.cells cs t fz) :: F)) (cs' : Array Value) : Sp (w.setRow g cs') (Blk g (.cells cs' t fz) :: F) := by
 obtain ⟨ok, h1, h2, h3⟩ := h.head1
 refine h3 _ _ ⟨rfl, rfl, rfl, by simp [World.setRow], fun i _ hn => ?_⟩ ⟨.inl h2.1, by simp [World.setRow, Array.getElem?_modify, h2.2]⟩
 have : ¬ g = i := fun e => hn (e ▸ h2.1)
 simp [World.setRow, Array.getElem?_modify, this]
def rAt (l : List Int) (r : Rr) : Prop := 0 ≤ r.1 ∧ r.1 ≤ l.length
theorem times_snoc {α : Type} (f : List Int → Rr → α × Rr) (l : List Int) : ∀ (n : Nat) (acc : List α) (r : Rr), rTimes f l (n + 1) acc r = ((rTimes f l n acc r).1 ++ [(f l (rTimes f l n acc r).2).1], (f l (rTimes f l n acc r).2).2)
 | 0, acc, r => rfl
 | n + 1, acc, r => times_snoc f l n (acc ++ [(f l r).1]) (f l r).2
theorem rAt_num {l : List Int} {r : Rr} (hb : Bytes l) (s : Nat) (h1 : 1 ≤ s) (h7 : s ≤ 7) (h : rAt l r) : rAt l (rNum (s : Int) l r).2 := (Reads.num s h1 h7).place l r hb h.1 h.2
theorem rAt_times {α : Type} {f : List Int → Rr → α × Rr} {l : List Int} (hf : ∀ r, rAt l r → rAt l (f l r).2) : ∀ (n : Nat) (acc : List α) (r : Rr), rAt l r → rAt l (rTimes f l n acc r).2
 | 0, acc, r, h => h
 | n + 1, acc, r, h => rAt_times hf n (acc ++ [(f l r).1]) (f l r).2 (hf r h)
theorem rdot_calls (hC0 : Kd.C (Kd.int .u8) w0 A l.length l) (hlc : l.length ≤ c) (hb : Bytes l) (hl : l.length ≤ 1000000) (r : Rr) (hp0 : rAt l r) (hp1 : rAt l (rNum 1 l r).2) (hS : Sp w (RdP g A l.length c r :: Old w0 :: F)) :
  Calls Try.prog 53 #[.pointer (some ⟨g, 0, none⟩)] w fun e w' => e = .returned (.agg #[.int .i64 (rNum 1 l r).1, .int .i64 (rNum 4 l (rNum 1 l r).2).1]) ∧ Sp w' (RdP g A l.length c (rNum 4 l (rNum 1 l r).2).2 :: Old w0 :: F) := by
 have HP0 := mk_ hp0
 have HP1 := mk_ hp1
 have HC := mk_ (And.intro hC0 (And.intro hlc (And.intro hb hl)))
 have HS0 := mk_ (hS.box (.cells #[.int .i64 0, .int .i64 0] 25 (0, 0)))
 clear hS hC0 hlc hb hl hp0 hp1
 go_enter Try.func53, Try.ntmps53
 go_wp2_with (first
  | (go_at_call 52; (with_reducible show Calls _ _ #[_, .int .i64 1] _ _); refine (rnum_calls (F := Blk w.heap.size (.cells #[.int .i64 0, .int .i64 0] 25 (0, 0)) :: F) HC.out.1 HC.out.2.1 HC.out.2.2.1 HC.out.2.2.2 r 1 HP0.out (Sp.s1 (Sp.s2 (Sp.s1 HS0.out)))).mono ?_; rintro e V0 ⟨rfl, h1⟩; have HS1 := mk_ h1; clear h1)
  | (go_at_call 52; (with_reducible show Calls _ _ #[_, .int .i64 4] _ _); refine (rnum_calls (F := Blk w.heap.size (.cells #[.int .i64 0, .int .i64 0] 25 (0, 0)) :: F) HC.out.1 HC.out.2.1 HC.out.2.2.1 HC.out.2.2.2 (rNum 1 l r).2 4 HP1.out HS1.out).mono ?_; rintro e V1 ⟨rfl, h1⟩; have HS2 := mk_ h1; clear h1)
  | ((with_reducible refine gate_st (ty := 25) (x := .tmp 2) (y := .tmp 7) rfl ?_); refine wpList_store_row rfl 25 (.tmp 2) (.tmp 7) rfl w.heap.size #[.int .i64 (rNum 1 l r).1, .int .i64 (rNum 4 l (rNum 1 l r).2).1] rfl rfl 25 #[.int .i64 0, .int .i64 0] HS2.out.s2.blk z0_ rfl (by first | decide | rfl | simp [Value.oneCell']) ?_))
 refine bodyPost_ret (results_cell_row rfl _ _ w.heap.size 25 #[.int .i64 (rNum 1 l r).1, .int .i64 (rNum 4 l (rNum 1 l r).2).1] (0, 0) _ rfl (sp_storeRow HS2.out.s2 _).blk Try.underlying25 rfl z0_) rfl ?_
 exact ⟨rfl, (sp_storeRow HS2.out.s2 #[.int .i64 (rNum 1 l r).1, .int .i64 (rNum 4 l (rNum 1 l r).2).1]).tail⟩
theorem rstamp_calls (hC0 : Kd.C (Kd.int .u8) w0 A l.length l) (hlc : l.length ≤ c) (hb : Bytes l) (hl : l.length ≤ 1000000) (r : Rr) (hp0 : rAt l r) (hp1 : rAt l (rNum 6 l r).2) (hp2 : rAt l (rNum 3 l (rNum 6 l r).2).2) (hS : Sp w (RdP g A l.length c r :: Old w0 :: F)) :
  Calls Try.prog 55 #[.pointer (some ⟨g, 0, none⟩)] w fun e w' => e = .returned (.agg #[.int .i64 (rNum 6 l r).1, .int .i64 (rNum 3 l (rNum 6 l r).2).1, .int .i64 (rNum 1 l (rNum 3 l (rNum 6 l r).2).2).1]) ∧ Sp w' (RdP g A l.length c (rNum 1 l (rNum 3 l (rNum 6 l r).2).2).2 :: Old w0 :: F) := by
 have HP0 := mk_ hp0
 have HP1 := mk_ hp1
 have HP2 := mk_ hp2
 have HC := mk_ (And.intro hC0 (And.intro hlc (And.intro hb hl)))
 have HS0 := mk_ (hS.box (.cells #[.int .i64 0, .int .i64 0, .int .i64 0] 28 (0, 0)))
 clear hS hC0 hlc hb hl hp0 hp1 hp2
 go_enter Try.func55, Try.ntmps55
 go_wp2_with (first
  | (go_at_call 52; (with_reducible show Calls _ _ #[_, .int .i64 6] _ _); refine (rnum_calls (F := Blk w.heap.size (.cells #[.int .i64 0, .int .i64 0, .int .i64 0] 28 (0, 0)) :: F) HC.out.1 HC.out.2.1 HC.out.2.2.1 HC.out.2.2.2 r 6 HP0.out (Sp.s1 (Sp.s2 (Sp.s1 HS0.out)))).mono ?_; rintro e V0 ⟨rfl, h1⟩; have HS1 := mk_ h1; clear h1)
  | (go_at_call 52; (with_reducible show Calls _ _ #[_, .int .i64 3] _ _); refine (rnum_calls (F := Blk w.heap.size (.cells #[.int .i64 0, .int .i64 0, .int .i64 0] 28 (0, 0)) :: F) HC.out.1 HC.out.2.1 HC.out.2.2.1 HC.out.2.2.2 (rNum 6 l r).2 3 HP1.out HS1.out).mono ?_; rintro e V1 ⟨rfl, h1⟩; have HS2 := mk_ h1; clear h1)
  | (go_at_call 52; (with_reducible show Calls _ _ #[_, .int .i64 1] _ _); refine (rnum_calls (F := Blk w.heap.size (.cells #[.int .i64 0, .int .i64 0, .int .i64 0] 28 (0, 0)) :: F) HC.out.1 HC.out.2.1 HC.out.2.2.1 HC.out.2.2.2 (rNum 3 l (rNum 6 l r).2).2 1 HP2.out HS2.out).mono ?_; rintro e V2 ⟨rfl, h1⟩; have HS3 := mk_ h1; clear h1)
  | ((with_reducible refine gate_st (ty := 28) (x := .tmp 2) (y := .tmp 9) rfl ?_); refine wpList_store_row rfl 28 (.tmp 2) (.tmp 9) rfl w.heap.size #[.int .i64 (rNum 6 l r).1, .int .i64 (rNum 3 l (rNum 6 l r).2).1, .int .i64 (rNum 1 l (rNum 3 l (rNum 6 l r).2).2).1] rfl rfl 28 #[.int .i64 0, .int .i64 0, .int .i64 0] HS3.out.s2.blk z0_ rfl (by first | decide | rfl | simp [Value.oneCell']) ?_))
 refine bodyPost_ret (results_cell_row rfl _ _ w.heap.size 28 #[.int .i64 (rNum 6 l r).1, .int .i64 (rNum 3 l (rNum 6 l r).2).1, .int .i64 (rNum 1 l (rNum 3 l (rNum 6 l r).2).2).1] (0, 0) _ rfl (sp_storeRow HS3.out.s2 _).blk Try.underlying28 rfl z0_) rfl ?_
 exact ⟨rfl, (sp_storeRow HS3.out.s2 #[.int .i64 (rNum 6 l r).1, .int .i64 (rNum 3 l (rNum 6 l r).2).1, .int .i64 (rNum 1 l (rNum 3 l (rNum 6 l r).2).2).1]).tail⟩
end
end Go.Proofs.Ytjnjfogfpmeacaa.Ops
end
section
namespace Go.Proofs.Ytjnjfogfpmeacaa.Ops
open Go.RowKit PAll Plain PrintWords PrintLast PrintMore Go.Proofs.Ytjnjfogfpmeacaa.Sep ZipT PrintWords.Kd PrintMore.Kd
set_option linter.unusedVariables false
set_option linter.unusedSimpArgs false
section
variable {w w0 : World} {g : Nat} {A : Option Addr} {c : Nat} {l : List Int} {F : List Part}
theorem sp_el {α : Type} {d : Kd α} {p : α} {cs : List Value} {w : World} {F : List Part} (hM : ∀ (w : World) (ok : Nat → Prop), d.M w 0 ok p cs) (h : Sp w F) : Sp w (El d p cs :: F) :=
 ⟨fun _ => False, fun _ h => h.elim, hM _ _, h.wide (fun k hk => ⟨hk, fun e => e⟩)⟩
theorem sp_nil {α : Type} {d : Kd α} {e : Nat} {w : World} {F : List Part} (h : Sp w F) : Sp w (Row d e (.slice none 0 0) [] :: F) :=
 ⟨fun _ => False, fun _ h => h.elim, R_nil _ _ _ _ _, h.wide (fun k hk => ⟨hk, fun e => e⟩)⟩
theorem start_at {P : Program} {ops : Array Oper} {Q : Exit → Act → World → Prop} {S : World → Prop} {ds : List Nat} {id n : Nat} {a : Act} {w : World} (J : World → Prop) (l : Array Bool) (hm : P.follows .mixedOrders = true) (hn : ops.size = n) (hl : Array.replicate n false = l)
  (hJ : J w.drew) (hS : ∀ W, J W → S W) (h : ∀ W, J W → wpAnyLast P .any ops Q S ds n l a W) : (Code.region id ops true).wp P Q a w :=
 start_ l hm hn hl (hS _ hJ) (fun _ => h _ hJ)
theorem times_len {α : Type} (f : List Int → Rr → α × Rr) (l : List Int) : ∀ (n : Nat) (acc : List α) (r : Rr), (rTimes f l n acc r).1.length = acc.length + n
 | 0, acc, r => rfl
 | n + 1, acc, r => by rw [rTimes, times_len f l n]; simp; omega
theorem rAt_many {l : List Int} {r : Rr} (hb : Bytes l) (s : Nat) (h1 : 1 ≤ s) (h7 : s ≤ 7) (m : Int) (h : rAt l r) : rAt l (rMany (s : Int) m l r).2 := by
 have := rAt_num hb s h1 h7 h
 unfold rMany
 split
 ·
  exact this
 ·
  exact this
theorem rnums_calls (hC0 : Kd.C (Kd.int .u8) w0 A l.length l) (hlc : l.length ≤ c) (hb : Bytes l) (hl : l.length ≤ 1000000) (r : Rr) (hp : rAt l r) (hS : Sp w (RdP g A l.length c r :: Old w0 :: F)) :
  Calls Try.prog 54 #[.pointer (some ⟨g, 0, none⟩)] w fun e w' => ∃ v, e = .returned v ∧ Sp w' (Row (Kd.int .i64) 3 v (rNums l r).1 :: RdP g A l.length c (rNums l r).2 :: Old w0 :: F) := by
 have hm := rAt_many hb 1 z5_ z5_ 5 hp
 have HN := mk_ (rmany_calls hC0 hlc hb hl r 1 5 hp hS)
 have hu : rNums l r = rTimes (rNum 4) l (rMany 1 5 l r).1.toNat [] (rMany 1 5 l r).2 := rfl
 have hle : (rMany 1 5 l r).1 ≤ 5 := by unfold rMany; split <;> omega
 rw [hu]
 have hm : rAt l (rMany 1 5 l r).2 := hm
 generalize rMany 1 5 l r = q at *
 obtain ⟨n, r1⟩ := q
 dsimp only at hle hm HN ⊢
 have HT : Aside0 (∀ i, rAt l (rTimes (rNum 4) l i [] r1).2) := ⟨fun i => rAt_times (fun r h => rAt_num hb 4 z5_ z5_ h) i [] _ hm⟩
 have HC := mk_ (And.intro hC0 (And.intro hlc (And.intro hb hl)))
 have HLE := mk_ hle
 clear hC0 hlc hb hl hp hS hu hle hm
 go_enter Try.func54, Try.ntmps54
 go_wp2_with (go_at_call 58; refine HN.out.mono ?_; rintro e V ⟨rfl, h1⟩; have HS1 := mk_ h1; clear h1)
 go_loopg [6, 3] (n.toNat + 1) (fun kq v6 v3 W' => ∃ (i : Nat) (v : Value), v6 = .int .i64 (i : Int) ∧ v3 = v ∧ Aside0 (Sp W' (Row (Kd.int .i64) 3 v (rTimes (rNum 4) l i [] r1).1 :: RdP g A l.length c (rTimes (rNum 4) l i [] r1).2 :: Old w0 :: F)) ∧ Aside0 (kq + i = n.toNat + 1 ∧ i ≤ n.toNat))
 case atStart => exact ⟨0, _, rfl, rfl, ⟨sp_nil HS1.out⟩, ⟨by omega⟩⟩
 case round =>
  obtain ⟨i, _, rfl, rfl, HA, HK⟩ := hrel
  obtain ⟨k1, rfl⟩ : ∃ k1, gk = k1 + 1 := ⟨gk - 1, by have := HK.out; omega⟩
  by_cases hi : (i : Int) < n
  rotate_left
  ·
   have hb2 : decide ((i : Int) < n) = false := decide_eq_false hi
   have hie : i = n.toNat := by have := HK.out; omega
   clear hi
   go_wp2
   go_ret
   subst hie
   exact ⟨_, rfl, HA.out⟩
  have hb2 : decide ((i : Int) < n) = true := decide_eq_true hi
  have HI := mk_ hi
  have HX := mk_ (times_snoc (rNum 4) l i [] r1)
  have HTi := mk_ (HT.out i)
  have HTL : Aside0 ((rTimes (rNum 4) l i [] r1).1.length = i) := ⟨by rw [times_len]; simp⟩
  clear hi HT
  generalize rTimes (rNum 4) l i [] r1 = t at *
  obtain ⟨xs, ri⟩ := t
  dsimp only at HA HX HTi HTL
  have HQ := mk_ (fun V hv => rnum_calls (g := g) (w := V) (F := Row (Kd.int .i64) 3 u3 xs :: F) HC.out.1 HC.out.2.1 HC.out.2.2.1 HC.out.2.2.2 ri 4 HTi.out hv)
  generalize rNum 4 l ri = q at *
  obtain ⟨p, rj⟩ := q
  dsimp only at HQ HX
  go_wp2_with (first
   | (go_at_call 52; (with_reducible show Calls _ _ #[_, .int .i64 4] _ _); refine (HQ.out _ (HA.out.s1).s2.s1).mono ?_; rintro e V2 ⟨rfl, h1⟩; have HS3 := mk_ (Sp.s1 (sp_el (d := Kd.int .i64) (p := p) (cs := [.int .i64 p]) (fun _ _ => rfl) h1.s2)); clear h1)
   | ((with_reducible refine gate_builtin (b := .append) (xs := #[.tmp 8, .tmp 11]) rfl ?_); at_builtin; refine Sp.append (Kd.int .i64) rfl (.tmp 8) (.tmp 11) 26 3 (.int .i64 0) 8 rfl Try.underlying26 z0_ rfl z5_ z3_ u3 xs p [.int .i64 p] rfl rfl HS3.out (by have := HTL.out; have := HI.out; have := HLE.out; omega) ?_; intro v1 w1 h1; have HS4 := mk_ h1; clear h1))
  go_roundg k1
  case measure => exact Nat.lt_succ_self _
  case rel => exact ⟨i + 1, v1, by rw [w64 z3_ (by have := HI.out; have := HLE.out; omega)]; rfl, rfl, ⟨by rw [HX.out]; exact HS4.out⟩, ⟨by have := HK.out; omega, by have := HI.out; omega⟩⟩
theorem rop_calls (hC0 : Kd.C (Kd.int .u8) w0 A l.length l) (hlc : l.length ≤ c) (hb : Bytes l) (hl : l.length ≤ 1000000) (r : Rr) (hp : rAt l r) (hS : Sp w (RdP g A l.length c r :: Old w0 :: F)) :
  Calls Try.prog 26 #[.pointer (some ⟨g, 0, none⟩)] w fun e w' => ∃ v1 v7 v8, e = .returned (.agg #[.int .i64 (rOp l r).1.f0.f0, .int .i64 (rOp l r).1.f0.f1, v1, .int .i64 (rOp l r).1.f2.f0, .int .i64 (rOp l r).1.f2.f1, .int .i64 (rOp l r).1.f2.f2, .int .i64 (rOp l r).1.f3, .int .i64 (rOp l r).1.f4, .string (rOp l r).1.f5, .int .i64 (rOp l r).1.f6, v7, v8]) ∧
   Sp w' (Row (Kd.int .i64) 3 v1 (rOp l r).1.f1 :: Row k84 84 v7 (rOp l r).1.f7 :: Row k25 25 v8 (rOp l r).1.f8 :: RdP g A l.length c (rOp l r).2 :: Old w0 :: F) := by
 obtain ⟨q1, hq1⟩ : ∃ q, q = rNum 1 l r := ⟨_, rfl⟩
 have C1 : ∀ V F', Sp V (RdP g A l.length c r :: Old w0 :: F') → Calls Try.prog 52 #[.pointer (some ⟨g, 0, none⟩), .int .i64 1] V (fun e w' => e = .returned (.int .i64 q1.1) ∧ Sp w' (RdP g A l.length c q1.2 :: Old w0 :: F')) := fun V F' h => by rw [hq1]; exact rnum_calls hC0 hlc hb hl r 1 hp h
 have p1 : rAt l q1.2 := by rw [hq1]; exact rAt_num hb 1 z5_ z5_ hp
 obtain ⟨q2, hq2⟩ : ∃ q, q = rDot l q1.2 := ⟨_, rfl⟩
 have C2 : ∀ V F', Sp V (RdP g A l.length c q1.2 :: Old w0 :: F') → Calls Try.prog 53 #[.pointer (some ⟨g, 0, none⟩)] V (fun e w' => e = .returned (.agg #[.int .i64 q2.1.f0, .int .i64 q2.1.f1]) ∧ Sp w' (RdP g A l.length c q2.2 :: Old w0 :: F')) := fun V F' h => by rw [hq2]; exact rdot_calls hC0 hlc hb hl q1.2 p1 (rAt_num hb 1 z5_ z5_ p1) h
 have p2 : rAt l q2.2 := by rw [hq2]; exact Reads.dot.place l q1.2 hb p1.1 p1.2
 obtain ⟨q3, hq3⟩ : ∃ q, q = rNums l q2.2 := ⟨_, rfl⟩
 have C3 : ∀ V F', Sp V (RdP g A l.length c q2.2 :: Old w0 :: F') → Calls Try.prog 54 #[.pointer (some ⟨g, 0, none⟩)] V (fun e w' => ∃ v, e = .returned v ∧ Sp w' (Row (Kd.int .i64) 3 v q3.1 :: RdP g A l.length c q3.2 :: Old w0 :: F')) := fun V F' h => by rw [hq3]; exact rnums_calls hC0 hlc hb hl q2.2 p2 h
 have p3 : rAt l q3.2 := by rw [hq3]; exact Reads.nums.place l q2.2 hb p2.1 p2.2
 obtain ⟨q4, hq4⟩ : ∃ q, q = rStamp l q3.2 := ⟨_, rfl⟩
 have C4 : ∀ V F', Sp V (RdP g A l.length c q3.2 :: Old w0 :: F') → Calls Try.prog 55 #[.pointer (some ⟨g, 0, none⟩)] V (fun e w' => e = .returned (.agg #[.int .i64 q4.1.f0, .int .i64 q4.1.f1, .int .i64 q4.1.f2]) ∧ Sp w' (RdP g A l.length c q4.2 :: Old w0 :: F')) := fun V F' h => by rw [hq4]; exact rstamp_calls hC0 hlc hb hl q3.2 p3 (rAt_num hb 6 z5_ z5_ p3) (rAt_num hb 3 z5_ z5_ (rAt_num hb 6 z5_ z5_ p3)) h
 have p4 : rAt l q4.2 := by rw [hq4]; exact Reads.stamp.place l q3.2 hb p3.1 p3.2
 obtain ⟨q5, hq5⟩ : ∃ q, q = rNum 1 l q4.2 := ⟨_, rfl⟩
 have C5 : ∀ V F', Sp V (RdP g A l.length c q4.2 :: Old w0 :: F') → Calls Try.prog 52 #[.pointer (some ⟨g, 0, none⟩), .int .i64 1] V (fun e w' => e = .returned (.int .i64 q5.1) ∧ Sp w' (RdP g A l.length c q5.2 :: Old w0 :: F')) := fun V F' h => by rw [hq5]; exact rnum_calls hC0 hlc hb hl q4.2 1 p4 h
 have p5 : rAt l q5.2 := by rw [hq5]; exact rAt_num hb 1 z5_ z5_ p4
 obtain ⟨q6, hq6⟩ : ∃ q, q = rText l q5.2 := ⟨_, rfl⟩
 have C6 : ∀ V F', Sp V (RdP g A l.length c q5.2 :: Old w0 :: F') → Calls Try.prog 56 #[.pointer (some ⟨g, 0, none⟩)] V (fun e w' => e = .returned (.string q6.1) ∧ Sp w' (RdP g A l.length c q6.2 :: Old w0 :: F')) := fun V F' h => by rw [hq6]; exact rtext_calls hC0 hlc hb hl q5.2 p5 h
 have p6 : rAt l q6.2 := by rw [hq6]; exact Reads.text.place l q5.2 hb p5.1 p5.2
 obtain ⟨q7, hq7⟩ : ∃ q, q = rNum 1 l q6.2 := ⟨_, rfl⟩
 have C7 : ∀ V F', Sp V (RdP g A l.length c q6.2 :: Old w0 :: F') → Calls Try.prog 52 #[.pointer (some ⟨g, 0, none⟩), .int .i64 1] V (fun e w' => e = .returned (.int .i64 q7.1) ∧ Sp w' (RdP g A l.length c q7.2 :: Old w0 :: F')) := fun V F' h => by rw [hq7]; exact rnum_calls hC0 hlc hb hl q6.2 1 p6 h
 have p7 : rAt l q7.2 := by rw [hq7]; exact rAt_num hb 1 z5_ z5_ p6
 have hu : rOp l r = if (rRow l q7.2).2.2 = true then (zOp, (rRow l q7.2).2) else (⟨q2.1, q3.1, q4.1, q1.1, q5.1, q6.1, q7.1, (rRow l q7.2).1, (rDots l (rRow l q7.2).2).1⟩, (rDots l (rRow l q7.2).2).2) := by
  subst hq7 hq6 hq5 hq4 hq3 hq2 hq1; rfl
 have hg := rowRead_eq 80 l q7.2.1 hb hl (by have := p7.2; omega) (Nat.le_refl _)
 have hr : rRow l q7.2 = rOf [] (sRowRead l q7.2.1) q7.2 := rfl
 have pr : rAt l (rRow l q7.2).2 := Reads.row.place l q7.2 hb p7.1 p7.2
 have hcl : ∀ V, Below w0.heap.size w0 V → Kd.C (Kd.int .u8) V A l.length l := fun V h => C_below hC0 h
 have CM : ∀ V F' r, rAt l r → Sp V (RdP g A l.length c r :: Old w0 :: F') → Calls Try.prog 58 #[.pointer (some ⟨g, 0, none⟩), .int .i64 1, .int .i64 64] V (fun e w' => e = .returned (.int .i64 (rMany 1 64 l r).1) ∧ Sp w' (RdP g A l.length c (rMany 1 64 l r).2 :: Old w0 :: F')) := fun V F' r p h => rmany_calls hC0 hlc hb hl r 1 64 p h
 have CD : ∀ V F' r, rAt l r → Sp V (RdP g A l.length c r :: Old w0 :: F') → Calls Try.prog 53 #[.pointer (some ⟨g, 0, none⟩)] V (fun e w' => e = .returned (.agg #[.int .i64 (rDot l r).1.f0, .int .i64 (rDot l r).1.f1]) ∧ Sp w' (RdP g A l.length c (rDot l r).2 :: Old w0 :: F')) := fun V F' r p h => rdot_calls hC0 hlc hb hl r p (rAt_num hb 1 z5_ z5_ p) h
 have PM : ∀ r, rAt l r → rAt l (rMany 1 64 l r).2 := fun r p => rAt_many hb 1 z5_ z5_ 64 p
 have PD : ∀ r, rAt l r → rAt l (rDot l r).2 := fun r p => Reads.dot.place l r hb p.1 p.2
 rw [hr] at pr hu
 generalize sRowRead l q7.2.1 = gg at hg hu pr
 obtain ⟨vals, nx, e_⟩ := gg
 clear hr hq7 hq6 hq5 hq4 hq3 hq2 hq1 p1 p2 p3 p4 p5 p6 p7 hb hC0 hp
 obtain ⟨n1, r1⟩ := q1
 obtain ⟨d_, r2⟩ := q2
 obtain ⟨l3, r3⟩ := q3
 obtain ⟨t_, r4⟩ := q4
 obtain ⟨n5, r5⟩ := q5
 obtain ⟨s6, r6⟩ := q6
 obtain ⟨n7, r7⟩ := q7
 obtain ⟨at7, bad7⟩ := r7
 dsimp only at C1 C2 C3 C4 C5 C6 C7 hg hu pr
 have HG := mk_ hg
 have HLC := mk_ hlc
 have HCL := mk_ hcl
 have HC1 := mk_ C1
 have HC2 := mk_ C2
 have HC3 := mk_ C3
 have HC4 := mk_ C4
 have HC5 := mk_ C5
 have HC6 := mk_ C6
 have HC7 := mk_ C7
 have HCM := mk_ CM
 have HCD := mk_ CD
 have HPM := mk_ PM
 have HPD := mk_ PD
 have HS0 := mk_ (Sp.s1 (Sp.s2 (Sp.s1 (hS.box (.cells #[.int .i64 0, .int .i64 0, .slice none 0 0, .int .i64 0, .int .i64 0, .int .i64 0, .int .i64 0, .int .i64 0, .string ⟨#[]⟩, .int .i64 0, .slice none 0 0, .slice none 0 0] 32 (0, 0))))))
 clear C1 C2 C3 C4 C5 C6 C7 CM CD PM PD hg hlc hcl hS
 cases bad7 with
 | true =>
  have hz : rOp l r = (zOp, (at7, true)) := by rw [hu]; unfold rOf; simp
  rw [hz]
  clear hu hz pr
  go_enter Try.func26, Try.ntmps26
  go_wp2_with (first
  | (go_at_call 52; (with_reducible show Calls _ _ _ (World.alloc w _) _); refine (HC1.out _ _ HS0.out).mono ?_; rintro e V1 ⟨rfl, h1⟩; have HS1 := mk_ h1; clear h1)
  | (go_at_call 53; (with_reducible show Calls _ _ _ V1 _); refine (HC2.out _ _ HS1.out).mono ?_; rintro e V2 ⟨rfl, h1⟩; have HS2 := mk_ h1; clear h1)
  | (go_at_call 54; (with_reducible show Calls _ _ _ V2 _); refine (HC3.out _ _ HS2.out).mono ?_; rintro e V3 ⟨v3, rfl, h1⟩; obtain ⟨A3, c3, rfl, _, _⟩ := h1.row; have HS3 := mk_ h1.s1.s2.s1; clear h1)
  | (go_at_call 55; (with_reducible show Calls _ _ _ V3 _); refine (HC4.out _ _ HS3.out).mono ?_; rintro e V4 ⟨rfl, h1⟩; have HS4 := mk_ h1; clear h1)
  | (go_at_call 52; (with_reducible show Calls _ _ _ V4 _); refine (HC5.out _ _ HS4.out).mono ?_; rintro e V5 ⟨rfl, h1⟩; have HS5 := mk_ h1; clear h1)
  | (go_at_call 56; (with_reducible show Calls _ _ _ V5 _); refine (HC6.out _ _ HS5.out).mono ?_; rintro e V6 ⟨rfl, h1⟩; have HS6 := mk_ h1; clear h1)
  | (go_at_call 52; (with_reducible show Calls _ _ _ V6 _); refine (HC7.out _ _ HS6.out).mono ?_; rintro e V7 ⟨rfl, h1⟩; have HS7 := mk_ h1; clear h1)
  | ((with_reducible refine gate_st (ty := 32) (x := .tmp 3) (y := .tmp 21) rfl ?_); refine wpList_store_row rfl 32 (.tmp 3) (.tmp 21) rfl V7.heap.size #[.int .i64 d_.f0, .int .i64 d_.f1, .slice A3 l3.length c3, .int .i64 t_.f0, .int .i64 t_.f1, .int .i64 t_.f2, .int .i64 n1, .int .i64 n5, .string s6, .int .i64 n7, .slice none 0 0, .slice none 0 0] rfl rfl 32 #[.int .i64 0, .int .i64 0, .slice none 0 0, .int .i64 0, .int .i64 0, .int .i64 0, .int .i64 0, .int .i64 0, .string ⟨#[]⟩, .int .i64 0, .slice none 0 0, .slice none 0 0] (HS7.out.box (.cells #[.int .i64 0, .int .i64 0, .slice none 0 0, .int .i64 0, .int .i64 0, .int .i64 0, .int .i64 0, .int .i64 0, .string ⟨#[]⟩, .int .i64 0, .slice none 0 0, .slice none 0 0] 32 (0, 0))).blk z0_ rfl (by first | decide | rfl | simp [Value.oneCell']) ?_; have HSx := mk_ (sp_storeRow (HS7.out.box (.cells #[.int .i64 0, .int .i64 0, .slice none 0 0, .int .i64 0, .int .i64 0, .int .i64 0, .int .i64 0, .int .i64 0, .string ⟨#[]⟩, .int .i64 0, .slice none 0 0, .slice none 0 0] 32 (0, 0))) #[.int .i64 d_.f0, .int .i64 d_.f1, .slice A3 l3.length c3, .int .i64 t_.f0, .int .i64 t_.f1, .int .i64 t_.f2, .int .i64 n1, .int .i64 n5, .string s6, .int .i64 n7, .slice none 0 0, .slice none 0 0]); have kr0 := blk_cell HSx.out.s1.blk 0; have kr1 := blk_cell HSx.out.s1.blk 1))
  have hSd := HSx.out.drew
  clear kr0 kr1
  refine start_at (n := 16) (S := fun w' => w'.cell? ⟨g, 0, none⟩ = some (.slice A l.length c) ∧ w'.cell? ⟨g, 1, none⟩ = some (.int .i64 at7) ∧ True) (ds := []) (fun W => Sp W (Blk V7.heap.size (.cells #[.int .i64 d_.f0, .int .i64 d_.f1, .slice A3 l3.length c3, .int .i64 t_.f0, .int .i64 t_.f1, .int .i64 t_.f2, .int .i64 n1, .int .i64 n5, .string s6, .int .i64 n7, .slice none 0 0, .slice none 0 0] 32 (0, 0)) :: RdP g A l.length c (at7, true) :: Old w0 :: Row (Kd.int .i64) 3 (.slice A3 l3.length c3) l3 :: Blk w.heap.size (.cells #[.int .i64 0, .int .i64 0, .slice none 0 0, .int .i64 0, .int .i64 0, .int .i64 0, .int .i64 0, .int .i64 0, .string ⟨#[]⟩, .int .i64 0, .slice none 0 0, .slice none 0 0] 32 (0, 0)) :: F)) (Steps.Bs 16 0) z0_ rfl rfl hSd (fun W hJ => ⟨blk_cell hJ.s1.blk 0, blk_cell hJ.s1.blk 1, trivial⟩) (fun W0 hJ => ?_)
  clear hSd HSx
  have hHeld : W0.cell? ⟨g, 0, none⟩ = some (.slice A l.length c) ∧ W0.cell? ⟨g, 1, none⟩ = some (.int .i64 at7) ∧ True := ⟨blk_cell hJ.s1.blk 0, blk_cell hJ.s1.blk 1, trivial⟩
  refine sI 0 23 16 1 ?_
  refine sI 1 24 16 3 ?_
  refine sI 2 25 16 7 ?_
  refine sI 4 27 16 23 ?_
  refine sI 5 28 16 55 ?_
  refine sI 6 29 16 119 ?_
  refine sT hHeld 3 26 16 127 ?_
  refine sT hHeld 7 30 16 255 ?_
  refine one_ (i := 8) (N := some 31) (Steps.Bs 16 511) rfl rfl z0_ z5_ (fun K hK => ?_)
  refine goes_ Try.func57 z0_ rfl #[.slice A l.length c, .int .i64 at7] (by rfl) rfl rfl (by (try simp only [List.map_toArray, List.map_cons, List.map_nil]); first | done | rfl) ?_
  refine (PAll.row_Read.calls 80 A c l at7 vals nx e_ _ (HCL.out _ hJ.s2.old) HLC.out HG.out).mono ?_
  rintro e V8 ⟨v7_, rfl, hr_, hq_⟩
  obtain ⟨A7, c7, rfl⟩ := R_slice hr_
  refine ⟨_, rfl, ?_⟩
  have HS8 := mk_ (Sp.made hJ hq_ hr_)
  clear hr_ hq_ hJ hHeld
  refine hK.out _ _ ⟨blk_cell HS8.out.s2.blk 0, blk_cell HS8.out.s2.blk 1, trivial⟩ (fun _ => ?_)
  clear hK K
  refine nrm 31 ?_
  refine sI 9 22 16 1023 ?_
  refine sI 10 32 16 2047 ?_
  refine sI 11 33 16 4095 ?_
  refine sI 12 34 16 8191 ?_
  refine sI 13 4 16 16383 ?_
  refine sI 14 5 16 32767 ?_
  refine sI 15 6 16 65535 ?_
  refine done_ z0_ ?_
  have ks := blk_cell HS8.out.s2.blk
  have fs := blk_frozen HS8.out.s2.blk
  have kx := blk_cell HS8.out.s1.blk
  have fx := blk_frozen HS8.out.s1.blk
  go_wp2_with (first
  | ((with_reducible refine gate_st (ty := 32) (x := .tmp 2) (y := .tmp 46) rfl ?_); have HSA := mk_ (HS8.out.s2.store 2 (.bool true)); refine wpList_store_row rfl 32 (.tmp 2) (.tmp 46) rfl w.heap.size #[.int .i64 0, .int .i64 0, .slice none 0 0, .int .i64 0, .int .i64 0, .int .i64 0, .int .i64 0, .int .i64 0, .string ⟨#[]⟩, .int .i64 0, .slice none 0 0, .slice none 0 0] rfl rfl 32 #[.int .i64 0, .int .i64 0, .slice none 0 0, .int .i64 0, .int .i64 0, .int .i64 0, .int .i64 0, .int .i64 0, .string ⟨#[]⟩, .int .i64 0, .slice none 0 0, .slice none 0 0] HSA.out.s5.blk z0_ rfl (by first | decide | rfl | simp [Value.oneCell']) ?_))
  refine bodyPost_ret (results_cell_row rfl _ _ w.heap.size 32 #[.int .i64 0, .int .i64 0, .slice none 0 0, .int .i64 0, .int .i64 0, .int .i64 0, .int .i64 0, .int .i64 0, .string ⟨#[]⟩, .int .i64 0, .slice none 0 0, .slice none 0 0] (0, 0) _ rfl (sp_storeRow HSA.out.s5 _).blk Try.underlying32 rfl z0_) rfl ?_
  exact ⟨_, _, _, rfl, sp_nil (sp_nil (sp_nil (((sp_storeRow HSA.out.s5 #[.int .i64 0, .int .i64 0, .slice none 0 0, .int .i64 0, .int .i64 0, .int .i64 0, .int .i64 0, .int .i64 0, .string ⟨#[]⟩, .int .i64 0, .slice none 0 0, .slice none 0 0]).tail.s1.tail.s1.tail.s2.tail : Sp _ (RdP g A l.length c (at7, true) :: Old w0 :: F)))))⟩
 | false =>
  by_cases he : e_ = 0
  rotate_left
  ·
   have hz : rOp l r = (zOp, (at7, true)) := by rw [hu]; unfold rOf; simp [he]
   have hb0 : (e_ == 0) = false := beq_eq_false_iff_ne.2 he
   have hb1 : (e_ != 0) = true := bne_iff_ne.2 he
   have hb2 : decide (e_ = 0) = false := decide_eq_false he
   rw [hz]
   clear hu hz pr he
   go_enter Try.func26, Try.ntmps26
   go_wp2_with (first
  | (go_at_call 52; (with_reducible show Calls _ _ _ (World.alloc w _) _); refine (HC1.out _ _ HS0.out).mono ?_; rintro e V1 ⟨rfl, h1⟩; have HS1 := mk_ h1; clear h1)
  | (go_at_call 53; (with_reducible show Calls _ _ _ V1 _); refine (HC2.out _ _ HS1.out).mono ?_; rintro e V2 ⟨rfl, h1⟩; have HS2 := mk_ h1; clear h1)
  | (go_at_call 54; (with_reducible show Calls _ _ _ V2 _); refine (HC3.out _ _ HS2.out).mono ?_; rintro e V3 ⟨v3, rfl, h1⟩; obtain ⟨A3, c3, rfl, _, _⟩ := h1.row; have HS3 := mk_ h1.s1.s2.s1; clear h1)
  | (go_at_call 55; (with_reducible show Calls _ _ _ V3 _); refine (HC4.out _ _ HS3.out).mono ?_; rintro e V4 ⟨rfl, h1⟩; have HS4 := mk_ h1; clear h1)
  | (go_at_call 52; (with_reducible show Calls _ _ _ V4 _); refine (HC5.out _ _ HS4.out).mono ?_; rintro e V5 ⟨rfl, h1⟩; have HS5 := mk_ h1; clear h1)
  | (go_at_call 56; (with_reducible show Calls _ _ _ V5 _); refine (HC6.out _ _ HS5.out).mono ?_; rintro e V6 ⟨rfl, h1⟩; have HS6 := mk_ h1; clear h1)
  | (go_at_call 52; (with_reducible show Calls _ _ _ V6 _); refine (HC7.out _ _ HS6.out).mono ?_; rintro e V7 ⟨rfl, h1⟩; have HS7 := mk_ h1; clear h1)
  | ((with_reducible refine gate_st (ty := 32) (x := .tmp 3) (y := .tmp 21) rfl ?_); refine wpList_store_row rfl 32 (.tmp 3) (.tmp 21) rfl V7.heap.size #[.int .i64 d_.f0, .int .i64 d_.f1, .slice A3 l3.length c3, .int .i64 t_.f0, .int .i64 t_.f1, .int .i64 t_.f2, .int .i64 n1, .int .i64 n5, .string s6, .int .i64 n7, .slice none 0 0, .slice none 0 0] rfl rfl 32 #[.int .i64 0, .int .i64 0, .slice none 0 0, .int .i64 0, .int .i64 0, .int .i64 0, .int .i64 0, .int .i64 0, .string ⟨#[]⟩, .int .i64 0, .slice none 0 0, .slice none 0 0] (HS7.out.box (.cells #[.int .i64 0, .int .i64 0, .slice none 0 0, .int .i64 0, .int .i64 0, .int .i64 0, .int .i64 0, .int .i64 0, .string ⟨#[]⟩, .int .i64 0, .slice none 0 0, .slice none 0 0] 32 (0, 0))).blk z0_ rfl (by first | decide | rfl | simp [Value.oneCell']) ?_; have HSx := mk_ (sp_storeRow (HS7.out.box (.cells #[.int .i64 0, .int .i64 0, .slice none 0 0, .int .i64 0, .int .i64 0, .int .i64 0, .int .i64 0, .int .i64 0, .string ⟨#[]⟩, .int .i64 0, .slice none 0 0, .slice none 0 0] 32 (0, 0))) #[.int .i64 d_.f0, .int .i64 d_.f1, .slice A3 l3.length c3, .int .i64 t_.f0, .int .i64 t_.f1, .int .i64 t_.f2, .int .i64 n1, .int .i64 n5, .string s6, .int .i64 n7, .slice none 0 0, .slice none 0 0]); have kr0 := blk_cell HSx.out.s1.blk 0; have kr1 := blk_cell HSx.out.s1.blk 1))
   have hSd := HSx.out.drew
   clear kr0 kr1
   refine start_at (n := 16) (S := fun w' => w'.cell? ⟨g, 0, none⟩ = some (.slice A l.length c) ∧ w'.cell? ⟨g, 1, none⟩ = some (.int .i64 at7) ∧ True) (ds := []) (fun W => Sp W (Blk V7.heap.size (.cells #[.int .i64 d_.f0, .int .i64 d_.f1, .slice A3 l3.length c3, .int .i64 t_.f0, .int .i64 t_.f1, .int .i64 t_.f2, .int .i64 n1, .int .i64 n5, .string s6, .int .i64 n7, .slice none 0 0, .slice none 0 0] 32 (0, 0)) :: RdP g A l.length c (at7, false) :: Old w0 :: Row (Kd.int .i64) 3 (.slice A3 l3.length c3) l3 :: Blk w.heap.size (.cells #[.int .i64 0, .int .i64 0, .slice none 0 0, .int .i64 0, .int .i64 0, .int .i64 0, .int .i64 0, .int .i64 0, .string ⟨#[]⟩, .int .i64 0, .slice none 0 0, .slice none 0 0] 32 (0, 0)) :: F)) (Steps.Bs 16 0) z0_ rfl rfl hSd (fun W hJ => ⟨blk_cell hJ.s1.blk 0, blk_cell hJ.s1.blk 1, trivial⟩) (fun W0 hJ => ?_)
   clear hSd HSx
   have hHeld : W0.cell? ⟨g, 0, none⟩ = some (.slice A l.length c) ∧ W0.cell? ⟨g, 1, none⟩ = some (.int .i64 at7) ∧ True := ⟨blk_cell hJ.s1.blk 0, blk_cell hJ.s1.blk 1, trivial⟩
   refine sI 0 23 16 1 ?_
   refine sI 1 24 16 3 ?_
   refine sI 2 25 16 7 ?_
   refine sI 4 27 16 23 ?_
   refine sI 5 28 16 55 ?_
   refine sI 6 29 16 119 ?_
   refine sT hHeld 3 26 16 127 ?_
   refine sT hHeld 7 30 16 255 ?_
   refine one_ (i := 8) (N := some 31) (Steps.Bs 16 511) rfl rfl z0_ z5_ (fun K hK => ?_)
   refine goes_ Try.func57 z0_ rfl #[.slice A l.length c, .int .i64 at7] (by rfl) rfl rfl (by (try simp only [List.map_toArray, List.map_cons, List.map_nil]); first | done | rfl) ?_
   refine (PAll.row_Read.calls 80 A c l at7 vals nx e_ _ (HCL.out _ hJ.s2.old) HLC.out HG.out).mono ?_
   rintro e V8 ⟨v7_, rfl, hr_, hq_⟩
   obtain ⟨A7, c7, rfl⟩ := R_slice hr_
   refine ⟨_, rfl, ?_⟩
   have HS8 := mk_ (Sp.made hJ hq_ hr_)
   clear hr_ hq_ hJ hHeld
   refine hK.out _ _ ⟨blk_cell HS8.out.s2.blk 0, blk_cell HS8.out.s2.blk 1, trivial⟩ (fun _ => ?_)
   clear hK K
   refine nrm 31 ?_
   refine sI 9 22 16 1023 ?_
   refine sI 10 32 16 2047 ?_
   refine sI 11 33 16 4095 ?_
   refine sI 12 34 16 8191 ?_
   refine sI 13 4 16 16383 ?_
   refine sI 14 5 16 32767 ?_
   refine sI 15 6 16 65535 ?_
   refine done_ z0_ ?_
   have ks := blk_cell HS8.out.s2.blk
   have fs := blk_frozen HS8.out.s2.blk
   have kx := blk_cell HS8.out.s1.blk
   have fx := blk_frozen HS8.out.s1.blk
   go_wp2_with (first
  | ((with_reducible refine gate_st (ty := 32) (x := .tmp 2) (y := .tmp 46) rfl ?_); have HSA := mk_ (HS8.out.s2.store 2 (.bool true)); refine wpList_store_row rfl 32 (.tmp 2) (.tmp 46) rfl w.heap.size #[.int .i64 0, .int .i64 0, .slice none 0 0, .int .i64 0, .int .i64 0, .int .i64 0, .int .i64 0, .int .i64 0, .string ⟨#[]⟩, .int .i64 0, .slice none 0 0, .slice none 0 0] rfl rfl 32 #[.int .i64 0, .int .i64 0, .slice none 0 0, .int .i64 0, .int .i64 0, .int .i64 0, .int .i64 0, .int .i64 0, .string ⟨#[]⟩, .int .i64 0, .slice none 0 0, .slice none 0 0] HSA.out.s5.blk z0_ rfl (by first | decide | rfl | simp [Value.oneCell']) ?_))
   refine bodyPost_ret (results_cell_row rfl _ _ w.heap.size 32 #[.int .i64 0, .int .i64 0, .slice none 0 0, .int .i64 0, .int .i64 0, .int .i64 0, .int .i64 0, .int .i64 0, .string ⟨#[]⟩, .int .i64 0, .slice none 0 0, .slice none 0 0] (0, 0) _ rfl (sp_storeRow HSA.out.s5 _).blk Try.underlying32 rfl z0_) rfl ?_
   exact ⟨_, _, _, rfl, sp_nil (sp_nil (sp_nil (((sp_storeRow HSA.out.s5 #[.int .i64 0, .int .i64 0, .slice none 0 0, .int .i64 0, .int .i64 0, .int .i64 0, .int .i64 0, .int .i64 0, .string ⟨#[]⟩, .int .i64 0, .slice none 0 0, .slice none 0 0]).tail.s1.tail.s1.tail.s2.tail : Sp _ (RdP g A l.length c (at7, true) :: Old w0 :: F)))))⟩
  ·
   subst he
   have hz : rOf ([] : List V) (vals, nx, 0) (at7, false) = (vals, (nx, false)) := by unfold rOf; simp
   rw [hz] at hu pr
   rw [if_neg (by show ¬ (false = true); decide)] at hu
   rw [hu]
   dsimp only at pr ⊢
   clear hu hz
   have hq : rDots l (nx, false) = rTimes rDot l (rMany 1 64 l (nx, false)).1.toNat [] (rMany 1 64 l (nx, false)).2 := rfl
   have pm := HPM.out (nx, false) pr
   have HQ := mk_ (fun V F' hv => HCM.out V F' (nx, false) pr hv)
   have hle : (rMany 1 64 l (nx, false)).1 ≤ 64 := by unfold rMany; split <;> omega
   rw [hq]
   clear hq pr
   generalize rMany 1 64 l (nx, false) = q9 at *
   obtain ⟨m, r9⟩ := q9
   dsimp only at HQ pm hle ⊢
   have HLE := mk_ hle
   have HT : Aside0 (∀ i, rAt l (rTimes rDot l i [] r9).2) := ⟨fun i => rAt_times (fun r h => HPD.out r h) i [] _ pm⟩
   clear hle pm HPM HPD HCM
   go_enter Try.func26, Try.ntmps26
   go_wp2_with (first
  | (go_at_call 52; (with_reducible show Calls _ _ _ (World.alloc w _) _); refine (HC1.out _ _ HS0.out).mono ?_; rintro e V1 ⟨rfl, h1⟩; have HS1 := mk_ h1; clear h1)
  | (go_at_call 53; (with_reducible show Calls _ _ _ V1 _); refine (HC2.out _ _ HS1.out).mono ?_; rintro e V2 ⟨rfl, h1⟩; have HS2 := mk_ h1; clear h1)
  | (go_at_call 54; (with_reducible show Calls _ _ _ V2 _); refine (HC3.out _ _ HS2.out).mono ?_; rintro e V3 ⟨v3, rfl, h1⟩; obtain ⟨A3, c3, rfl, _, _⟩ := h1.row; have HS3 := mk_ h1.s1.s2.s1; clear h1)
  | (go_at_call 55; (with_reducible show Calls _ _ _ V3 _); refine (HC4.out _ _ HS3.out).mono ?_; rintro e V4 ⟨rfl, h1⟩; have HS4 := mk_ h1; clear h1)
  | (go_at_call 52; (with_reducible show Calls _ _ _ V4 _); refine (HC5.out _ _ HS4.out).mono ?_; rintro e V5 ⟨rfl, h1⟩; have HS5 := mk_ h1; clear h1)
  | (go_at_call 56; (with_reducible show Calls _ _ _ V5 _); refine (HC6.out _ _ HS5.out).mono ?_; rintro e V6 ⟨rfl, h1⟩; have HS6 := mk_ h1; clear h1)
  | (go_at_call 52; (with_reducible show Calls _ _ _ V6 _); refine (HC7.out _ _ HS6.out).mono ?_; rintro e V7 ⟨rfl, h1⟩; have HS7 := mk_ h1; clear h1)
  | ((with_reducible refine gate_st (ty := 32) (x := .tmp 3) (y := .tmp 21) rfl ?_); refine wpList_store_row rfl 32 (.tmp 3) (.tmp 21) rfl V7.heap.size #[.int .i64 d_.f0, .int .i64 d_.f1, .slice A3 l3.length c3, .int .i64 t_.f0, .int .i64 t_.f1, .int .i64 t_.f2, .int .i64 n1, .int .i64 n5, .string s6, .int .i64 n7, .slice none 0 0, .slice none 0 0] rfl rfl 32 #[.int .i64 0, .int .i64 0, .slice none 0 0, .int .i64 0, .int .i64 0, .int .i64 0, .int .i64 0, .int .i64 0, .string ⟨#[]⟩, .int .i64 0, .slice none 0 0, .slice none 0 0] (HS7.out.box (.cells #[.int .i64 0, .int .i64 0, .slice none 0 0, .int .i64 0, .int .i64 0, .int .i64 0, .int .i64 0, .int .i64 0, .string ⟨#[]⟩, .int .i64 0, .slice none 0 0, .slice none 0 0] 32 (0, 0))).blk z0_ rfl (by first | decide | rfl | simp [Value.oneCell']) ?_; have HSx := mk_ (sp_storeRow (HS7.out.box (.cells #[.int .i64 0, .int .i64 0, .slice none 0 0, .int .i64 0, .int .i64 0, .int .i64 0, .int .i64 0, .int .i64 0, .string ⟨#[]⟩, .int .i64 0, .slice none 0 0, .slice none 0 0] 32 (0, 0))) #[.int .i64 d_.f0, .int .i64 d_.f1, .slice A3 l3.length c3, .int .i64 t_.f0, .int .i64 t_.f1, .int .i64 t_.f2, .int .i64 n1, .int .i64 n5, .string s6, .int .i64 n7, .slice none 0 0, .slice none 0 0]); have kr0 := blk_cell HSx.out.s1.blk 0; have kr1 := blk_cell HSx.out.s1.blk 1))
   have hSd := HSx.out.drew
   clear kr0 kr1
   refine start_at (n := 16) (S := fun w' => w'.cell? ⟨g, 0, none⟩ = some (.slice A l.length c) ∧ w'.cell? ⟨g, 1, none⟩ = some (.int .i64 at7) ∧ True) (ds := []) (fun W => Sp W (Blk V7.heap.size (.cells #[.int .i64 d_.f0, .int .i64 d_.f1, .slice A3 l3.length c3, .int .i64 t_.f0, .int .i64 t_.f1, .int .i64 t_.f2, .int .i64 n1, .int .i64 n5, .string s6, .int .i64 n7, .slice none 0 0, .slice none 0 0] 32 (0, 0)) :: RdP g A l.length c (at7, false) :: Old w0 :: Row (Kd.int .i64) 3 (.slice A3 l3.length c3) l3 :: Blk w.heap.size (.cells #[.int .i64 0, .int .i64 0, .slice none 0 0, .int .i64 0, .int .i64 0, .int .i64 0, .int .i64 0, .int .i64 0, .string ⟨#[]⟩, .int .i64 0, .slice none 0 0, .slice none 0 0] 32 (0, 0)) :: F)) (Steps.Bs 16 0) z0_ rfl rfl hSd (fun W hJ => ⟨blk_cell hJ.s1.blk 0, blk_cell hJ.s1.blk 1, trivial⟩) (fun W0 hJ => ?_)
   clear hSd HSx
   have hHeld : W0.cell? ⟨g, 0, none⟩ = some (.slice A l.length c) ∧ W0.cell? ⟨g, 1, none⟩ = some (.int .i64 at7) ∧ True := ⟨blk_cell hJ.s1.blk 0, blk_cell hJ.s1.blk 1, trivial⟩
   refine sI 0 23 16 1 ?_
   refine sI 1 24 16 3 ?_
   refine sI 2 25 16 7 ?_
   refine sI 4 27 16 23 ?_
   refine sI 5 28 16 55 ?_
   refine sI 6 29 16 119 ?_
   refine sT hHeld 3 26 16 127 ?_
   refine sT hHeld 7 30 16 255 ?_
   refine one_ (i := 8) (N := some 31) (Steps.Bs 16 511) rfl rfl z0_ z5_ (fun K hK => ?_)
   refine goes_ Try.func57 z0_ rfl #[.slice A l.length c, .int .i64 at7] (by rfl) rfl rfl (by (try simp only [List.map_toArray, List.map_cons, List.map_nil]); first | done | rfl) ?_
   refine (PAll.row_Read.calls 80 A c l at7 vals nx 0 _ (HCL.out _ hJ.s2.old) HLC.out HG.out).mono ?_
   rintro e V8 ⟨v7_, rfl, hr_, hq_⟩
   obtain ⟨A7, c7, rfl⟩ := R_slice hr_
   refine ⟨_, rfl, ?_⟩
   have HS8 := mk_ (Sp.made hJ hq_ hr_)
   clear hr_ hq_ hJ hHeld
   refine hK.out _ _ ⟨blk_cell HS8.out.s2.blk 0, blk_cell HS8.out.s2.blk 1, trivial⟩ (fun _ => ?_)
   clear hK K
   refine nrm 31 ?_
   refine sI 9 22 16 1023 ?_
   refine sI 10 32 16 2047 ?_
   refine sI 11 33 16 4095 ?_
   refine sI 12 34 16 8191 ?_
   refine sI 13 4 16 16383 ?_
   refine sI 14 5 16 32767 ?_
   refine sI 15 6 16 65535 ?_
   refine done_ z0_ ?_
   have ks := blk_cell HS8.out.s2.blk
   have fs := blk_frozen HS8.out.s2.blk
   have kx := blk_cell HS8.out.s1.blk
   have fx := blk_frozen HS8.out.s1.blk
   go_wp2_with (first
  | (go_at_call 58; refine (HQ.out _ _ (((HS8.out.s1.store 10 (.slice A7 vals.length c7)).s2.store 1 (.int .i64 nx)).s3.s1)).mono ?_; rintro e V9 ⟨rfl, h1⟩; have HS9 := mk_ h1; clear h1))
   go_loopg [55] (m.toNat + 1) (fun kq v55 W' => ∃ (i : Nat) (v8 : Value), v55 = .int .i64 (i : Int) ∧ Aside0 (Sp W' (Row k25 25 v8 (rTimes rDot l i [] r9).1 :: RdP g A l.length c (rTimes rDot l i [] r9).2 :: Old w0 :: Blk V7.heap.size (.cells #[.int .i64 d_.f0, .int .i64 d_.f1, .slice A3 l3.length c3, .int .i64 t_.f0, .int .i64 t_.f1, .int .i64 t_.f2, .int .i64 n1, .int .i64 n5, .string s6, .int .i64 n7, .slice A7 vals.length c7, v8] 32 (0, 0)) :: Row k84 84 (.slice A7 vals.length c7) vals :: Row (Kd.int .i64) 3 (.slice A3 l3.length c3) l3 :: Blk w.heap.size (.cells #[.int .i64 0, .int .i64 0, .slice none 0 0, .int .i64 0, .int .i64 0, .int .i64 0, .int .i64 0, .int .i64 0, .string ⟨#[]⟩, .int .i64 0, .slice none 0 0, .slice none 0 0] 32 (0, 0)) :: F)) ∧ Aside0 (kq + i = m.toNat + 1 ∧ i ≤ m.toNat))
   case atStart => exact ⟨0, .slice none 0 0, rfl, ⟨sp_nil HS9.out⟩, ⟨by omega⟩⟩
   case round =>
    obtain ⟨i, v8, rfl, HA, HK⟩ := hrel
    obtain ⟨k1, rfl⟩ : ∃ k1, gk = k1 + 1 := ⟨gk - 1, by have := HK.out; omega⟩
    by_cases hi : (i : Int) < m
    ·
     have hb2 : decide ((i : Int) < m) = true := decide_eq_true hi
     have HI := mk_ hi
     have HX := mk_ (times_snoc rDot l i [] r9)
     have HTi := mk_ (HT.out i)
     have HTL : Aside0 ((rTimes rDot l i [] r9).1.length = i) := ⟨by rw [times_len]; simp⟩
     clear hi HT
     generalize rTimes rDot l i [] r9 = tt at *
     obtain ⟨xs, ri⟩ := tt
     dsimp only at HA HX HTi HTL
     have HQD := mk_ (fun V F' hv => HCD.out V F' ri HTi.out hv)
     clear HCD
     generalize rDot l ri = qd at *
     obtain ⟨p, rj⟩ := qd
     dsimp only at HQD HX
     obtain ⟨A8, c8, rfl, _, _⟩ := HA.out.row
     have k11 := blk_cell HA.out.s3.blk 11
     have hSd := HA.out.drew
     go_wp2
     refine start_ (n := 8) (S := fun w' => w'.cell? ⟨V7.heap.size, 11, none⟩ = some (.slice A8 xs.length c8) ∧ True) (ds := [7]) (Steps.Bs 8 0) z0_ rfl rfl ⟨k11, trivial⟩ (fun hHeld => ?_)
     generalize World.drew _ = W at hSd hHeld ⊢
     clear k11 HA
     refine sI 0 57 8 1 ?_
     refine sI 2 59 8 5 ?_
     refine sT hHeld 1 58 8 7 ?_
     refine one_ (i := 3) (N := some 60) (Steps.Bs 8 15) rfl rfl z0_ z5_ (fun K hK => ?_)
     refine goes_ Try.func53 z0_ rfl #[.pointer (some ⟨g, 0, none⟩)] (by rfl) rfl rfl (by (try simp only [List.map_toArray, List.map_cons, List.map_nil]); first | done | rfl) ?_
     refine (HQD.out _ _ hSd.s1.s2.s1).mono ?_
     rintro e W2 ⟨rfl, h1⟩
     refine ⟨_, rfl, ?_⟩
     have hHeld1 : W2.cell? ⟨V7.heap.size, 11, none⟩ = some (.slice A8 xs.length c8) := blk_cell h1.s3.blk 11
     have HS3 := mk_ (Sp.s1 (sp_el (d := k25) (p := p) (cs := [.int .i64 p.f0, .int .i64 p.f1]) (fun W ok => k25_mkM W 0 ok p) h1.s2))
     clear hHeld hSd h1
     refine hK.out _ _ ⟨hHeld1, trivial⟩ (fun _ => ?_)
     clear hK K
     refine nrm 60 ?_
     refine one_ (i := 4) (N := some 61) (Steps.Bs 8 31) rfl rfl z0_ z5_ (fun K hK => ?_)
     refine value_ (w1 := ?_) (v := ?_) (by rfl) rfl ?_ ?_
     rotate_left 2
     ·
      go_simp
      constructor
      ·
       rfl
      ·
       rfl
     refine hK.out _ _ ⟨(Below.cell (below_alloc (Below.refl _ _) _) (World.block_lt_of_cell? W2 _ hHeld1)).trans hHeld1, trivial⟩ (fun _ => ?_)
     clear hK K
     refine nrm 61 ?_
     refine one_ (i := 5) (N := some 62) (Steps.Bs 8 63) rfl rfl z0_ z5_ (fun K hK => ?_)
     refine Sp.append_step k25 (W := W2) (by rfl) (.tmp 58) (.tmp 61) 30 25 (.agg #[.int .i64 0, .int .i64 0]) 16 rfl Try.underlying30 z0_ rfl z5_ z3_ (.slice A8 xs.length c8) xs p [.int .i64 p.f0, .int .i64 p.f1] rfl rfl HS3.out (by have := HTL.out; have := HI.out; have := HLE.out; omega) ?_
     intro v9 w1 hS4
     have HS4 := mk_ hS4
     have hg1 := hS4.s3.blk
     obtain ⟨A9, c9, rfl, _, _⟩ := hS4.row
     clear hS4
     refine hK.out _ _ ⟨blk_cell hg1 11, trivial⟩ (fun _ => ?_)
     clear hK K
     refine nrm 62 ?_
     refine sI 6 63 8 127 ?_
     refine last_ (i := 7) (N := none) (Steps.Bs 8 255) rfl rfl z0_ z5_ (fun K hK => ?_)
     have hc0 := blk_cell hg1 11
     have hf0 := blk_frozen hg1 11
     refine skip_ (w1 := ?_) (by rfl) rfl ?_ ?_
     rotate_left
     ·
      go_simp
      rfl
     refine hK.out _ _ ?_
     clear hK K
     refine done_ z0_ ?_
     have h5 := (HS4.out.s3.store 11 (.slice A9 (xs ++ [p]).length c9)).s3.s3.s3
     rw [show (xs ++ [p]).length = xs.length + 1 by simp] at h5
     have HS5 := mk_ h5
     clear h5
     clear hc0 hf0 hg1 HS3 HS4 hHeld1
     go_wp2
     go_roundg k1
     case measure => exact Nat.lt_succ_self _
     case rel => exact ⟨i + 1, .slice A9 (xs.length + 1) c9, by rw [w64 z3_ (by have := HI.out; have := HLE.out; omega)]; rfl, ⟨by rw [HX.out]; exact HS5.out⟩, ⟨by have := HK.out; omega, by have := HI.out; omega⟩⟩
    ·
     have hb2 : decide ((i : Int) < m) = false := decide_eq_false hi
     have hie : i = m.toNat := by have := HK.out; omega
     clear hi
     obtain ⟨A8, c8, rfl, _, _⟩ := HA.out.row
     have kx := blk_cell HA.out.s3.blk
     subst hie
     go_wp2_with ((with_reducible refine gate_st (ty := 32) (x := .tmp 2) (y := .tmp 65) rfl ?_); refine wpList_store_row rfl 32 (.tmp 2) (.tmp 65) rfl w.heap.size #[.int .i64 d_.f0, .int .i64 d_.f1, .slice A3 l3.length c3, .int .i64 t_.f0, .int .i64 t_.f1, .int .i64 t_.f2, .int .i64 n1, .int .i64 n5, .string s6, .int .i64 n7, .slice A7 vals.length c7, .slice A8 (rTimes rDot l m.toNat [] r9).1.length c8] rfl rfl 32 #[.int .i64 0, .int .i64 0, .slice none 0 0, .int .i64 0, .int .i64 0, .int .i64 0, .int .i64 0, .int .i64 0, .string ⟨#[]⟩, .int .i64 0, .slice none 0 0, .slice none 0 0] (HA.out.s3.tail.s5.blk) z0_ rfl (by first | decide | rfl | simp [Value.oneCell']) ?_)
     refine bodyPost_ret (results_cell_row rfl _ _ w.heap.size 32 #[.int .i64 d_.f0, .int .i64 d_.f1, .slice A3 l3.length c3, .int .i64 t_.f0, .int .i64 t_.f1, .int .i64 t_.f2, .int .i64 n1, .int .i64 n5, .string s6, .int .i64 n7, .slice A7 vals.length c7, .slice A8 (rTimes rDot l m.toNat [] r9).1.length c8] (0, 0) _ rfl (sp_storeRow HA.out.s3.tail.s5 _).blk Try.underlying32 rfl z0_) rfl ?_
     exact ⟨_, _, _, rfl, (sp_storeRow HA.out.s3.tail.s5 #[.int .i64 d_.f0, .int .i64 d_.f1, .slice A3 l3.length c3, .int .i64 t_.f0, .int .i64 t_.f1, .int .i64 t_.f2, .int .i64 n1, .int .i64 n5, .string s6, .int .i64 n7, .slice A7 vals.length c7, .slice A8 (rTimes rDot l m.toNat [] r9).1.length c8]).tail.s3.s4⟩
end
end Go.Proofs.Ytjnjfogfpmeacaa.Ops
end
section
namespace Go.Proofs.Ytjnjfogfpmeacaa.Ops
open Go.RowKit PAll Plain PrintWords PrintLast PrintMore Go.Proofs.Ytjnjfogfpmeacaa.Sep ZipT PrintWords.Kd PrintMore.Kd
set_option linter.unusedVariables false
set_option linter.unusedSimpArgs false
theorem Sp.frame {w w' : World} {F X : List Part} (h : Sp w F) (h' : Sp w' (X ++ [Old w])) : Sp w' (X ++ F) := by
 obtain ⟨ok, h1, h2, ok2, h3, h4, _⟩ := Sep.split h'
 refine Sep.app h2 (Sep.moved (Moved.of_below h4.2 (fun _ => False)) h (fun _ _ _ e => e)) h1 (fun k hk => Nat.lt_of_lt_of_le hk h4.2.size) (fun k hk hw => ?_)
 exact (h3 k (h4.1 k hw)).2 hk
section
variable {P : Program} {ops : Array Oper} {o : Oper} {a : Act} {Q : Exit → Act → World → Prop} {Kc : Act → World → Prop}
theorem store_row_step {W : World} (hw : Region.wanted o (yielded ops a.tmps) = true) (ty : TypeId) (x y : Operand) (ho : o.op = .store ty x y)
  (g : Nat) (cells : Array Value) (hx : a.eval x = .pointer (some ⟨g, 0, none⟩)) (hy : a.eval y = .agg cells)
  (t : TypeId) (old : Array Value) (hg : W.heap[g]? = some (.cells old t (0, 0))) (hi : (P.info? ty).map (·.size) = some cells.size)
  (hold : old.size = cells.size) (h1 : cells.all (·.oneCell') = true) (h : Kc (a.put o.dst undef) (W.setRow g cells)) :
  if Region.wanted o (yielded ops a.tmps) = true then Oper.wp P o a W Kc Q else Kc (a.put o.dst undef) W := by
 rw [if_pos hw]
 exact wp_store_row ty x y ho g cells hx hy t old hg hi hold h1 h
end
section
variable {w : World} {A : Option Addr} {c : Nat} {l : List Int}
theorem read_sp (hC0 : Kd.C (Kd.int .u8) w A l.length l) (hlc : l.length ≤ c) (hb : Bytes l) (hl : l.length ≤ 1000000) (a1 : Int) :
  Calls Try.prog 11 #[.slice A l.length c, .int .i64 a1] w fun e w' => ∃ v1 v7 v8, e = .returned (.tuple #[.agg #[.int .i64 (sOpRead l a1).1.f0.f0, .int .i64 (sOpRead l a1).1.f0.f1, v1, .int .i64 (sOpRead l a1).1.f2.f0, .int .i64 (sOpRead l a1).1.f2.f1, .int .i64 (sOpRead l a1).1.f2.f2, .int .i64 (sOpRead l a1).1.f3, .int .i64 (sOpRead l a1).1.f4, .string (sOpRead l a1).1.f5, .int .i64 (sOpRead l a1).1.f6, v7, v8], .int .i64 (sOpRead l a1).2.1, .int .i64 (sOpRead l a1).2.2]) ∧
   Sp w' [Row (Kd.int .i64) 3 v1 (sOpRead l a1).1.f1, Row k84 84 v7 (sOpRead l a1).1.f7, Row k25 25 v8 (sOpRead l a1).1.f8, Old w] := by
 have h0 := Sp.start w
 have h1 := h0.box (.cells #[.int .i64 0, .int .i64 0, .slice none 0 0, .int .i64 0, .int .i64 0, .int .i64 0, .int .i64 0, .int .i64 0, .string ⟨#[]⟩, .int .i64 0, .slice none 0 0, .slice none 0 0] 32 (0, 0))
 by_cases ha : a1 < 0
 ·
  have hd1 : decide (a1 < 0) = true := decide_eq_true ha
  have hz : sOpRead l a1 = (zOp, 0, 1) := by unfold sOpRead; rw [if_pos (.inl ha)]
  rw [hz]
  have HS1 := mk_ h1
  clear h0 h1 hz hC0 hb
  go_enter Try.func11, Try.ntmps11
  go_wp2_with (((with_reducible refine gate_st (ty := 32) (x := .tmp 4) (y := .tmp 16) rfl ?_); refine wpList_store_row rfl 32 (.tmp 4) (.tmp 16) rfl w.heap.size #[.int .i64 0, .int .i64 0, .slice none 0 0, .int .i64 0, .int .i64 0, .int .i64 0, .int .i64 0, .int .i64 0, .string ⟨#[]⟩, .int .i64 0, .slice none 0 0, .slice none 0 0] rfl rfl 32 #[.int .i64 0, .int .i64 0, .slice none 0 0, .int .i64 0, .int .i64 0, .int .i64 0, .int .i64 0, .int .i64 0, .string ⟨#[]⟩, .int .i64 0, .slice none 0 0, .slice none 0 0] HS1.out.blk z0_ rfl (by first | decide | rfl | simp [Value.oneCell']) ?_))
  refine bodyPost_ret (results_ctt rfl _ _ w.heap.size 32 #[.int .i64 0, .int .i64 0, .slice none 0 0, .int .i64 0, .int .i64 0, .int .i64 0, .int .i64 0, .int .i64 0, .string ⟨#[]⟩, .int .i64 0, .slice none 0 0, .slice none 0 0] (0, 0) _ rfl (sp_storeRow HS1.out _).blk Try.underlying32 rfl z0_) rfl ?_
  exact ⟨_, _, _, rfl, sp_nil (sp_nil (sp_nil ((sp_storeRow HS1.out #[.int .i64 0, .int .i64 0, .slice none 0 0, .int .i64 0, .int .i64 0, .int .i64 0, .int .i64 0, .int .i64 0, .string ⟨#[]⟩, .int .i64 0, .slice none 0 0, .slice none 0 0]).tail)))⟩
 have hd1 : decide (a1 < 0) = false := decide_eq_false ha
 by_cases hn : a1 > l.length
 ·
  have hd2 : decide ((l.length : Int) < a1) = true := decide_eq_true hn
  have hz : sOpRead l a1 = (zOp, 0, 1) := by unfold sOpRead; rw [if_pos (.inr hn)]
  rw [hz]
  have HS1 := mk_ h1
  clear h0 h1 hz hC0 hb
  go_enter Try.func11, Try.ntmps11
  go_wp2_with (((with_reducible refine gate_st (ty := 32) (x := .tmp 4) (y := .tmp 16) rfl ?_); refine wpList_store_row rfl 32 (.tmp 4) (.tmp 16) rfl w.heap.size #[.int .i64 0, .int .i64 0, .slice none 0 0, .int .i64 0, .int .i64 0, .int .i64 0, .int .i64 0, .int .i64 0, .string ⟨#[]⟩, .int .i64 0, .slice none 0 0, .slice none 0 0] rfl rfl 32 #[.int .i64 0, .int .i64 0, .slice none 0 0, .int .i64 0, .int .i64 0, .int .i64 0, .int .i64 0, .int .i64 0, .string ⟨#[]⟩, .int .i64 0, .slice none 0 0, .slice none 0 0] HS1.out.blk z0_ rfl (by first | decide | rfl | simp [Value.oneCell']) ?_))
  refine bodyPost_ret (results_ctt rfl _ _ w.heap.size 32 #[.int .i64 0, .int .i64 0, .slice none 0 0, .int .i64 0, .int .i64 0, .int .i64 0, .int .i64 0, .int .i64 0, .string ⟨#[]⟩, .int .i64 0, .slice none 0 0, .slice none 0 0] (0, 0) _ rfl (sp_storeRow HS1.out _).blk Try.underlying32 rfl z0_) rfl ?_
  exact ⟨_, _, _, rfl, sp_nil (sp_nil (sp_nil ((sp_storeRow HS1.out #[.int .i64 0, .int .i64 0, .slice none 0 0, .int .i64 0, .int .i64 0, .int .i64 0, .int .i64 0, .int .i64 0, .string ⟨#[]⟩, .int .i64 0, .slice none 0 0, .slice none 0 0]).tail)))⟩
 have hd2 : decide ((l.length : Int) < a1) = false := decide_eq_false hn
 have hp : rAt l (a1, false) := ⟨by show 0 ≤ a1; omega, by show a1 ≤ _; omega⟩
 have hu : sOpRead l a1 = if (rOp l (a1, false)).2.2 = true then (zOp, 0, 3) else ((rOp l (a1, false)).1, (rOp l (a1, false)).2.1, 0) := by unfold sOpRead; rw [if_neg (fun e => e.elim ha hn)]
 have h2 := h1.box (.cells #[.slice A l.length c, .int .i64 a1, .bool false] 61 (0, 0))
 rw [show (w.alloc (.cells #[.int .i64 0, .int .i64 0, .slice none 0 0, .int .i64 0, .int .i64 0, .int .i64 0, .int .i64 0, .int .i64 0, .string ⟨#[]⟩, .int .i64 0, .slice none 0 0, .slice none 0 0] 32 (0, 0))).heap.size = w.heap.size + 1 from Array.size_push _] at h2
 have hQ := rop_calls (w0 := w) hC0 hlc hb hl (a1, false) hp (show Sp _ (RdP (w.heap.size + 1) A l.length c (a1, false) :: Old w :: [Blk w.heap.size (.cells #[.int .i64 0, .int .i64 0, .slice none 0 0, .int .i64 0, .int .i64 0, .int .i64 0, .int .i64 0, .int .i64 0, .string ⟨#[]⟩, .int .i64 0, .slice none 0 0, .slice none 0 0] 32 (0, 0))]) from h2.s2.s1)
 rw [hu]
 clear hu h0 h1 h2 hC0 hb hp
 generalize rOp l (a1, false) = q at hQ ⊢
 obtain ⟨x, at2, bad2⟩ := q
 dsimp only at hQ ⊢
 have HQ := mk_ hQ
 clear hQ ha hn
 cases bad2 with
 | true =>
  rw [if_pos rfl]
  go_enter Try.func11, Try.ntmps11
  go_wp2_with (first | (go_at_call 26; refine HQ.out.mono ?_; rintro e V ⟨v1, v7, v8, rfl, h⟩; obtain ⟨A1, c1, rfl, _, _⟩ := h.row; obtain ⟨A7, c7, rfl, _, _⟩ := h.tail.row; obtain ⟨A8, c8, rfl, _, _⟩ := h.tail.tail.row; have HS3 := mk_ h; clear h) | ((with_reducible refine gate_st (ty := 32) (x := .tmp 4) (y := .tmp 22) rfl ?_); refine wpList_store_row rfl 32 (.tmp 4) (.tmp 22) rfl w.heap.size #[.int .i64 x.f0.f0, .int .i64 x.f0.f1, .slice A1 x.f1.length c1, .int .i64 x.f2.f0, .int .i64 x.f2.f1, .int .i64 x.f2.f2, .int .i64 x.f3, .int .i64 x.f4, .string x.f5, .int .i64 x.f6, .slice A7 x.f7.length c7, .slice A8 x.f8.length c8] rfl rfl 32 #[.int .i64 0, .int .i64 0, .slice none 0 0, .int .i64 0, .int .i64 0, .int .i64 0, .int .i64 0, .int .i64 0, .string ⟨#[]⟩, .int .i64 0, .slice none 0 0, .slice none 0 0] HS3.out.s5.blk z0_ rfl (by first | decide | rfl | simp [Value.oneCell']) ?_; have HS4 := mk_ (sp_storeRow HS3.out.s5 #[.int .i64 x.f0.f0, .int .i64 x.f0.f1, .slice A1 x.f1.length c1, .int .i64 x.f2.f0, .int .i64 x.f2.f1, .int .i64 x.f2.f2, .int .i64 x.f3, .int .i64 x.f4, .string x.f5, .int .i64 x.f6, .slice A7 x.f7.length c7, .slice A8 x.f8.length c8]); have kr := blk_cell HS4.out.s4.blk; have kx := blk_cell HS4.out.blk) | ((with_reducible refine gate_st (ty := 32) (x := .tmp 4) (y := .tmp 27) rfl ?_); refine wpList_store_row rfl 32 (.tmp 4) (.tmp 27) rfl w.heap.size #[.int .i64 0, .int .i64 0, .slice none 0 0, .int .i64 0, .int .i64 0, .int .i64 0, .int .i64 0, .int .i64 0, .string ⟨#[]⟩, .int .i64 0, .slice none 0 0, .slice none 0 0] rfl rfl 32 #[.int .i64 x.f0.f0, .int .i64 x.f0.f1, .slice A1 x.f1.length c1, .int .i64 x.f2.f0, .int .i64 x.f2.f1, .int .i64 x.f2.f2, .int .i64 x.f3, .int .i64 x.f4, .string x.f5, .int .i64 x.f6, .slice A7 x.f7.length c7, .slice A8 x.f8.length c8] HS4.out.blk z0_ rfl (by first | decide | rfl | simp [Value.oneCell']) ?_))
  refine bodyPost_ret (results_ctt rfl _ _ w.heap.size 32 #[.int .i64 0, .int .i64 0, .slice none 0 0, .int .i64 0, .int .i64 0, .int .i64 0, .int .i64 0, .int .i64 0, .string ⟨#[]⟩, .int .i64 0, .slice none 0 0, .slice none 0 0] (0, 0) _ rfl (sp_storeRow HS4.out _).blk Try.underlying32 rfl z0_) rfl ?_
  exact ⟨_, _, _, rfl, sp_nil (sp_nil (sp_nil ((sp_storeRow HS4.out #[.int .i64 0, .int .i64 0, .slice none 0 0, .int .i64 0, .int .i64 0, .int .i64 0, .int .i64 0, .int .i64 0, .string ⟨#[]⟩, .int .i64 0, .slice none 0 0, .slice none 0 0]).tail.tail.tail.tail.tail)))⟩
 | false =>
  rw [if_neg (by show ¬ (false = true); decide)]
  go_enter Try.func11, Try.ntmps11
  go_wp2_with (first | (go_at_call 26; refine HQ.out.mono ?_; rintro e V ⟨v1, v7, v8, rfl, h⟩; obtain ⟨A1, c1, rfl, _, _⟩ := h.row; obtain ⟨A7, c7, rfl, _, _⟩ := h.tail.row; obtain ⟨A8, c8, rfl, _, _⟩ := h.tail.tail.row; have HS3 := mk_ h; clear h) | ((with_reducible refine gate_st (ty := 32) (x := .tmp 4) (y := .tmp 22) rfl ?_); refine wpList_store_row rfl 32 (.tmp 4) (.tmp 22) rfl w.heap.size #[.int .i64 x.f0.f0, .int .i64 x.f0.f1, .slice A1 x.f1.length c1, .int .i64 x.f2.f0, .int .i64 x.f2.f1, .int .i64 x.f2.f2, .int .i64 x.f3, .int .i64 x.f4, .string x.f5, .int .i64 x.f6, .slice A7 x.f7.length c7, .slice A8 x.f8.length c8] rfl rfl 32 #[.int .i64 0, .int .i64 0, .slice none 0 0, .int .i64 0, .int .i64 0, .int .i64 0, .int .i64 0, .int .i64 0, .string ⟨#[]⟩, .int .i64 0, .slice none 0 0, .slice none 0 0] HS3.out.s5.blk z0_ rfl (by first | decide | rfl | simp [Value.oneCell']) ?_; have HS4 := mk_ (sp_storeRow HS3.out.s5 #[.int .i64 x.f0.f0, .int .i64 x.f0.f1, .slice A1 x.f1.length c1, .int .i64 x.f2.f0, .int .i64 x.f2.f1, .int .i64 x.f2.f2, .int .i64 x.f3, .int .i64 x.f4, .string x.f5, .int .i64 x.f6, .slice A7 x.f7.length c7, .slice A8 x.f8.length c8]); have kr := blk_cell HS4.out.s4.blk; have kx := blk_cell HS4.out.blk))
  have hSd := HS4.out.drew
  clear kr kx
  refine start_at (n := 8) (S := fun w' => w'.cell? ⟨w.heap.size, 0, none⟩ = some (.int .i64 x.f0.f0) ∧ w'.cell? ⟨w.heap.size, 1, none⟩ = some (.int .i64 x.f0.f1) ∧ w'.cell? ⟨w.heap.size, 2, none⟩ = some (.slice A1 x.f1.length c1) ∧ w'.cell? ⟨w.heap.size, 3, none⟩ = some (.int .i64 x.f2.f0) ∧ w'.cell? ⟨w.heap.size, 4, none⟩ = some (.int .i64 x.f2.f1) ∧ w'.cell? ⟨w.heap.size, 5, none⟩ = some (.int .i64 x.f2.f2) ∧ w'.cell? ⟨w.heap.size, 6, none⟩ = some (.int .i64 x.f3) ∧ w'.cell? ⟨w.heap.size, 7, none⟩ = some (.int .i64 x.f4) ∧ w'.cell? ⟨w.heap.size, 8, none⟩ = some (.string x.f5) ∧ w'.cell? ⟨w.heap.size, 9, none⟩ = some (.int .i64 x.f6) ∧ w'.cell? ⟨w.heap.size, 10, none⟩ = some (.slice A7 x.f7.length c7) ∧ w'.cell? ⟨w.heap.size, 11, none⟩ = some (.slice A8 x.f8.length c8) ∧ w'.cell? ⟨w.heap.size + 1, 1, none⟩ = some (.int .i64 at2) ∧ True) (ds := []) (fun W => Sp W [Blk w.heap.size (.cells #[.int .i64 x.f0.f0, .int .i64 x.f0.f1, .slice A1 x.f1.length c1, .int .i64 x.f2.f0, .int .i64 x.f2.f1, .int .i64 x.f2.f2, .int .i64 x.f3, .int .i64 x.f4, .string x.f5, .int .i64 x.f6, .slice A7 x.f7.length c7, .slice A8 x.f8.length c8] 32 (0, 0)), Row (Kd.int .i64) 3 (.slice A1 x.f1.length c1) x.f1, Row k84 84 (.slice A7 x.f7.length c7) x.f7, Row k25 25 (.slice A8 x.f8.length c8) x.f8, RdP (w.heap.size + 1) A l.length c (at2, false), Old w]) (Steps.Bs 8 0) z0_ rfl rfl hSd (fun W hJ => ⟨blk_cell hJ.blk 0, blk_cell hJ.blk 1, blk_cell hJ.blk 2, blk_cell hJ.blk 3, blk_cell hJ.blk 4, blk_cell hJ.blk 5, blk_cell hJ.blk 6, blk_cell hJ.blk 7, blk_cell hJ.blk 8, blk_cell hJ.blk 9, blk_cell hJ.blk 10, blk_cell hJ.blk 11, blk_cell hJ.s4.blk 1, trivial⟩) (fun W0 hJ => ?_)
  clear hSd HS4 HS3
  have hHeld : W0.cell? ⟨w.heap.size, 0, none⟩ = some (.int .i64 x.f0.f0) ∧ W0.cell? ⟨w.heap.size, 1, none⟩ = some (.int .i64 x.f0.f1) ∧ W0.cell? ⟨w.heap.size, 2, none⟩ = some (.slice A1 x.f1.length c1) ∧ W0.cell? ⟨w.heap.size, 3, none⟩ = some (.int .i64 x.f2.f0) ∧ W0.cell? ⟨w.heap.size, 4, none⟩ = some (.int .i64 x.f2.f1) ∧ W0.cell? ⟨w.heap.size, 5, none⟩ = some (.int .i64 x.f2.f2) ∧ W0.cell? ⟨w.heap.size, 6, none⟩ = some (.int .i64 x.f3) ∧ W0.cell? ⟨w.heap.size, 7, none⟩ = some (.int .i64 x.f4) ∧ W0.cell? ⟨w.heap.size, 8, none⟩ = some (.string x.f5) ∧ W0.cell? ⟨w.heap.size, 9, none⟩ = some (.int .i64 x.f6) ∧ W0.cell? ⟨w.heap.size, 10, none⟩ = some (.slice A7 x.f7.length c7) ∧ W0.cell? ⟨w.heap.size, 11, none⟩ = some (.slice A8 x.f8.length c8) ∧ W0.cell? ⟨w.heap.size + 1, 1, none⟩ = some (.int .i64 at2) ∧ True := ⟨blk_cell hJ.blk 0, blk_cell hJ.blk 1, blk_cell hJ.blk 2, blk_cell hJ.blk 3, blk_cell hJ.blk 4, blk_cell hJ.blk 5, blk_cell hJ.blk 6, blk_cell hJ.blk 7, blk_cell hJ.blk 8, blk_cell hJ.blk 9, blk_cell hJ.blk 10, blk_cell hJ.blk 11, blk_cell hJ.s4.blk 1, trivial⟩
  refine sI 1 29 8 2 ?_
  refine sI 2 30 8 6 ?_
  refine sI 3 31 8 14 ?_
  refine sT hHeld 0 28 8 15 ?_
  refine sT hHeld 4 32 8 31 ?_
  refine one_ (i := 5) (N := none) (Steps.Bs 8 63) rfl rfl z0_ z5_ (fun K hK => ?_)
  refine store_row_step (by rfl) 32 (.tmp 4) (.tmp 28) rfl w.heap.size #[.int .i64 x.f0.f0, .int .i64 x.f0.f1, .slice A1 x.f1.length c1, .int .i64 x.f2.f0, .int .i64 x.f2.f1, .int .i64 x.f2.f2, .int .i64 x.f3, .int .i64 x.f4, .string x.f5, .int .i64 x.f6, .slice A7 x.f7.length c7, .slice A8 x.f8.length c8] rfl rfl 32 #[.int .i64 x.f0.f0, .int .i64 x.f0.f1, .slice A1 x.f1.length c1, .int .i64 x.f2.f0, .int .i64 x.f2.f1, .int .i64 x.f2.f2, .int .i64 x.f3, .int .i64 x.f4, .string x.f5, .int .i64 x.f6, .slice A7 x.f7.length c7, .slice A8 x.f8.length c8] hJ.blk z0_ rfl (by first | decide | rfl | simp [Value.oneCell']) ?_
  have hS5 := sp_storeRow hJ #[.int .i64 x.f0.f0, .int .i64 x.f0.f1, .slice A1 x.f1.length c1, .int .i64 x.f2.f0, .int .i64 x.f2.f1, .int .i64 x.f2.f2, .int .i64 x.f3, .int .i64 x.f4, .string x.f5, .int .i64 x.f6, .slice A7 x.f7.length c7, .slice A8 x.f8.length c8]
  refine hK.out _ _ ⟨blk_cell hS5.blk 0, blk_cell hS5.blk 1, blk_cell hS5.blk 2, blk_cell hS5.blk 3, blk_cell hS5.blk 4, blk_cell hS5.blk 5, blk_cell hS5.blk 6, blk_cell hS5.blk 7, blk_cell hS5.blk 8, blk_cell hS5.blk 9, blk_cell hS5.blk 10, blk_cell hS5.blk 11, blk_cell hS5.s4.blk 1, trivial⟩ (fun _ => ?_)
  clear hK K
  refine norm_ (a' := ?_) ?_ ?_
  rotate_left
  ·
   show Act.put _ none _ = _
   rfl
  refine sI 6 5 8 127 ?_
  refine sI 7 6 8 255 ?_
  refine done_ z0_ ?_
  go_wp2
  refine bodyPost_ret (results_ctt rfl _ _ w.heap.size 32 #[.int .i64 x.f0.f0, .int .i64 x.f0.f1, .slice A1 x.f1.length c1, .int .i64 x.f2.f0, .int .i64 x.f2.f1, .int .i64 x.f2.f2, .int .i64 x.f3, .int .i64 x.f4, .string x.f5, .int .i64 x.f6, .slice A7 x.f7.length c7, .slice A8 x.f8.length c8] (0, 0) _ rfl hS5.blk Try.underlying32 rfl z0_) rfl ?_
  exact ⟨_, _, _, rfl, hS5.tail.s3.tail⟩
end
end Go.Proofs.Ytjnjfogfpmeacaa.Ops
end
section
namespace Go.Proofs.Ytjnjfogfpmeacaa.Ops
open Go.RowKit PAll Plain PrintWords PrintLast PrintMore Go.Proofs.Ytjnjfogfpmeacaa.Sep ZipT PrintWords.Kd PrintMore.Kd
set_option linter.unusedVariables false
set_option linter.unusedSimpArgs false
theorem wNums_len (l : List Int) (s : Wr) : (wNums l s).1.length ≤ s.1.length + 7 + 7 * l.length := by
 have h1 := wAll_len (f := fun n => wNum n 4) (m := 7) (fun x s => wNum_len x 4 s) l (wNum l.length 1 (wOr (decide (l.length > 5)) s))
 have h2 := wNum_len l.length 1 (wOr (decide (l.length > 5)) s)
 have h3 : (wOr (decide (l.length > 5)) s).1.length = s.1.length := rfl
 unfold wNums; omega
theorem rowOut_len (l : List V) : (if rowE l = 0 then (rowB l, (0 : Int)) else ([], rowE l)).1.length ≤ 700 := by
 split
 ·
  rename_i h; exact Nat.le_trans (rowB_len h) z3_
 ·
  simp
def opSmall (x : Ox) : Prop := x.f1.length ≤ 1000 ∧ x.f7.length ≤ 1000 ∧ x.f8.length ≤ 1000
instance (x : Ox) : Decidable (opSmall x) := by unfold opSmall; infer_instance
theorem rd_T_get {l : List Dt} {i : Nat} (h : i < l.length) : rd_T25 l (i : Int) = l[i] := by
 unfold rd_T25
 rw [Int.toNat_natCast, List.getD_eq_getElem?_getD, List.getElem?_eq_getElem h]; rfl
section
variable {w : World} {g : Nat} {F : List Part}
theorem wop_calls {w0 : World} (x : Ox) (A1 A7 A8 : Option Addr) (c1 c7 c8 : Nat) (hC1 : Kd.C (Kd.int .i64) w0 A1 x.f1.length x.f1) (h1c : x.f1.length ≤ c1) (hC7 : Kd.C k84 w0 A7 x.f7.length x.f7) (h7c : x.f7.length ≤ c7) (hC8 : Kd.C k25 w0 A8 x.f8.length x.f8) (h8c : x.f8.length ≤ c8) (hx : opSmall x) (s : Wr) (hS : Sp w (WrP g s :: Old w0 :: F)) (hl : s.1.length ≤ 600000000) :
  Calls Try.prog 34 #[.pointer (some ⟨g, 0, none⟩), .agg #[.int .i64 x.f0.f0, .int .i64 x.f0.f1, .slice A1 x.f1.length c1, .int .i64 x.f2.f0, .int .i64 x.f2.f1, .int .i64 x.f2.f2, .int .i64 x.f3, .int .i64 x.f4, .string x.f5, .int .i64 x.f6, .slice A7 x.f7.length c7, .slice A8 x.f8.length c8]] w fun r w' => (∃ v, r = .returned v) ∧ Sp w' (WrP g (wOp x s) :: Old w0 :: F) := by
 have h0 := hS.box (.cells #[.int .i64 x.f0.f0, .int .i64 x.f0.f1, .slice A1 x.f1.length c1, .int .i64 x.f2.f0, .int .i64 x.f2.f1, .int .i64 x.f2.f2, .int .i64 x.f3, .int .i64 x.f4, .string x.f5, .int .i64 x.f6, .slice A7 x.f7.length c7, .slice A8 x.f8.length c8] 32 (0, 0))
 have L1 := wNum_len x.f3 1 s
 obtain ⟨s1, e1⟩ : ∃ q, q = wNum x.f3 1 s := ⟨_, rfl⟩
 have L2 := wDot_len x.f0 s1
 obtain ⟨s2, e2⟩ : ∃ q, q = wDot x.f0 s1 := ⟨_, rfl⟩
 have L3 := wNums_len x.f1 s2
 obtain ⟨s3, e3⟩ : ∃ q, q = wNums x.f1 s2 := ⟨_, rfl⟩
 have L4 := wStamp_len x.f2 s3
 obtain ⟨s4, e4⟩ : ∃ q, q = wStamp x.f2 s3 := ⟨_, rfl⟩
 have L5 := wNum_len x.f4 1 s4
 obtain ⟨s5, e5⟩ : ∃ q, q = wNum x.f4 1 s4 := ⟨_, rfl⟩
 have L6 := wText_len x.f5 s5
 obtain ⟨s6, e6⟩ : ∃ q, q = wText x.f5 s5 := ⟨_, rfl⟩
 have L7 := wNum_len x.f6 1 s6
 obtain ⟨s7, e7⟩ : ∃ q, q = wNum x.f6 1 s6 := ⟨_, rfl⟩
 have LR := rowOut_len x.f7
 have hR := rowBytes_eq 1100 x.f7 (by have := hx.2.1; omega) (by have := hx.2.1; omega)
 have hwr : wRow x.f7 s7 = wAdd s7 (if rowE x.f7 = 0 then (rowB x.f7, 0) else ([], rowE x.f7)) := rfl
 have hu : wOp x s = wAll wDot x.f8 (wNum x.f8.length 1 (wOr (decide (x.f8.length > 64)) (wRow x.f7 s7))) := by subst e7 e6 e5 e4 e3 e2 e1; rfl
 generalize (if rowE x.f7 = 0 then (rowB x.f7, (0 : Int)) else ([], rowE x.f7)) = rr at LR hR hwr
 obtain ⟨rb, re⟩ := rr
 rw [hwr] at hu
 obtain ⟨s8, e8⟩ : ∃ q, q = wAdd s7 (rb, re) := ⟨_, rfl⟩
 have L8 : s8.1.length ≤ s7.1.length + 700 := by have : rb.length ≤ 700 := LR; rw [e8]; unfold wAdd; simp only [List.length_append]; omega
 rw [← e1] at L1; rw [← e2] at L2; rw [← e3] at L3; rw [← e4] at L4; rw [← e5] at L5; rw [← e6] at L6; rw [← e7] at L7; rw [← e8] at hu
 have LR2 : rb.length ≤ 700 := LR
 have HLEN := mk_ (show s.1.length ≤ 600000000 ∧ s1.1.length ≤ 600000007 ∧ s2.1.length ≤ 600000021 ∧ s3.1.length ≤ 600007028 ∧ s4.1.length ≤ 600007049 ∧ s5.1.length ≤ 600007056 ∧ s6.1.length ≤ 600007081 ∧ s7.1.length ≤ 600007088 ∧ s8.1.length ≤ 600007788 ∧ rb.length ≤ 700 from by have := hx.1; omega)
 have HE1 := mk_ e1
 have HE2 := mk_ e2
 have HE3 := mk_ e3
 have HE4 := mk_ e4
 have HE5 := mk_ e5
 have HE6 := mk_ e6
 have HE7 := mk_ e7
 have HE8 := mk_ e8
 have HU := mk_ hu
 have HR := mk_ (show PAll.row_Bytes.f 1100 x.f7 = some (rb, re) from hR)
 have HC1 := mk_ hC1
 have HC7 := mk_ hC7
 have HC8 := mk_ hC8
 have HX := mk_ (And.intro hx (And.intro h1c (And.intro h7c h8c)))
 have HS0 := mk_ (Sp.s2 (Sp.s2 h0))
 clear h0 hS hl L1 L2 L3 L4 L5 L6 L7 L8 LR hR hwr hu e1 e2 e3 e4 e5 e6 e7 e8 hC1 hC7 hC8 hx h1c h7c h8c
 obtain ⟨b8, bad8⟩ := s8
 cases bad8 with
 | true =>
  have hn0 : wOr (decide (x.f8.length > 64)) (b8, true) = (b8, true) := by unfold wOr; simp
  have HU2 := mk_ (HU.out.trans (congrArg (fun q => wAll wDot x.f8 (wNum x.f8.length 1 q)) hn0))
  clear hn0 HU
  go_enter Try.func34, Try.ntmps34
  go_wp2_with (first
  | (go_at_call 66; (with_reducible show Calls _ _ _ (World.alloc w _) _); refine (wnum_calls s x.f3 1 HS0.out (by have := HLEN.out; omega)).mono ?_; rintro e V1 ⟨⟨u, rfl⟩, h1⟩; rw [← HE1.out] at h1; have HS1 := mk_ h1; have kx1 := blk_cell HS1.out.s2.blk; clear h1)
  | (go_at_call 67; (with_reducible show Calls _ _ _ V1 _); refine (wdot_calls s1 x.f0 HS1.out (by have := HLEN.out; omega)).mono ?_; rintro e V2 ⟨⟨u, rfl⟩, h1⟩; rw [← HE2.out] at h1; have HS2 := mk_ h1; have kx2 := blk_cell HS2.out.s2.blk; clear h1)
  | (go_at_call 68; (with_reducible show Calls _ _ _ V2 _); refine (wnums_calls A1 c1 x.f1 HC1.out HX.out.2.1 HX.out.1.1 s2 HS2.out (by have := HLEN.out; omega)).mono ?_; rintro e V3 ⟨⟨u, rfl⟩, h1⟩; rw [← HE3.out] at h1; have HS3 := mk_ h1; have kx3 := blk_cell HS3.out.s2.blk; clear h1)
  | (go_at_call 69; (with_reducible show Calls _ _ _ V3 _); refine (wstamp_calls s3 x.f2 HS3.out (by have := HLEN.out; omega)).mono ?_; rintro e V4 ⟨⟨u, rfl⟩, h1⟩; rw [← HE4.out] at h1; have HS4 := mk_ h1; have kx4 := blk_cell HS4.out.s2.blk; clear h1)
  | (go_at_call 66; (with_reducible show Calls _ _ _ V4 _); refine (wnum_calls s4 x.f4 1 HS4.out (by have := HLEN.out; omega)).mono ?_; rintro e V5 ⟨⟨u, rfl⟩, h1⟩; rw [← HE5.out] at h1; have HS5 := mk_ h1; have kx5 := blk_cell HS5.out.s2.blk; clear h1)
  | (go_at_call 70; (with_reducible show Calls _ _ _ V5 _); refine (wtext_calls s5 x.f5 HS5.out (by have := HLEN.out; omega)).mono ?_; rintro e V6 ⟨⟨u, rfl⟩, h1⟩; rw [← HE6.out] at h1; have HS6 := mk_ h1; have kx6 := blk_cell HS6.out.s2.blk; clear h1)
  | (go_at_call 66; (with_reducible show Calls _ _ _ V6 _); refine (wnum_calls s6 x.f6 1 HS6.out (by have := HLEN.out; omega)).mono ?_; rintro e V7 ⟨⟨u, rfl⟩, h1⟩; rw [← HE7.out] at h1; have HS7 := mk_ h1; have kx7 := blk_cell HS7.out.s2.blk; clear h1)
  | (go_at_call 23; refine (PAll.row_Bytes.calls 1100 A7 c7 x.f7 rb re _ (C_below HC7.out HS7.out.s1.old) HX.out.2.2.1 HR.out).mono ?_; rintro e V8 ⟨v_, rfl, hr_, hq_⟩; obtain ⟨Ab, cb, rfl⟩ := R_slice hr_; have HS8 := mk_ (Sp.made HS7.out hq_ hr_).s1; clear hr_ hq_)
  | (go_at_call 71; refine (wadd_calls s7.1 s7.2 Ab cb rb re HS8.out (by have := HLEN.out; omega)).mono ?_; rintro e V9 ⟨⟨u, rfl⟩, h1⟩; rw [show ((s7.1, s7.2) : Wr) = s7 from rfl, ← HE8.out] at h1; have kx9 := blk_cell h1.s2.blk; obtain ⟨v9, h2⟩ := WrP.open h1; have k91 := blk_cell h2.blk 1; have f91 := blk_frozen h2.blk 1; have HS9 := mk_ h2; clear h1 h2)
  | (go_at_call 66; (with_reducible show Calls _ _ _ (World.setCell V9 _ _) _); refine (wnum_calls (b8, true) (x.f8.length : Int) 1 (WrP.shut (HS9.out.store 1 (.bool true))) (by have := HLEN.out; show b8.length ≤ _; omega)).mono ?_; rintro e V10 ⟨⟨u, rfl⟩, h1⟩; have HS10 := mk_ h1; have kx10 := blk_cell HS10.out.s2.blk; clear h1))
  go_loopg [62] (x.f8.length + 1) (fun kq v62 W' => ∃ (i : Nat), v62 = .int .i64 (i : Int) ∧ Aside0 (Sp W' (WrP g (wAll wDot (x.f8.take i) (wNum (x.f8.length : Int) 1 (b8, true))) :: Old w0 :: Blk w.heap.size (.cells #[.int .i64 x.f0.f0, .int .i64 x.f0.f1, .slice A1 x.f1.length c1, .int .i64 x.f2.f0, .int .i64 x.f2.f1, .int .i64 x.f2.f2, .int .i64 x.f3, .int .i64 x.f4, .string x.f5, .int .i64 x.f6, .slice A7 x.f7.length c7, .slice A8 x.f8.length c8] 32 (0, 0)) :: F)) ∧ Aside0 (kq + i = x.f8.length + 1 ∧ i ≤ x.f8.length))
  case atStart => exact ⟨0, rfl, ⟨HS10.out⟩, ⟨by omega⟩⟩
  case round =>
   obtain ⟨i, rfl, HA, HK⟩ := hrel
   obtain ⟨k1, rfl⟩ : ∃ k1, gk = k1 + 1 := ⟨gk - 1, by have := HK.out; omega⟩
   by_cases hi : i < x.f8.length
   rotate_left
   ·
    have hie : i = x.f8.length := by have := HK.out; omega
    have hb2 : decide ((i : Int) < (x.f8.length : Int)) = false := decide_eq_false z3_
    have hb3 : decide (i < x.f8.length) = false := decide_eq_false hi
    clear hi
    go_wp2
    go_end0
    refine ⟨⟨_, rfl⟩, ?_⟩
    have h := HA.out
    rw [hie, List.take_length] at h
    rw [HU2.out]
    exact (Sp.s2 h).tail
   obtain ⟨ad, hA, hx0, hx1⟩ := at_T25 (C_below HC8.out HA.out.s1.old) (i : Int) z3_ z3_
   cases hA
   rw [rd_T_get hi] at hx0 hx1
   rw [Int.toNat_natCast] at hx0 hx1
   have hb0 : (0 ≤ (i : Int)) = True := eq_true z3_
   have hb1 : ((i : Int) < (x.f8.length : Int)) = True := eq_true z3_
   have hb2 : decide ((i : Int) < (x.f8.length : Int)) = true := decide_eq_true z3_
   have hb3 : decide (i < x.f8.length) = true := decide_eq_true hi
   have HI2 := mk_ hi
   have HT := mk_ (take_snoc hi)
   generalize x.f8[i] = d at *
   clear hi
   have HD := mk_ (HA.out.box (.cells #[.int .i64 0, .int .i64 0] 25 (0, 0)))
   go_wp2_with (first | ((with_reducible refine gate_st (ty := 25) (x := .tmp 5) (y := .tmp 65) rfl ?_); refine wpList_store_row rfl 25 (.tmp 5) (.tmp 65) rfl wr.heap.size #[.int .i64 d.f0, .int .i64 d.f1] rfl rfl 25 #[.int .i64 0, .int .i64 0] HD.out.blk z0_ rfl (by first | decide | rfl | simp [Value.oneCell']) ?_; have HE := mk_ (sp_storeRow HD.out #[.int .i64 d.f0, .int .i64 d.f1]); have kd := blk_cell HE.out.blk) | (go_at_call 67; refine (wdot_calls _ d HE.out.tail (by have := HLEN.out; have h1 := wAll_len (f := wDot) (m := 14) wDot_len (x.f8.take i) (wNum (x.f8.length : Int) 1 (b8, true)); have h2 := wNum_len (x.f8.length : Int) 1 (b8, true); have h3 := HX.out.1.2.2; have h4 := List.length_take_le i x.f8; have h6 := HI2.out; have h5 : (b8, true).1.length = b8.length := rfl; omega)).mono ?_; rintro e W2 ⟨⟨u, rfl⟩, h1⟩; have HS11 := mk_ h1; clear h1))
   go_roundg k1
   case measure => exact Nat.lt_succ_self _
   case rel => exact ⟨i + 1, by rw [w64 z3_ (by have := HI2.out; have := HX.out.1.2.2; omega)]; rfl, ⟨by rw [HT.out, wAll_snoc]; exact HS11.out⟩, ⟨by have := HK.out; omega, by have := HI2.out; omega⟩⟩
 | false =>
  by_cases hc : x.f8.length > 64
  ·
   have hd1 : decide ((64 : Int) < (x.f8.length : Int)) = true := decide_eq_true z3_
   have hd2 : decide (64 < x.f8.length) = true := decide_eq_true hc
   have hn0 : wOr (decide (x.f8.length > 64)) (b8, false) = (b8, true) := by unfold wOr; simp [hc]
   have HU2 := mk_ (HU.out.trans (congrArg (fun q => wAll wDot x.f8 (wNum x.f8.length 1 q)) hn0))
   clear hn0 HU
   go_enter Try.func34, Try.ntmps34
   go_wp2_with (first
  | (go_at_call 66; (with_reducible show Calls _ _ _ (World.alloc w _) _); refine (wnum_calls s x.f3 1 HS0.out (by have := HLEN.out; omega)).mono ?_; rintro e V1 ⟨⟨u, rfl⟩, h1⟩; rw [← HE1.out] at h1; have HS1 := mk_ h1; have kx1 := blk_cell HS1.out.s2.blk; clear h1)
  | (go_at_call 67; (with_reducible show Calls _ _ _ V1 _); refine (wdot_calls s1 x.f0 HS1.out (by have := HLEN.out; omega)).mono ?_; rintro e V2 ⟨⟨u, rfl⟩, h1⟩; rw [← HE2.out] at h1; have HS2 := mk_ h1; have kx2 := blk_cell HS2.out.s2.blk; clear h1)
  | (go_at_call 68; (with_reducible show Calls _ _ _ V2 _); refine (wnums_calls A1 c1 x.f1 HC1.out HX.out.2.1 HX.out.1.1 s2 HS2.out (by have := HLEN.out; omega)).mono ?_; rintro e V3 ⟨⟨u, rfl⟩, h1⟩; rw [← HE3.out] at h1; have HS3 := mk_ h1; have kx3 := blk_cell HS3.out.s2.blk; clear h1)
  | (go_at_call 69; (with_reducible show Calls _ _ _ V3 _); refine (wstamp_calls s3 x.f2 HS3.out (by have := HLEN.out; omega)).mono ?_; rintro e V4 ⟨⟨u, rfl⟩, h1⟩; rw [← HE4.out] at h1; have HS4 := mk_ h1; have kx4 := blk_cell HS4.out.s2.blk; clear h1)
  | (go_at_call 66; (with_reducible show Calls _ _ _ V4 _); refine (wnum_calls s4 x.f4 1 HS4.out (by have := HLEN.out; omega)).mono ?_; rintro e V5 ⟨⟨u, rfl⟩, h1⟩; rw [← HE5.out] at h1; have HS5 := mk_ h1; have kx5 := blk_cell HS5.out.s2.blk; clear h1)
  | (go_at_call 70; (with_reducible show Calls _ _ _ V5 _); refine (wtext_calls s5 x.f5 HS5.out (by have := HLEN.out; omega)).mono ?_; rintro e V6 ⟨⟨u, rfl⟩, h1⟩; rw [← HE6.out] at h1; have HS6 := mk_ h1; have kx6 := blk_cell HS6.out.s2.blk; clear h1)
  | (go_at_call 66; (with_reducible show Calls _ _ _ V6 _); refine (wnum_calls s6 x.f6 1 HS6.out (by have := HLEN.out; omega)).mono ?_; rintro e V7 ⟨⟨u, rfl⟩, h1⟩; rw [← HE7.out] at h1; have HS7 := mk_ h1; have kx7 := blk_cell HS7.out.s2.blk; clear h1)
  | (go_at_call 23; refine (PAll.row_Bytes.calls 1100 A7 c7 x.f7 rb re _ (C_below HC7.out HS7.out.s1.old) HX.out.2.2.1 HR.out).mono ?_; rintro e V8 ⟨v_, rfl, hr_, hq_⟩; obtain ⟨Ab, cb, rfl⟩ := R_slice hr_; have HS8 := mk_ (Sp.made HS7.out hq_ hr_).s1; clear hr_ hq_)
  | (go_at_call 71; refine (wadd_calls s7.1 s7.2 Ab cb rb re HS8.out (by have := HLEN.out; omega)).mono ?_; rintro e V9 ⟨⟨u, rfl⟩, h1⟩; rw [show ((s7.1, s7.2) : Wr) = s7 from rfl, ← HE8.out] at h1; have kx9 := blk_cell h1.s2.blk; obtain ⟨v9, h2⟩ := WrP.open h1; have k91 := blk_cell h2.blk 1; have f91 := blk_frozen h2.blk 1; have HS9 := mk_ h2; clear h1 h2)
  | (go_at_call 66; (with_reducible show Calls _ _ _ (World.setCell V9 _ _) _); refine (wnum_calls (b8, true) (x.f8.length : Int) 1 (WrP.shut (HS9.out.store 1 (.bool true))) (by have := HLEN.out; show b8.length ≤ _; omega)).mono ?_; rintro e V10 ⟨⟨u, rfl⟩, h1⟩; have HS10 := mk_ h1; have kx10 := blk_cell HS10.out.s2.blk; clear h1))
   go_loopg [62] (x.f8.length + 1) (fun kq v62 W' => ∃ (i : Nat), v62 = .int .i64 (i : Int) ∧ Aside0 (Sp W' (WrP g (wAll wDot (x.f8.take i) (wNum (x.f8.length : Int) 1 (b8, true))) :: Old w0 :: Blk w.heap.size (.cells #[.int .i64 x.f0.f0, .int .i64 x.f0.f1, .slice A1 x.f1.length c1, .int .i64 x.f2.f0, .int .i64 x.f2.f1, .int .i64 x.f2.f2, .int .i64 x.f3, .int .i64 x.f4, .string x.f5, .int .i64 x.f6, .slice A7 x.f7.length c7, .slice A8 x.f8.length c8] 32 (0, 0)) :: F)) ∧ Aside0 (kq + i = x.f8.length + 1 ∧ i ≤ x.f8.length))
   case atStart => exact ⟨0, rfl, ⟨HS10.out⟩, ⟨by omega⟩⟩
   case round =>
    obtain ⟨i, rfl, HA, HK⟩ := hrel
    obtain ⟨k1, rfl⟩ : ∃ k1, gk = k1 + 1 := ⟨gk - 1, by have := HK.out; omega⟩
    by_cases hi : i < x.f8.length
    ·
     obtain ⟨ad, hA, hx0, hx1⟩ := at_T25 (C_below HC8.out HA.out.s1.old) (i : Int) z3_ z3_
     cases hA
     rw [rd_T_get hi] at hx0 hx1
     rw [Int.toNat_natCast] at hx0 hx1
     have hb0 : (0 ≤ (i : Int)) = True := eq_true z3_
     have hb1 : ((i : Int) < (x.f8.length : Int)) = True := eq_true z3_
     have hb2 : decide ((i : Int) < (x.f8.length : Int)) = true := decide_eq_true z3_
     have hb3 : decide (i < x.f8.length) = true := decide_eq_true hi
     have HI2 := mk_ hi
     have HT := mk_ (take_snoc hi)
     generalize x.f8[i] = d at *
     clear hi
     have HD := mk_ (HA.out.box (.cells #[.int .i64 0, .int .i64 0] 25 (0, 0)))
     go_wp2_with (first | ((with_reducible refine gate_st (ty := 25) (x := .tmp 5) (y := .tmp 65) rfl ?_); refine wpList_store_row rfl 25 (.tmp 5) (.tmp 65) rfl wr.heap.size #[.int .i64 d.f0, .int .i64 d.f1] rfl rfl 25 #[.int .i64 0, .int .i64 0] HD.out.blk z0_ rfl (by first | decide | rfl | simp [Value.oneCell']) ?_; have HE := mk_ (sp_storeRow HD.out #[.int .i64 d.f0, .int .i64 d.f1]); have kd := blk_cell HE.out.blk) | (go_at_call 67; refine (wdot_calls _ d HE.out.tail (by have := HLEN.out; have h1 := wAll_len (f := wDot) (m := 14) wDot_len (x.f8.take i) (wNum (x.f8.length : Int) 1 (b8, true)); have h2 := wNum_len (x.f8.length : Int) 1 (b8, true); have h3 := HX.out.1.2.2; have h4 := List.length_take_le i x.f8; have h6 := HI2.out; have h5 : (b8, true).1.length = b8.length := rfl; omega)).mono ?_; rintro e W2 ⟨⟨u, rfl⟩, h1⟩; have HS11 := mk_ h1; clear h1))
     go_roundg k1
     case measure => exact Nat.lt_succ_self _
     case rel => exact ⟨i + 1, by rw [w64 z3_ (by have := HI2.out; have := HX.out.1.2.2; omega)]; rfl, ⟨by rw [HT.out, wAll_snoc]; exact HS11.out⟩, ⟨by have := HK.out; omega, by have := HI2.out; omega⟩⟩
    ·
     have hie : i = x.f8.length := by have := HK.out; omega
     have hb2 : decide ((i : Int) < (x.f8.length : Int)) = false := decide_eq_false z3_
     have hb3 : decide (i < x.f8.length) = false := decide_eq_false hi
     clear hi
     go_wp2
     go_end0
     refine ⟨⟨_, rfl⟩, ?_⟩
     have h := HA.out
     rw [hie, List.take_length] at h
     rw [HU2.out]
     exact (Sp.s2 h).tail
  ·
   have hd1 : decide ((64 : Int) < (x.f8.length : Int)) = false := decide_eq_false z3_
   have hd2 : decide (64 < x.f8.length) = false := decide_eq_false hc
   have hn0 : wOr (decide (x.f8.length > 64)) (b8, false) = (b8, false) := by unfold wOr; simp; omega
   have HU2 := mk_ (HU.out.trans (congrArg (fun q => wAll wDot x.f8 (wNum x.f8.length 1 q)) hn0))
   clear hn0 HU
   go_enter Try.func34, Try.ntmps34
   go_wp2_with (first
  | (go_at_call 66; (with_reducible show Calls _ _ _ (World.alloc w _) _); refine (wnum_calls s x.f3 1 HS0.out (by have := HLEN.out; omega)).mono ?_; rintro e V1 ⟨⟨u, rfl⟩, h1⟩; rw [← HE1.out] at h1; have HS1 := mk_ h1; have kx1 := blk_cell HS1.out.s2.blk; clear h1)
  | (go_at_call 67; (with_reducible show Calls _ _ _ V1 _); refine (wdot_calls s1 x.f0 HS1.out (by have := HLEN.out; omega)).mono ?_; rintro e V2 ⟨⟨u, rfl⟩, h1⟩; rw [← HE2.out] at h1; have HS2 := mk_ h1; have kx2 := blk_cell HS2.out.s2.blk; clear h1)
  | (go_at_call 68; (with_reducible show Calls _ _ _ V2 _); refine (wnums_calls A1 c1 x.f1 HC1.out HX.out.2.1 HX.out.1.1 s2 HS2.out (by have := HLEN.out; omega)).mono ?_; rintro e V3 ⟨⟨u, rfl⟩, h1⟩; rw [← HE3.out] at h1; have HS3 := mk_ h1; have kx3 := blk_cell HS3.out.s2.blk; clear h1)
  | (go_at_call 69; (with_reducible show Calls _ _ _ V3 _); refine (wstamp_calls s3 x.f2 HS3.out (by have := HLEN.out; omega)).mono ?_; rintro e V4 ⟨⟨u, rfl⟩, h1⟩; rw [← HE4.out] at h1; have HS4 := mk_ h1; have kx4 := blk_cell HS4.out.s2.blk; clear h1)
  | (go_at_call 66; (with_reducible show Calls _ _ _ V4 _); refine (wnum_calls s4 x.f4 1 HS4.out (by have := HLEN.out; omega)).mono ?_; rintro e V5 ⟨⟨u, rfl⟩, h1⟩; rw [← HE5.out] at h1; have HS5 := mk_ h1; have kx5 := blk_cell HS5.out.s2.blk; clear h1)
  | (go_at_call 70; (with_reducible show Calls _ _ _ V5 _); refine (wtext_calls s5 x.f5 HS5.out (by have := HLEN.out; omega)).mono ?_; rintro e V6 ⟨⟨u, rfl⟩, h1⟩; rw [← HE6.out] at h1; have HS6 := mk_ h1; have kx6 := blk_cell HS6.out.s2.blk; clear h1)
  | (go_at_call 66; (with_reducible show Calls _ _ _ V6 _); refine (wnum_calls s6 x.f6 1 HS6.out (by have := HLEN.out; omega)).mono ?_; rintro e V7 ⟨⟨u, rfl⟩, h1⟩; rw [← HE7.out] at h1; have HS7 := mk_ h1; have kx7 := blk_cell HS7.out.s2.blk; clear h1)
  | (go_at_call 23; refine (PAll.row_Bytes.calls 1100 A7 c7 x.f7 rb re _ (C_below HC7.out HS7.out.s1.old) HX.out.2.2.1 HR.out).mono ?_; rintro e V8 ⟨v_, rfl, hr_, hq_⟩; obtain ⟨Ab, cb, rfl⟩ := R_slice hr_; have HS8 := mk_ (Sp.made HS7.out hq_ hr_).s1; clear hr_ hq_)
  | (go_at_call 71; refine (wadd_calls s7.1 s7.2 Ab cb rb re HS8.out (by have := HLEN.out; omega)).mono ?_; rintro e V9 ⟨⟨u, rfl⟩, h1⟩; rw [show ((s7.1, s7.2) : Wr) = s7 from rfl, ← HE8.out] at h1; have kx9 := blk_cell h1.s2.blk; obtain ⟨v9, h2⟩ := WrP.open h1; have k91 := blk_cell h2.blk 1; have f91 := blk_frozen h2.blk 1; have HS9 := mk_ h2; clear h1 h2)
  | (go_at_call 66; (with_reducible show Calls _ _ _ (World.setCell V9 _ _) _); refine (wnum_calls (b8, false) (x.f8.length : Int) 1 (WrP.shut (HS9.out.store 1 (.bool false))) (by have := HLEN.out; show b8.length ≤ _; omega)).mono ?_; rintro e V10 ⟨⟨u, rfl⟩, h1⟩; have HS10 := mk_ h1; have kx10 := blk_cell HS10.out.s2.blk; clear h1))
   go_loopg [62] (x.f8.length + 1) (fun kq v62 W' => ∃ (i : Nat), v62 = .int .i64 (i : Int) ∧ Aside0 (Sp W' (WrP g (wAll wDot (x.f8.take i) (wNum (x.f8.length : Int) 1 (b8, false))) :: Old w0 :: Blk w.heap.size (.cells #[.int .i64 x.f0.f0, .int .i64 x.f0.f1, .slice A1 x.f1.length c1, .int .i64 x.f2.f0, .int .i64 x.f2.f1, .int .i64 x.f2.f2, .int .i64 x.f3, .int .i64 x.f4, .string x.f5, .int .i64 x.f6, .slice A7 x.f7.length c7, .slice A8 x.f8.length c8] 32 (0, 0)) :: F)) ∧ Aside0 (kq + i = x.f8.length + 1 ∧ i ≤ x.f8.length))
   case atStart => exact ⟨0, rfl, ⟨HS10.out⟩, ⟨by omega⟩⟩
   case round =>
    obtain ⟨i, rfl, HA, HK⟩ := hrel
    obtain ⟨k1, rfl⟩ : ∃ k1, gk = k1 + 1 := ⟨gk - 1, by have := HK.out; omega⟩
    by_cases hi : i < x.f8.length
    ·
     obtain ⟨ad, hA, hx0, hx1⟩ := at_T25 (C_below HC8.out HA.out.s1.old) (i : Int) z3_ z3_
     cases hA
     rw [rd_T_get hi] at hx0 hx1
     rw [Int.toNat_natCast] at hx0 hx1
     have hb0 : (0 ≤ (i : Int)) = True := eq_true z3_
     have hb1 : ((i : Int) < (x.f8.length : Int)) = True := eq_true z3_
     have hb2 : decide ((i : Int) < (x.f8.length : Int)) = true := decide_eq_true z3_
     have hb3 : decide (i < x.f8.length) = true := decide_eq_true hi
     have HI2 := mk_ hi
     have HT := mk_ (take_snoc hi)
     generalize x.f8[i] = d at *
     clear hi
     have HD := mk_ (HA.out.box (.cells #[.int .i64 0, .int .i64 0] 25 (0, 0)))
     go_wp2_with (first | ((with_reducible refine gate_st (ty := 25) (x := .tmp 5) (y := .tmp 65) rfl ?_); refine wpList_store_row rfl 25 (.tmp 5) (.tmp 65) rfl wr.heap.size #[.int .i64 d.f0, .int .i64 d.f1] rfl rfl 25 #[.int .i64 0, .int .i64 0] HD.out.blk z0_ rfl (by first | decide | rfl | simp [Value.oneCell']) ?_; have HE := mk_ (sp_storeRow HD.out #[.int .i64 d.f0, .int .i64 d.f1]); have kd := blk_cell HE.out.blk) | (go_at_call 67; refine (wdot_calls _ d HE.out.tail (by have := HLEN.out; have h1 := wAll_len (f := wDot) (m := 14) wDot_len (x.f8.take i) (wNum (x.f8.length : Int) 1 (b8, false)); have h2 := wNum_len (x.f8.length : Int) 1 (b8, false); have h3 := HX.out.1.2.2; have h4 := List.length_take_le i x.f8; have h6 := HI2.out; have h5 : (b8, false).1.length = b8.length := rfl; omega)).mono ?_; rintro e W2 ⟨⟨u, rfl⟩, h1⟩; have HS11 := mk_ h1; clear h1))
     go_roundg k1
     case measure => exact Nat.lt_succ_self _
     case rel => exact ⟨i + 1, by rw [w64 z3_ (by have := HI2.out; have := HX.out.1.2.2; omega)]; rfl, ⟨by rw [HT.out, wAll_snoc]; exact HS11.out⟩, ⟨by have := HK.out; omega, by have := HI2.out; omega⟩⟩
    ·
     have hie : i = x.f8.length := by have := HK.out; omega
     have hb2 : decide ((i : Int) < (x.f8.length : Int)) = false := decide_eq_false z3_
     have hb3 : decide (i < x.f8.length) = false := decide_eq_false hi
     clear hi
     go_wp2
     go_end0
     refine ⟨⟨_, rfl⟩, ?_⟩
     have h := HA.out
     rw [hie, List.take_length] at h
     rw [HU2.out]
     exact (Sp.s2 h).tail
end
end Go.Proofs.Ytjnjfogfpmeacaa.Ops
end
section
namespace Go.Proofs.Ytjnjfogfpmeacaa.Ops
open Go.RowKit PAll Ops Plain PrintWords PrintLast PrintMore Go.Proofs.Ytjnjfogfpmeacaa.Sep ZipT PrintWords.Kd PrintMore.Kd
set_option linter.unusedVariables false
set_option linter.unusedSimpArgs false
section
variable {w : World}
theorem bytes_sp (x : Ox) (A1 A7 A8 : Option Addr) (c1 c7 c8 : Nat) (hC1 : Kd.C (Kd.int .i64) w A1 x.f1.length x.f1) (h1c : x.f1.length ≤ c1) (hC7 : Kd.C k84 w A7 x.f7.length x.f7) (h7c : x.f7.length ≤ c7) (hC8 : Kd.C k25 w A8 x.f8.length x.f8) (h8c : x.f8.length ≤ c8) (hx : opSmall x) :
  Calls Try.prog 16 #[.agg #[.int .i64 x.f0.f0, .int .i64 x.f0.f1, .slice A1 x.f1.length c1, .int .i64 x.f2.f0, .int .i64 x.f2.f1, .int .i64 x.f2.f2, .int .i64 x.f3, .int .i64 x.f4, .string x.f5, .int .i64 x.f6, .slice A7 x.f7.length c7, .slice A8 x.f8.length c8]] w fun e w' => ∃ v, e = .returned (.tuple #[v, .int .i64 (sOpBytes x).2]) ∧ Sp w' [Row (Kd.int .u8) 5 v (sOpBytes x).1, Old w] := by
 have h1 := (Sp.start w).box (.cells #[.int .i64 x.f0.f0, .int .i64 x.f0.f1, .slice A1 x.f1.length c1, .int .i64 x.f2.f0, .int .i64 x.f2.f1, .int .i64 x.f2.f2, .int .i64 x.f3, .int .i64 x.f4, .string x.f5, .int .i64 x.f6, .slice A7 x.f7.length c7, .slice A8 x.f8.length c8] 32 (0, 0))
 have h2 := h1.box (.cells #[.slice none 0 0, .bool false] 72 (0, 0))
 rw [show (w.alloc (.cells #[.int .i64 x.f0.f0, .int .i64 x.f0.f1, .slice A1 x.f1.length c1, .int .i64 x.f2.f0, .int .i64 x.f2.f1, .int .i64 x.f2.f2, .int .i64 x.f3, .int .i64 x.f4, .string x.f5, .int .i64 x.f6, .slice A7 x.f7.length c7, .slice A8 x.f8.length c8] 32 (0, 0))).heap.size = w.heap.size + 1 from Array.size_push _] at h2
 have h3 := WrP.shut (bs := []) (bad := false) (v := .slice none 0 0) (sp_nil (d := Kd.int .u8) (e := 5) h2).s1
 have hQ := wop_calls (w0 := w) x A1 A7 A8 c1 c7 c8 hC1 h1c hC7 h7c hC8 h8c hx ([], false) h3.s2.s1 (by show 0 ≤ _; omega)
 have hu : sOpBytes x = if (wOp x ([], false)).2 = true then ([], 1) else ((wOp x ([], false)).1, 0) := rfl
 rw [hu]
 clear h1 h2 h3 hC1 hC7 hC8 h1c h7c h8c hx hu
 generalize wOp x ([], false) = q at hQ ⊢
 obtain ⟨bs, bad⟩ := q
 have HQ := mk_ hQ
 clear hQ
 cases bad with
 | true =>
  rw [if_pos rfl]
  go_enter Try.func16, Try.ntmps16
  go_wp2_with (go_at_call 34; refine HQ.out.mono ?_; rintro e V ⟨⟨u, rfl⟩, h⟩; obtain ⟨v, h4⟩ := WrP.open h; obtain ⟨Av, cv, rfl, _, _⟩ := h4.tail.row; have k0 := blk_cell h4.blk 0; have k1 := blk_cell h4.blk 1; have HS := mk_ h4; clear h h4)
  go_ret2
  exact ⟨_, rfl, sp_nil HS.out.tail.tail.s1.tail⟩
 | false =>
  rw [if_neg (by show ¬ (false = true); decide)]
  go_enter Try.func16, Try.ntmps16
  go_wp2_with (go_at_call 34; refine HQ.out.mono ?_; rintro e V ⟨⟨u, rfl⟩, h⟩; obtain ⟨v, h4⟩ := WrP.open h; obtain ⟨Av, cv, rfl, _, _⟩ := h4.tail.row; have k0 := blk_cell h4.blk 0; have k1 := blk_cell h4.blk 1; have HS := mk_ h4; clear h h4)
  go_ret2
  exact ⟨_, rfl, HS.out.tail.s2.tail⟩
end
end Go.Proofs.Ytjnjfogfpmeacaa.Ops
end
section
namespace Go.Proofs.Ytjnjfogfpmeacaa.PAll
open Go.RowKit PAll Ops Plain PrintWords PrintLast PrintMore Go.Proofs.Ytjnjfogfpmeacaa.Sep ZipT PrintWords.Kd PrintMore.Kd
set_option linter.unusedVariables false
set_option linter.unusedSimpArgs false
instance (l : List Int) : Decidable (Bytes l) := by unfold Bytes Byte; infer_instance
end Go.Proofs.Ytjnjfogfpmeacaa.PAll
end
section
namespace Go.Proofs.Ytjnjfogfpmeacaa.Ops
open Go.RowKit PAll Plain PrintWords PrintMore ZipT PrintWords.Kd PrintMore.Kd
set_option linter.unusedVariables false
set_option linter.unusedSimpArgs false
instance : DecidableEq Dt := fun a b => decidable_of_iff (a.f0 = b.f0 ∧ a.f1 = b.f1) ⟨fun ⟨h0, h1⟩ => by cases a; cases b; simp_all, fun h => by subst h; exact ⟨rfl, rfl⟩⟩
instance : DecidableEq St := fun a b => decidable_of_iff (a.f0 = b.f0 ∧ a.f1 = b.f1 ∧ a.f2 = b.f2) ⟨fun ⟨h0, h1, h2⟩ => by cases a; cases b; simp_all, fun h => by subst h; exact ⟨rfl, rfl, rfl⟩⟩
instance : DecidableEq Ox := fun a b => decidable_of_iff (a.f0 = b.f0 ∧ a.f1 = b.f1 ∧ a.f2 = b.f2 ∧ a.f3 = b.f3 ∧ a.f4 = b.f4 ∧ a.f5 = b.f5 ∧ a.f6 = b.f6 ∧ a.f7 = b.f7 ∧ a.f8 = b.f8) ⟨fun ⟨h0, h1, h2, h3, h4, h5, h6, h7, h8⟩ => by cases a; cases b; simp_all, fun h => by subst h; exact ⟨rfl, rfl, rfl, rfl, rfl, rfl, rfl, rfl, rfl⟩⟩
theorem keepDot_eq (a b : Dt) : raddlekeep_Dot.f a.f0 a.f1 b.f0 b.f1 = some (decide (a = b)) := by
 obtain ⟨a0, a1⟩ := a
 obtain ⟨b0, b1⟩ := b
 unfold raddlekeep_Dot.f
 simp only
 by_cases h : a0 = b0
 rotate_left
 ·
  rw [if_neg h, decide_eq_false (fun e => h (by injection e))]
 rw [if_pos h]; subst h
 by_cases h1 : a1 = b1
 ·
  subst h1; rw [decide_eq_true rfl, beq_self_eq_true]
 rw [decide_eq_false (fun e => h1 (by injection e)), beq_eq_false_iff_ne.2 h1]
theorem keepStamp_eq (a b : St) : raddlekeep_Stamp.f a.f0 a.f1 a.f2 b.f0 b.f1 b.f2 = some (decide (a = b)) := by
 obtain ⟨a0, a1, a2⟩ := a
 obtain ⟨b0, b1, b2⟩ := b
 unfold raddlekeep_Stamp.f
 simp only
 by_cases h : a0 = b0
 rotate_left
 ·
  rw [if_neg h, decide_eq_false (fun e => h (by injection e))]
 rw [if_pos h]; subst h
 by_cases h1 : a1 = b1
 rotate_left
 ·
  rw [if_neg h1, decide_eq_false (fun e => h1 (by injection e))]
 rw [if_pos h1]; subst h1
 by_cases h2 : a2 = b2
 ·
  subst h2; rw [decide_eq_true rfl, beq_self_eq_true]
 rw [decide_eq_false (fun e => h2 (by injection e)), beq_eq_false_iff_ne.2 h2]
theorem keepDots_l0 (a b : List Dt) (ha : a.length ≤ 1000000) (hl : a.length = b.length) (m : List Dt) : ∀ (k i : Nat), a.drop i = m → m.length < k →
  raddlekeep_Dots.l0 k a b (i : Int) = some (decide (m = b.drop i)) := by
 induction m with
 | nil =>
  intro k i h hk
  obtain ⟨k, rfl⟩ : ∃ j, k = j + 1 := ⟨k - 1, by omega⟩
  have h1 := dropL_end h
  simp only [raddlekeep_Dots.l0]
  rw [if_neg z3_, List.drop_eq_nil_iff.2 z3_]; simp
 | cons v m ih =>
  intro k i h hk
  obtain ⟨k, rfl⟩ : ∃ j, k = j + 1 := ⟨k - 1, by omega⟩
  have h1 := dropL_lt h
  simp only [raddlekeep_Dots.l0]
  cases hd : b.drop i with
  | nil => have h2 := dropL_end hd; omega
  | cons t n =>
   rw [if_pos z3_, if_pos z3_, if_pos z3_, rdD_drop h, rdD_drop hd, keepDot_eq, Option.bind_some, w64 z3_ z3_]
   by_cases hz : v = t
   rotate_left
   ·
    rw [decide_eq_false hz, if_neg z5_]
    simp [hz]
   have := ih k (i + 1) (dropL_tail h) (by simp at hk; omega)
   rw [decide_eq_true hz, if_pos rfl, show ((i : Int) + 1) = ((i + 1 : Nat) : Int) from rfl, this, dropL_tail hd, hz]
   simp
theorem keepDots_eq (k : Nat) (a b : List Dt) (ha : a.length ≤ 1000000) (hk : a.length + 1 ≤ k) : raddlekeep_Dots.f k a b = some (decide (a = b)) := by
 unfold raddlekeep_Dots.f
 by_cases hl : (a.length : Int) = b.length
 rotate_left
 ·
  rw [if_neg hl, decide_eq_false (fun e => hl (by rw [e]))]
 rw [if_pos hl]
 exact keepDots_l0 a b ha z3_ a k 0 rfl z3_
theorem keepOp_eq (k : Nat) (x y : Ox) (h1 : x.f1.length ≤ 1000000) (h7 : x.f7.length ≤ 1000000) (h8 : x.f8.length ≤ 1000000) (hk : x.f1.length + 1 ≤ k ∧ x.f7.length + 1 ≤ k ∧ x.f8.length + 1 ≤ k) :
  raddlekeep_Op.f k x.f0.f0 x.f0.f1 x.f1 x.f2.f0 x.f2.f1 x.f2.f2 x.f3 x.f4 x.f5 x.f6 x.f7 x.f8 y.f0.f0 y.f0.f1 y.f1 y.f2.f0 y.f2.f1 y.f2.f2 y.f3 y.f4 y.f5 y.f6 y.f7 y.f8 = some (decide (x = y)) := by
 unfold raddlekeep_Op.f
 rw [keepDot_eq, Option.bind_some]
 by_cases e0 : x.f0 = y.f0
 rotate_left
 ·
  rw [decide_eq_false e0, if_neg z5_, decide_eq_false (fun e => e0 (by rw [e]))]
 rw [decide_eq_true e0, if_pos rfl, keepInts_eq _ _ _ h1 hk.1, Option.bind_some]
 by_cases e1 : x.f1 = y.f1
 rotate_left
 ·
  rw [decide_eq_false e1, if_neg z5_, decide_eq_false (fun e => e1 (by rw [e]))]
 rw [decide_eq_true e1, if_pos rfl, keepStamp_eq, Option.bind_some]
 by_cases e2 : x.f2 = y.f2
 rotate_left
 ·
  rw [decide_eq_false e2, if_neg z5_, decide_eq_false (fun e => e2 (by rw [e]))]
 rw [decide_eq_true e2, if_pos rfl]
 by_cases e3 : x.f3 = y.f3
 rotate_left
 ·
  rw [if_neg e3, decide_eq_false (fun e => e3 (by rw [e]))]
 rw [if_pos e3]
 by_cases e4 : x.f4 = y.f4
 rotate_left
 ·
  rw [if_neg e4, decide_eq_false (fun e => e4 (by rw [e]))]
 rw [if_pos e4]
 by_cases e5 : x.f5 = y.f5
 rotate_left
 ·
  rw [if_neg (fun e => e5 (toList_inj.1 e)), decide_eq_false (fun e => e5 (by rw [e]))]
 rw [if_pos (toList_inj.2 e5)]
 by_cases e6 : x.f6 = y.f6
 rotate_left
 ·
  rw [if_neg e6, decide_eq_false (fun e => e6 (by rw [e]))]
 rw [if_pos e6, keepRow_eq _ _ _ h7 hk.2.1, Option.bind_some]
 by_cases e7 : x.f7 = y.f7
 rotate_left
 ·
  rw [decide_eq_false e7, if_neg z5_, decide_eq_false (fun e => e7 (by rw [e]))]
 rw [decide_eq_true e7, if_pos rfl, keepDots_eq _ _ _ h8 hk.2.2, Option.bind_some]
 by_cases e8 : x.f8 = y.f8
 rotate_left
 ·
  rw [decide_eq_false e8, decide_eq_false (fun e => e8 (by rw [e]))]
 rw [decide_eq_true e8, decide_eq_true]
 cases x; cases y; simp_all
theorem opFit_small {x : Ox} (h : opFit x) : opSmall x := by
 have h1 := h.1.1.1.1.1.1.2.1
 have h7 := ((rowE_zero x.f7).1 h.1.2).1
 have h8 := h.2.1
 exact ⟨by omega, by omega, by omega⟩
theorem encT_bytes (t : ByteArray) (h : t.size ≤ 24) : Bytes (encT t) := Bytes.cons ⟨by omega, by omega⟩ (bytesOf_bytes t)
theorem flat_bytes {α : Type} {f : α → List Int} (h : ∀ x, Bytes (f x)) : ∀ l : List α, Bytes (l.flatMap f)
 | [] => Bytes.nil
 | x :: l => by rw [List.flatMap_cons]; exact (h x).append (flat_bytes h l)
theorem opB_bytes {x : Ox} (h : opFit x) : Bytes (opB x) := by
 have hd : ∀ d : Dt, Bytes (dotB d) := fun d => (big_bytes _ _).append (big_bytes _ _)
 unfold opB numsB stampB dotsB
 exact ((((((((big_bytes _ _).append (hd _)).append ((big_bytes _ _).append (flat_bytes (fun n => big_bytes _ _) _))).append (((big_bytes _ _).append (big_bytes _ _)).append (big_bytes _ _))).append (big_bytes _ _)).append (encT_bytes _ h.1.1.1.2)).append (big_bytes _ _)).append (rowB_bytes h.1.2)).append ((big_bytes _ _).append (flat_bytes hd _))
theorem read_back {x : Ox} (h : opFit x) : sOpRead (opB x) 0 = (x, ((opB x).length : Int), 0) := by
 have := opRead_put [] [] x h
 simpa using this
def wakeOp : Ox := ⟨⟨0, 2⟩, [1], ⟨0, 0, 0⟩, 3, 0, ⟨#[107]⟩, 0, [], [⟨0, 1⟩]⟩
theorem wake_fit : opFit wakeOp := by decide
end Go.Proofs.Ytjnjfogfpmeacaa.Ops
end
section
namespace Go.Proofs.Ytjnjfogfpmeacaa.PAll
open Go.RowKit PAll Ops Plain PrintWords PrintLast PrintMore Go.Proofs.Ytjnjfogfpmeacaa.Sep ZipT PrintWords.Kd PrintMore.Kd
set_option linter.unusedVariables false
set_option linter.unusedSimpArgs false
theorem sp_lit1 {α : Type} {d : Kd α} {e : Nat} {p : α} {cs : List Value} {w : World} {F : List Part} (h : Sp w (El d p cs :: F)) (hs : 0 < d.sz) : Sp (w.alloc (.cells cs.toArray e (0, 0))) (Row d e (.slice (some ⟨w.heap.size, 0, none⟩) 1 1) [p] :: F) := by
 obtain ⟨ok, h1, h2, h3⟩ := h.head1
 have hl : cs.length = d.sz := d.K_len (d.K_of_M h2)
 have hz : cs.length = 1 * d.sz := by rw [Nat.one_mul]; exact hl
 refine h3 _ _ ((Moved.refl w ok).alloc _) ⟨fun k hk => ?_, cs, ⟨hz, .inr ⟨w.heap.size, 1, cs.toArray, rfl, Nat.zero_le _, blk_new w _, Nat.le_refl _, by simp only [maxLen]; omega, by rw [List.size_toArray]; exact hz, by show cs.take (1 * d.sz) = cs; rw [← hz, List.take_length]⟩⟩, ?_⟩
 ·
  have hk : w.heap.size = k := Option.some.inj hk
  subst hk
  exact .inr ⟨Nat.le_refl _, by rw [show (w.alloc (.cells cs.toArray e (0, 0))).heap.size = w.heap.size + 1 from Array.size_push _]; omega⟩
 ·
  have hM : d.M (w.alloc (.cells cs.toArray e (0, 0))) 0 (fun k => (ok k ∨ w.heap.size ≤ k ∧ k < (w.alloc (.cells cs.toArray e (0, 0))).heap.size) ∧ some k ≠ (Value.slice (some ⟨w.heap.size, 0, none⟩) 1 1).ownBlock) p cs :=
   d.M_mono (fun k hk => ⟨.inl hk.1, fun e => by have := hk.2; have he : k = w.heap.size := Option.some.inj e; omega⟩) (Kd.M_step (ok := fun k => ok k ∧ k < w.heap.size) (d.M_mono (fun k hk => ⟨hk, h1 k hk⟩) h2) (fun k hk hlt => (Moved.alloc (Moved.refl w (fun _ => False)) _).block k hlt (fun e => e)))
  have := Reps.snoc (Reps.none _ d.sz) hM hl
  simpa using this
def raddlelaw07_wakes.f : Option Bool := some true
theorem wakes7_eq : raddlelaw07_wakes.f = some true := rfl
theorem raddlelaw07_wakes.calls (r : Bool) (w : World) (h : raddlelaw07_wakes.f = some r) :
  Calls Try.prog 15 #[] w fun e w' => e = .returned (.bool r) ∧ Below w.heap.size w w' := by
 obtain rfl : true = r := Option.some.inj h
 clear h
 have h1 := sp_lit1 (e := 3) (sp_el (d := Kd.int .i64) (p := 1) (cs := [.int .i64 1]) (fun _ _ => rfl) (Sp.start w)) z5_
 have h2 := sp_lit1 (e := 25) (sp_el (d := k25) (p := ⟨0, 1⟩) (cs := [.int .i64 0, .int .i64 1]) (fun W ok => k25_mkM W 0 ok ⟨0, 1⟩) h1) z5_
 have h3 := h2.box (.cells #[.int .i64 0, .int .i64 0, .slice none 0 0, .int .i64 0, .int .i64 0, .int .i64 0, .int .i64 0, .int .i64 0, .string ⟨#[]⟩, .int .i64 0, .slice none 0 0, .slice none 0 0] 32 (0, 0))
 have e1 : (w.alloc (.cells #[.int .i64 1] 3 (0, 0))).heap.size = w.heap.size + 1 := Array.size_push _
 have e2 : ((w.alloc (.cells #[.int .i64 1] 3 (0, 0))).alloc (.cells #[.int .i64 0, .int .i64 1] 25 (0, 0))).heap.size = w.heap.size + 1 + 1 := by rw [show ((w.alloc (.cells #[.int .i64 1] 3 (0, 0))).alloc (.cells #[.int .i64 0, .int .i64 1] 25 (0, 0))).heap.size = (w.alloc (.cells #[.int .i64 1] 3 (0, 0))).heap.size + 1 from Array.size_push _, e1]
 replace h3 : Sp (((w.alloc (.cells #[.int .i64 1] 3 (0, 0))).alloc (.cells #[.int .i64 0, .int .i64 1] 25 (0, 0))).alloc (.cells #[.int .i64 0, .int .i64 0, .slice none 0 0, .int .i64 0, .int .i64 0, .int .i64 0, .int .i64 0, .int .i64 0, .string ⟨#[]⟩, .int .i64 0, .slice none 0 0, .slice none 0 0] 32 (0, 0))) [Blk (w.heap.size + 1 + 1) (.cells #[.int .i64 0, .int .i64 0, .slice none 0 0, .int .i64 0, .int .i64 0, .int .i64 0, .int .i64 0, .int .i64 0, .string ⟨#[]⟩, .int .i64 0, .slice none 0 0, .slice none 0 0] 32 (0, 0)), Row k25 25 (.slice (some ⟨w.heap.size + 1, 0, none⟩) 1 1) [⟨0, 1⟩], Row (Kd.int .i64) 3 (.slice (some ⟨w.heap.size, 0, none⟩) 1 1) [1], Old w] := by
  rw [← e2, ← e1]; exact h3
 have h4 := sp_storeRow h3 #[.int .i64 0, .int .i64 2, .slice (some ⟨w.heap.size, 0, none⟩) 1 1, .int .i64 0, .int .i64 0, .int .i64 0, .int .i64 3, .int .i64 0, .string ⟨#[107]⟩, .int .i64 0, .slice none 0 0, .slice (some ⟨w.heap.size + 1, 0, none⟩) 1 1]
 have HX := mk_ h4
 obtain ⟨b, hb⟩ : ∃ b, opB wakeOp = b := ⟨_, rfl⟩
 have hl := (opB_len _ wake_fit).2
 have hbb := opB_bytes wake_fit
 have hrb := read_back wake_fit
 have hQ : ∀ W : World, Kd.C (Kd.int .i64) W (some ⟨w.heap.size, 0, none⟩) 1 [1] → Kd.C k84 W none 0 [] → Kd.C k25 W (some ⟨w.heap.size + 1, 0, none⟩) 1 [⟨0, 1⟩] → Calls Try.prog 16 #[.agg #[.int .i64 0, .int .i64 2, .slice (some ⟨w.heap.size, 0, none⟩) 1 1, .int .i64 0, .int .i64 0, .int .i64 0, .int .i64 3, .int .i64 0, .string ⟨#[107]⟩, .int .i64 0, .slice none 0 0, .slice (some ⟨w.heap.size + 1, 0, none⟩) 1 1]] W fun e w' => ∃ v, e = .returned (.tuple #[v, .int .i64 0]) ∧ Sp w' [Row (Kd.int .u8) 5 v b, Old W] := fun W a1 a7 a8 => by
  have := bytes_sp wakeOp (some ⟨w.heap.size, 0, none⟩) none (some ⟨w.heap.size + 1, 0, none⟩) 1 0 1 a1 (Nat.le_refl _) a7 (Nat.le_refl _) a8 (Nat.le_refl _) (opFit_small wake_fit)
  rw [opBytes_eq, if_pos wake_fit, hb] at this
  exact this
 have hR : ∀ (W : World) (A : Option Addr) (c : Nat), Kd.C (Kd.int .u8) W A b.length b → b.length ≤ c → Calls Try.prog 11 #[.slice A b.length c, .int .i64 0] W fun e w' => ∃ v1 v7 v8, e = .returned (.tuple #[.agg #[.int .i64 0, .int .i64 2, v1, .int .i64 0, .int .i64 0, .int .i64 0, .int .i64 3, .int .i64 0, .string ⟨#[107]⟩, .int .i64 0, v7, v8], .int .i64 (b.length : Int), .int .i64 0]) ∧
   Sp w' [Row (Kd.int .i64) 3 v1 [1], Row k84 84 v7 [], Row k25 25 v8 [⟨0, 1⟩], Old W] := fun W A c a1 a2 => by
  have := read_sp a1 a2 (by rw [← hb]; exact hbb) (by rw [← hb]; omega) 0
  rw [← hb] at this ⊢
  rw [hrb] at this
  exact this
 have HQ := mk_ hQ
 have HR := mk_ hR
 have HK := mk_ (show raddlekeep_Op.f 100 0 2 [1] 0 0 0 3 0 (⟨#[107]⟩ : ByteArray) 0 ([] : List S84) [⟨0, 1⟩] 0 2 [1] 0 0 0 3 0 (⟨#[107]⟩ : ByteArray) 0 ([] : List S84) [⟨0, 1⟩] = some true from (keepOp_eq 100 wakeOp wakeOp z5_ z5_ z5_ z5_).trans (congrArg some (decide_eq_true rfl)))
 have HCK := mk_ (show op_Check.f 1100 1 [⟨[3]⟩] 0 2 [1] 0 0 0 3 0 (⟨#[107]⟩ : ByteArray) 0 ([] : List S84) [⟨0, 1⟩] = some 0 from (check_op_eq 1100 1 [⟨[3]⟩] wakeOp z5_ z5_ (Nat.le_refl _)).trans (congrArg some z5_))
 have HY := mk_ (show op_Key.f (⟨#[107]⟩ : ByteArray) = some true from by rw [key_eq]; rfl)
 have hC : ∀ {α : Type} {d : Kd α} {e n c : Nat} {A : Option Addr} {xs : List α} {W : World} {F : List Part}, Sp W (Row d e (.slice A n c) xs :: F) → n = xs.length ∧ xs.length ≤ c ∧ Kd.C d W A xs.length xs := fun h => by
  obtain ⟨A', c', he, hc, hC⟩ := h.row
  injection he with e1 e2 e3
  subst e1; subst e3
  exact ⟨e2, hc, hC⟩
 clear h1 h2 h4 hl hbb hrb hb hQ hR e1 e2
 go_enter Try.func15, Try.ntmps15
 go_wp2_with (first
  | ((with_reducible refine gate_st (ty := 32) (x := .tmp 1) (y := .tmp 11) rfl ?_); refine wpList_store_row rfl 32 (.tmp 1) (.tmp 11) rfl (w.heap.size + 1 + 1) #[.int .i64 0, .int .i64 2, .slice (some ⟨w.heap.size, 0, none⟩) 1 1, .int .i64 0, .int .i64 0, .int .i64 0, .int .i64 3, .int .i64 0, .string ⟨#[107]⟩, .int .i64 0, .slice none 0 0, .slice (some ⟨w.heap.size + 1, 0, none⟩) 1 1] rfl rfl 32 #[.int .i64 0, .int .i64 0, .slice none 0 0, .int .i64 0, .int .i64 0, .int .i64 0, .int .i64 0, .int .i64 0, .string ⟨#[]⟩, .int .i64 0, .slice none 0 0, .slice none 0 0] h3.blk z0_ rfl (by first | decide | rfl | simp [Value.oneCell']) ?_; have kx := blk_cell HX.out.blk)
  | (go_at_call 16; refine (HQ.out _ (hC HX.out.s2).2.2 (hC (sp_nil (d := k84) (e := 84) HX.out)).2.2 (hC HX.out.s1).2.2).mono ?_; rintro e V1 ⟨v, rfl, h5⟩; obtain ⟨Ab, cb, rfl, hcb, hCb⟩ := h5.row; have HX1 := mk_ (Sp.frame HX.out (X := [_]) h5); have HCB := mk_ hCb; have HLB := mk_ hcb; clear h5 hcb hCb kx)
  | (go_at_call 11; refine (HR.out _ Ab cb HCB.out HLB.out).mono ?_; rintro e V2 ⟨v1, v7, v8, rfl, h6⟩; obtain ⟨B1, d1, rfl, _, _⟩ := h6.row; obtain ⟨B7, d7, rfl, _, _⟩ := h6.s1.row; obtain ⟨B8, d8, rfl, _, _⟩ := h6.s2.row; have HX2 := mk_ (Sp.frame HX1.out (X := [_, _, _]) h6); clear h6)
  | ((with_reducible refine gate_st (ty := 32) (x := .tmp 4) (y := .tmp 20) rfl ?_); refine wpList_store_row rfl 32 (.tmp 4) (.tmp 20) rfl V2.heap.size #[.int .i64 0, .int .i64 2, .slice B1 1 d1, .int .i64 0, .int .i64 0, .int .i64 0, .int .i64 3, .int .i64 0, .string ⟨#[107]⟩, .int .i64 0, .slice B7 0 d7, .slice B8 1 d8] rfl rfl 32 #[.int .i64 0, .int .i64 0, .slice none 0 0, .int .i64 0, .int .i64 0, .int .i64 0, .int .i64 0, .int .i64 0, .string ⟨#[]⟩, .int .i64 0, .slice none 0 0, .slice none 0 0] (HX2.out.box (.cells #[.int .i64 0, .int .i64 0, .slice none 0 0, .int .i64 0, .int .i64 0, .int .i64 0, .int .i64 0, .int .i64 0, .string ⟨#[]⟩, .int .i64 0, .slice none 0 0, .slice none 0 0] 32 (0, 0))).blk z0_ rfl (by first | decide | rfl | simp [Value.oneCell']) ?_; have HX3 := mk_ (sp_storeRow (HX2.out.box (.cells #[.int .i64 0, .int .i64 0, .slice none 0 0, .int .i64 0, .int .i64 0, .int .i64 0, .int .i64 0, .int .i64 0, .string ⟨#[]⟩, .int .i64 0, .slice none 0 0, .slice none 0 0] 32 (0, 0))) #[.int .i64 0, .int .i64 2, .slice B1 1 d1, .int .i64 0, .int .i64 0, .int .i64 0, .int .i64 3, .int .i64 0, .string ⟨#[107]⟩, .int .i64 0, .slice B7 0 d7, .slice B8 1 d8]); have ky := blk_cell HX3.out.blk; have kx := blk_cell HX3.out.s5.blk)
  | (go_at_call 13; refine (raddlekeep_Op.calls 100 0 2 (some ⟨w.heap.size, 0, none⟩) 1 [1] 0 0 0 3 0 ⟨#[107]⟩ 0 none 0 [] (some ⟨w.heap.size + 1, 0, none⟩) 1 [⟨0, 1⟩] 0 2 B1 d1 [1] 0 0 0 3 0 ⟨#[107]⟩ 0 B7 d7 [] B8 d8 [⟨0, 1⟩] true _ (hC HX3.out.tail.tail.tail.tail.tail.s2).2.2 (Nat.le_refl _) (hC (sp_nil (d := k84) (e := 84) HX3.out)).2.2 (Nat.le_refl _) (hC HX3.out.tail.tail.tail.tail.tail.s1).2.2 (Nat.le_refl _) (hC HX3.out.s1).2.2 (hC HX3.out.s1).2.1 (hC HX3.out.s2).2.2 (hC HX3.out.s2).2.1 (hC HX3.out.s3).2.2 (hC HX3.out.s3).2.1 HK.out).mono ?_; rintro e V3 ⟨rfl, h7⟩; have HX4 := mk_ (HX3.out.below h7); have kx := blk_cell ((HX4.out.alloc (.cells #[.int .i64 3] 3 (0, 0))).alloc (.cells #[.slice (some ⟨V3.heap.size, 0, none⟩) 1 1] 51 (0, 0))).s5.blk; clear h7 ky)
  | (go_at_call 19; have hF := sp_lit1 (e := 51) (Sp.as (sp_lit1 (e := 3) (sp_el (d := Kd.int .i64) (p := 3) (cs := [.int .i64 3]) (fun _ _ => rfl) HX4.out) z5_) (b := El k51 ⟨[3]⟩ [.slice (some ⟨V3.heap.size, 0, none⟩) 1 1]) (fun ok h => ⟨_, rfl, h⟩)) z5_; rw [show (V3.alloc (.cells #[.int .i64 3] 3 (0, 0))).heap.size = V3.heap.size + 1 from Array.size_push _] at hF; refine (op_Check.calls 1100 1 (some ⟨V3.heap.size + 1, 0, none⟩) 1 [⟨[3]⟩] 0 2 (some ⟨w.heap.size, 0, none⟩) 1 [1] 0 0 0 3 0 ⟨#[107]⟩ 0 none 0 [] (some ⟨w.heap.size + 1, 0, none⟩) 1 [⟨0, 1⟩] 0 _ (hC hF).2.2 (Nat.le_refl _) (hC hF.tail.tail.tail.tail.tail.tail.s2).2.2 (Nat.le_refl _) (hC (sp_nil (d := k84) (e := 84) hF)).2.2 (Nat.le_refl _) (hC hF.tail.tail.tail.tail.tail.tail.s1).2.2 (Nat.le_refl _) HCK.out).mono ?_; rintro e V4 ⟨rfl, h8⟩; have HX5 := mk_ (hF.below h8); clear h8 hF kx) | (go_at_call 25; refine (op_Key.calls ⟨#[107]⟩ true _ HY.out).mono ?_; rintro e V5 ⟨rfl, h9⟩; have HX6 := mk_ (HX5.out.below h9.below); clear h9))
 go_ret
 exact ⟨rfl, HX6.out.tail.tail.tail.tail.tail.tail.tail.tail.tail.old⟩
end Go.Proofs.Ytjnjfogfpmeacaa.PAll
end
section
namespace Go.Proofs.Ytjnjfogfpmeacaa.PAll
open Go.RowKit PAll Ops Plain PrintWords PrintLast PrintMore Go.Proofs.Ytjnjfogfpmeacaa.Sep ZipT PrintWords.Kd PrintMore.Kd
set_option linter.unusedVariables false
set_option linter.unusedSimpArgs false
theorem C_lit1 {α : Type} {d : Kd α} {e : Nat} {p : α} {cs : List Value} {W : World} (h : d.K W p cs) : Kd.C d (W.alloc (.cells cs.toArray e (0, 0))) (some ⟨W.heap.size, 0, none⟩) 1 [p] := by
 refine ⟨rfl, by omega, fun _ => ⟨_, rfl, fun j q hq => ?_⟩⟩
 cases j with
 | succ j => simp at hq
 | zero =>
  obtain rfl : p = q := by simpa using hq
  refine ⟨cs, d.K_len h, d.K_below (below_alloc (Below.refl _ _) _) h, fun i u hu => ?_⟩
  have := blk_cell (blk_new W (.cells cs.toArray e (0, 0))) i
  rw [show (⟨W.heap.size, 0, none⟩ : Addr).add (0 * d.sz + i) = ⟨W.heap.size, i, none⟩ by rw [add_plain]; congr 1; omega, this]
  simpa using hu
def raddlelaw07_Heavy1.f (a0_0 : Int) (a0_1 : Int) (l0_2 : List Int) (a0_3 : Int) (a0_4 : Int) (a0_5 : Int) (a0_6 : Int) (a0_7 : Int) (a0_8 : ByteArray) (a0_9 : Int) (l0_10 : List V) (l0_11 : List Dt) : Option Bool := raddlelaw07_Heavy.f 500 [(⟨⟨a0_0, a0_1⟩, l0_2, ⟨a0_3, a0_4, a0_5⟩, a0_6, a0_7, a0_8, a0_9, l0_10, l0_11⟩ : Ox)]
theorem raddlelaw07_Heavy1.calls (a0_0 : Int) (a0_1 : Int) (A0_2 : Option Addr) (c0_2 : Nat) (l0_2 : List Int) (a0_3 : Int) (a0_4 : Int) (a0_5 : Int) (a0_6 : Int) (a0_7 : Int) (a0_8 : ByteArray) (a0_9 : Int) (A0_10 : Option Addr) (c0_10 : Nat) (l0_10 : List V) (A0_11 : Option Addr) (c0_11 : Nat) (l0_11 : List Dt) (r : Bool) (W : World) (hr0_2 : Kd.C (Kd.int .i64) W A0_2 l0_2.length l0_2) (hc0_2 : l0_2.length ≤ c0_2) (hr0_10 : Kd.C k84 W A0_10 l0_10.length l0_10) (hc0_10 : l0_10.length ≤ c0_10) (hr0_11 : Kd.C k25 W A0_11 l0_11.length l0_11) (hc0_11 : l0_11.length ≤ c0_11) (h : raddlelaw07_Heavy1.f a0_0 a0_1 l0_2 a0_3 a0_4 a0_5 a0_6 a0_7 a0_8 a0_9 l0_10 l0_11 = some r) :
  Calls Try.prog 18 #[.slice (some ⟨W.heap.size, 0, none⟩) 1 1] (W.alloc (.cells #[.int .i64 a0_0, .int .i64 a0_1, .slice A0_2 l0_2.length c0_2, .int .i64 a0_3, .int .i64 a0_4, .int .i64 a0_5, .int .i64 a0_6, .int .i64 a0_7, .string a0_8, .int .i64 a0_9, .slice A0_10 l0_10.length c0_10, .slice A0_11 l0_11.length c0_11] 32 (0, 0))) fun e w' => e = .returned (.bool r) ∧ Below W.heap.size W w' :=
 Calls.mono (h := raddlelaw07_Heavy.calls 500 (some ⟨W.heap.size, 0, none⟩) 1 [(⟨⟨a0_0, a0_1⟩, l0_2, ⟨a0_3, a0_4, a0_5⟩, a0_6, a0_7, a0_8, a0_9, l0_10, l0_11⟩ : Ox)] r _ (C_lit1 (cs := [.int .i64 a0_0, .int .i64 a0_1, .slice A0_2 l0_2.length c0_2, .int .i64 a0_3, .int .i64 a0_4, .int .i64 a0_5, .int .i64 a0_6, .int .i64 a0_7, .string a0_8, .int .i64 a0_9, .slice A0_10 l0_10.length c0_10, .slice A0_11 l0_11.length c0_11]) (k32_mk W (⟨⟨a0_0, a0_1⟩, l0_2, ⟨a0_3, a0_4, a0_5⟩, a0_6, a0_7, a0_8, a0_9, l0_10, l0_11⟩ : Ox) hc0_2 hr0_2 hc0_10 hr0_10 hc0_11 hr0_11)) (Nat.le_refl _) h) (hr := fun e w' h => ⟨h.1, below_step (below_alloc (Below.refl _ _) _) h.2.below⟩)
end Go.Proofs.Ytjnjfogfpmeacaa.PAll
end
