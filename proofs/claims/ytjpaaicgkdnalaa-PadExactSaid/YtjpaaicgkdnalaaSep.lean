/-
  Parts of memory held at once, no two of which share a block: what a call does to one of them leaves the others as they were.
  Conditions: none; plain theorems.
-/
import Derived.Test.YtjpaaicgkdnalaaWWords
namespace Go.Proofs.Ytjpaaicgkdnalaa.Sep
open Go.RowKit Go.Proofs.YtjpaaicgkdnalaaW.PrintWords
set_option linter.unusedVariables false
/-- From w to w' blocks of S alone, and new ones, may have turned. -/
structure Moved (w w' : World) (S : Nat → Prop) : Prop where
  os : w'.os = w.os
  tape : w'.tape = w.tape
  output : w'.output = w.output
  size : w.heap.size ≤ w'.heap.size
  block : ∀ k, k < w.heap.size → ¬ S k → w'.heap[k]? = w.heap[k]?
theorem Moved.refl (w : World) (S : Nat → Prop) : Moved w w S := ⟨rfl, rfl, rfl, Nat.le_refl _, fun _ _ _ => rfl⟩
theorem Moved.trans {w w1 w2 : World} {S S1 : Nat → Prop} (h : Moved w w1 S) (k : Moved w1 w2 S1) (hs : ∀ i, i < w.heap.size → S1 i → S i) : Moved w w2 S :=
  ⟨k.os.trans h.os, k.tape.trans h.tape, k.output.trans h.output, Nat.le_trans h.size k.size, fun i hi hn =>
    (k.block i (Nat.lt_of_lt_of_le hi h.size) (fun e => hn (hs i hi e))).trans (h.block i hi hn)⟩
theorem Moved.mono {w w' : World} {S S' : Nat → Prop} (h : Moved w w' S) (hs : ∀ i, i < w.heap.size → S i → S' i) : Moved w w' S' :=
  ⟨h.os, h.tape, h.output, h.size, fun i hi hn => h.block i hi (fun e => hn (hs i hi e))⟩
theorem Moved.of_below {w w' : World} (h : Below w.heap.size w w') (S : Nat → Prop) : Moved w w' S := ⟨h.os, h.tape, h.output, h.size, fun i hi _ => h.block i hi⟩
theorem Moved.of_grown {w w' : World} {row : Option Nat} (h : w.grownBy w' row) {S : Nat → Prop} (hr : ∀ i, row = some i → i < w.heap.size → S i) : Moved w w' S :=
  ⟨h.os, h.tape, h.output, h.size, fun i hi hn => h.block i hi (fun e => hn (hr i e.symm hi))⟩
theorem Moved.set {w w1 : World} {S : Nat → Prop} (h : Moved w w1 S) {p : Addr} (hp : p.block < w.heap.size → S p.block) (u : Value) : Moved w (w1.setCell p u) S :=
  h.trans (S1 := fun i => i = p.block) ⟨rfl, rfl, rfl, by simp [World.setCell], fun i _ hn => Below.heap_setCell w1 p u i hn⟩ (fun i hi e => by subst e; exact hp hi)
theorem Moved.alloc {w w1 : World} {S : Nat → Prop} (h : Moved w w1 S) (o : Obj) : Moved w (w1.alloc o) S :=
  h.trans (S1 := fun _ => False) (Moved.of_below (below_alloc (Below.refl _ _) o) _) (fun _ _ e => e.elim)
theorem Moved.drewN {w w1 : World} {S : Nat → Prop} (h : Moved w w1 S) (n : Nat) : Moved w (w1.drewN n) S := ⟨h.os, h.tape, h.output, h.size, h.block⟩
theorem Moved.drew {w w1 : World} {S : Nat → Prop} (h : Moved w w1 S) : Moved w w1.drew S := ⟨h.os, h.tape, h.output, h.size, h.block⟩
theorem Moved.below {w w1 w2 : World} {S : Nat → Prop} (h : Moved w w1 S) (k : Below w1.heap.size w1 w2) : Moved w w2 S :=
  h.trans (S1 := fun _ => False) (Moved.of_below k _) (fun _ _ e => e.elim)
theorem Moved.toBelow {w w' : World} {S : Nat → Prop} (h : Moved w w' S) (hs : ∀ i, i < w.heap.size → ¬ S i) : Below w.heap.size w w' := ⟨h.os, h.tape, h.output, h.size, fun i hi => h.block i hi (hs i hi)⟩
theorem Moved.blk {w w' : World} {S : Nat → Prop} (h : Moved w w' S) {g : Nat} {o : Obj} (hg : w.heap[g]? = some o) (hn : ¬ S g) : w'.heap[g]? = some o :=
  (h.block g (Array.getElem?_eq_some_iff.1 hg).1 hn).trans hg
/-- A part of memory: what is said of it, its blocks being among 'ok'. -/
structure Part where
  P : World → (Nat → Prop) → Prop
  mono : ∀ {w ok ok'}, P w ok → (∀ k, k < w.heap.size → ok k → ok' k) → P w ok'
  move : ∀ {w w' ok}, P w ok → Moved w w' (fun k => ¬ ok k) → P w' ok
theorem Part.moved (p : Part) {w w' : World} {ok S : Nat → Prop} (h : p.P w ok) (hm : Moved w w' S) (hd : ∀ k, k < w.heap.size → ok k → ¬ S k) : p.P w' ok :=
  p.move h (hm.mono (fun i hi hs e => hd i hi e hs))
/-- Parts, of blocks of 'fr', no two of which share one. -/
def Sep (w : World) : (Nat → Prop) → List Part → Prop
  | _, [] => True
  | fr, p :: ps => ∃ ok : Nat → Prop, (∀ k, ok k → fr k) ∧ p.P w ok ∧ Sep w (fun k => fr k ∧ ¬ ok k) ps
def Sp (w : World) (ps : List Part) : Prop := Sep w (fun k => k < w.heap.size) ps
theorem Sep.wide {w : World} : ∀ {ps : List Part} {fr fr' : Nat → Prop}, Sep w fr ps → (∀ k, fr k → fr' k) → Sep w fr' ps
  | [], _, _, _, _ => trivial
  | p :: ps, fr, fr', ⟨ok, h1, h2, h3⟩, h => ⟨ok, fun k hk => h k (h1 k hk), h2, Sep.wide h3 (fun k hk => ⟨h k hk.1, hk.2⟩)⟩
theorem Sep.moved {w w' : World} {S : Nat → Prop} (hm : Moved w w' S) : ∀ {ps : List Part} {fr : Nat → Prop}, Sep w fr ps → (∀ k, k < w.heap.size → fr k → ¬ S k) → Sep w' fr ps
  | [], _, _, _ => trivial
  | p :: ps, fr, ⟨ok, h1, h2, h3⟩, h => ⟨ok, h1, p.moved h2 hm (fun k hk hok => h k hk (h1 k hok)), Sep.moved hm h3 (fun k hk hf => h k hk hf.1)⟩
theorem Sep.swap {w : World} {fr : Nat → Prop} {a b : Part} {ps : List Part} : Sep w fr (a :: b :: ps) → Sep w fr (b :: a :: ps) := by
  rintro ⟨ok, h1, h2, ok', h1', h2', h3⟩
  exact ⟨ok', fun k hk => (h1' k hk).1, h2', ok, fun k hk => ⟨h1 k hk, fun hk' => (h1' k hk').2 hk⟩, h2, h3.wide (fun k hk => ⟨⟨hk.1.1, hk.2⟩, hk.1.2⟩)⟩
theorem Sep.cons {w : World} {fr : Nat → Prop} {a : Part} {ps qs : List Part} (f : ∀ fr, Sep w fr ps → Sep w fr qs) : Sep w fr (a :: ps) → Sep w fr (a :: qs) := by
  rintro ⟨ok, h1, h2, h3⟩
  exact ⟨ok, h1, h2, f _ h3⟩
theorem Sep.tail {w : World} {fr : Nat → Prop} {a : Part} {ps : List Part} : Sep w fr (a :: ps) → Sep w fr ps := by
  rintro ⟨ok, h1, h2, h3⟩
  exact h3.wide (fun k hk => hk.1)
theorem Sep.app {w : World} : ∀ {ps qs : List Part} {fr1 fr2 fr : Nat → Prop}, Sep w fr1 ps → Sep w fr2 qs → (∀ k, fr1 k → fr k) → (∀ k, fr2 k → fr k) → (∀ k, fr1 k → ¬ fr2 k) → Sep w fr (ps ++ qs)
  | [], qs, fr1, fr2, fr, _, h, _, h2, _ => h.wide h2
  | p :: ps, qs, fr1, fr2, fr, ⟨ok, h1, h2, h3⟩, h, a, b, d =>
    ⟨ok, fun k hk => a k (h1 k hk), h2, Sep.app h3 h (fun k hk => ⟨a k hk.1, hk.2⟩) (fun k hk => ⟨b k hk, fun hok => d k (h1 k hok) hk⟩) (fun k hk => d k hk.1)⟩
theorem Sep.shrink {w : World} : ∀ {ps : List Part} {fr fr' : Nat → Prop}, Sep w fr ps → (∀ k, k < w.heap.size → fr k → fr' k) → Sep w fr' ps
  | [], _, _, _, _ => trivial
  | p :: ps, fr, fr', ⟨ok, h1, h2, h3⟩, h => ⟨fun k => ok k ∧ k < w.heap.size, fun k hk => h k hk.2 (h1 k hk.1), p.mono h2 (fun k hk hok => ⟨hok, hk⟩), Sep.shrink h3 (fun k hk hf => ⟨h k hk hf.1, fun e => hf.2 e.1⟩)⟩
theorem Sep.split {w : World} : ∀ {ps qs : List Part} {fr : Nat → Prop}, Sep w fr (ps ++ qs) → ∃ ok : Nat → Prop, (∀ k, ok k → fr k) ∧ Sep w ok ps ∧ Sep w (fun k => fr k ∧ ¬ ok k) qs
  | [], qs, fr, h => ⟨fun _ => False, fun _ h => h.elim, trivial, h.wide (fun k hk => ⟨hk, fun e => e⟩)⟩
  | p :: ps, qs, fr, ⟨ok, h1, h2, h3⟩ => by
    obtain ⟨ok', h1', h2', h3'⟩ := Sep.split (ps := ps) h3
    refine ⟨fun k => ok k ∨ ok' k, fun k hk => hk.elim (h1 k) (fun h => (h1' k h).1), ⟨ok, fun k hk => .inl hk, h2, h2'.wide (fun k hk => ⟨.inr hk, (h1' k hk).2⟩)⟩, h3'.wide (fun k hk => ⟨hk.1.1, fun e => e.elim hk.1.2 hk.2⟩)⟩
/-- Several parts as one. -/
def Part.all (ps : List Part) : Part where
  P := fun w ok => Sep w ok ps
  mono := fun h hk => h.shrink hk
  move := fun h hm => Sep.moved hm h (fun k _ hk e => e hk)
/-- A part, for some x. -/
def Part.ex {α : Type} (f : α → Part) : Part where
  P := fun w ok => ∃ x, (f x).P w ok
  mono := fun ⟨x, h⟩ hk => ⟨x, (f x).mono h hk⟩
  move := fun ⟨x, h⟩ hm => ⟨x, (f x).move h hm⟩
/-- What is said of no memory. -/
def Part.pure (p : Prop) : Part where
  P := fun _ _ => p
  mono := fun h _ => h
  move := fun h _ => h
section
variable {w w' : World} {a b c d e f : Part} {F G : List Part}
theorem Sp.nil (w : World) : Sp w [] := trivial
theorem Sp.tail (h : Sp w (a :: F)) : Sp w F := Sep.tail h
theorem Sp.s1 (h : Sp w (a :: b :: F)) : Sp w (b :: a :: F) := Sep.swap h
theorem Sp.s2 (h : Sp w (a :: b :: c :: F)) : Sp w (c :: a :: b :: F) := Sp.s1 (Sep.cons (fun _ => Sep.swap) h)
theorem Sp.s3 (h : Sp w (a :: b :: c :: d :: F)) : Sp w (d :: a :: b :: c :: F) := Sp.s1 (Sep.cons (fun _ h => Sep.swap (Sep.cons (fun _ => Sep.swap) h)) h)
theorem Sp.s4 (h : Sp w (a :: b :: c :: d :: e :: F)) : Sp w (e :: a :: b :: c :: d :: F) := Sp.s1 (Sep.cons (fun _ h => Sep.swap (Sep.cons (fun _ h => Sep.swap (Sep.cons (fun _ => Sep.swap) h)) h)) h)
theorem Sp.s5 (h : Sp w (a :: b :: c :: d :: e :: f :: F)) : Sp w (f :: a :: b :: c :: d :: e :: F) := Sp.s1 (Sep.cons (fun _ h => Sep.swap (Sep.cons (fun _ h => Sep.swap (Sep.cons (fun _ h => Sep.swap (Sep.cons (fun _ => Sep.swap) h)) h)) h)) h)
theorem Sp.below (h : Sp w F) (hb : Below w.heap.size w w') : Sp w' F :=
  (Sep.moved (Moved.of_below hb (fun _ => False)) h (fun _ _ _ e => e)).wide (fun _ hk => Nat.lt_of_lt_of_le hk hb.size)
theorem Sp.alloc (h : Sp w F) (o : Obj) : Sp (w.alloc o) F := h.below (below_alloc (Below.refl _ _) o)
theorem Sp.drewN (h : Sp w F) (n : Nat) : Sp (w.drewN n) F := h.below (pw_below_drewN (Below.refl _ _) n)
theorem Sp.drew (h : Sp w F) : Sp w.drew F := h.below (below_drew (Below.refl _ _))
/-- What is new in memory, beside what was there. -/
theorem Sp.new (h : Sp w F) (hb : Below w.heap.size w w') (ha : a.P w' (fun k => w.heap.size ≤ k ∧ k < w'.heap.size)) : Sp w' (a :: F) :=
  ⟨fun k => w.heap.size ≤ k ∧ k < w'.heap.size, fun k hk => hk.2, ha, (Sep.moved (Moved.of_below hb (fun _ => False)) h (fun _ _ _ e => e)).wide (fun k hk => ⟨Nat.lt_of_lt_of_le hk hb.size, fun e => by omega⟩)⟩
/-- The one at the head: what is said of it, and what follows for all where it alone is turned. -/
theorem Sp.head (h : Sp w (a :: F)) : ∃ ok : Nat → Prop, (∀ k, ok k → k < w.heap.size) ∧ a.P w ok ∧
    ∀ w' qs, Moved w w' ok → Sep w' (fun k => ok k ∨ w.heap.size ≤ k ∧ k < w'.heap.size) qs → Sp w' (qs ++ F) := by
  obtain ⟨ok, h1, h2, h3⟩ := h
  refine ⟨ok, h1, h2, fun w' qs hm hq => ?_⟩
  refine Sep.app hq (Sep.moved hm h3 (fun k hk hf => hf.2)) (fun k hk => ?_) (fun k hk => Nat.lt_of_lt_of_le hk.1 hm.size) (fun k hk hf => ?_)
  · rcases hk with hk | hk
    · exact Nat.lt_of_lt_of_le (h1 k hk) hm.size
    · exact hk.2
  · rcases hk with hk | hk
    · exact hf.2 hk
    · omega
theorem Sp.head1 (h : Sp w (a :: F)) : ∃ ok : Nat → Prop, (∀ k, ok k → k < w.heap.size) ∧ a.P w ok ∧
    ∀ w' (q : Part), Moved w w' ok → q.P w' (fun k => ok k ∨ w.heap.size ≤ k ∧ k < w'.heap.size) → Sp w' (q :: F) := by
  obtain ⟨ok, h1, h2, h3⟩ := h.head
  exact ⟨ok, h1, h2, fun w' q hm hq => h3 w' [q] hm ⟨_, fun _ hk => hk, hq, trivial⟩⟩
theorem Sp.ofEx {α : Type} {f : α → Part} (h : Sp w (Part.ex f :: F)) : ∃ x, Sp w (f x :: F) := by
  obtain ⟨ok, h1, ⟨x, h2⟩, h3⟩ := h
  exact ⟨x, ok, h1, h2, h3⟩
theorem Sp.toEx {α : Type} {f : α → Part} (x : α) (h : Sp w (f x :: F)) : Sp w (Part.ex f :: F) := by
  obtain ⟨ok, h1, h2, h3⟩ := h
  exact ⟨ok, h1, ⟨x, h2⟩, h3⟩
theorem Sp.ofAll {ps : List Part} (h : Sp w (Part.all ps :: F)) : Sp w (ps ++ F) := by
  obtain ⟨ok, h1, h2, h3⟩ := h
  exact Sep.app h2 h3 h1 (fun k hk => hk.1) (fun k hk hf => hf.2 hk)
theorem Sp.toAll {ps : List Part} (h : Sp w (ps ++ F)) : Sp w (Part.all ps :: F) := by
  obtain ⟨ok, h1, h2, h3⟩ := Sep.split h
  exact ⟨ok, h1, h2, h3⟩
theorem Sp.ofPure {p : Prop} (h : Sp w (Part.pure p :: F)) : p ∧ Sp w F := by
  obtain ⟨ok, h1, h2, h3⟩ := h
  exact ⟨h2, h3.wide (fun k hk => hk.1)⟩
theorem Sp.toPure {p : Prop} (hp : p) (h : Sp w F) : Sp w (Part.pure p :: F) := ⟨fun _ => False, fun _ h => h.elim, hp, h.wide (fun k hk => ⟨hk, fun e => e⟩)⟩
theorem Sp.has (h : Sp w (a :: F)) : ∃ ok, a.P w ok := by
  obtain ⟨ok, _, h2, _⟩ := h
  exact ⟨ok, h2⟩
end
/-- All that was there in an elder world. -/
def Old (w0 : World) : Part where
  P := fun w ok => (∀ k, k < w0.heap.size → ok k) ∧ Below w0.heap.size w0 w
  mono := fun h hk => ⟨fun k hk0 => hk k (Nat.lt_of_lt_of_le hk0 h.2.size) (h.1 k hk0), h.2⟩
  move := fun h hm => ⟨h.1, h.2.trans ⟨hm.os, hm.tape, hm.output, hm.size, fun k hk => hm.block k (Nat.lt_of_lt_of_le hk h.2.size) (fun e => e (h.1 k hk))⟩⟩
theorem Sp.start (w : World) : Sp w [Old w] := ⟨fun k => k < w.heap.size, fun _ h => h, ⟨fun _ h => h, Below.refl _ _⟩, trivial⟩
theorem Sp.old {w w0 : World} {F : List Part} (h : Sp w (Old w0 :: F)) : Below w0.heap.size w0 w := (h.has).elim fun _ h => h.2
/-- A row of elements. -/
def Row {α : Type} (d : Kd α) (e : Nat) (v : Value) (xs : List α) : Part where
  P := fun w ok => d.R e w 0 ok v xs
  mono := fun h hk => Kd.R_mono (Kd.R_bound h) (fun k hk' => hk k hk'.2.2.1 hk'.1)
  move := fun h hm => Kd.R_step h (fun k ho hk => hm.block k hk (fun hn => hn ho))
theorem Sp.row {α : Type} {d : Kd α} {e : Nat} {v : Value} {xs : List α} {w : World} {F : List Part} (h : Sp w (Row d e v xs :: F)) : ∃ A c, v = .slice A xs.length c ∧ xs.length ≤ c ∧ d.C w A xs.length xs := (h.has).elim fun _ h => Kd.R_reads h
/-- A row that a call has made. -/
theorem Sp.made {α : Type} {d : Kd α} {e : Nat} {v : Value} {xs : List α} {w w' : World} {F : List Part} {ok : Nat → Prop} (h : Sp w F) (hb : Below w.heap.size w w') (hr : d.R e w' w.heap.size ok v xs) : Sp w' (Row d e v xs :: F) :=
  h.new (a := Row d e v xs) hb (Kd.R_lower (Kd.R_mono (Kd.R_bound hr) (fun k hk => ⟨hk.2.1, hk.2.2.1⟩)) (Nat.zero_le _))
/-- A block of cells. -/
def Blk (g : Nat) (o : Obj) : Part where
  P := fun w ok => ok g ∧ w.heap[g]? = some o
  mono := fun h hk => ⟨hk g (Array.getElem?_eq_some_iff.1 h.2).1 h.1, h.2⟩
  move := fun h hm => ⟨h.1, hm.blk h.2 (fun hn => hn h.1)⟩
theorem Sp.blk {g : Nat} {o : Obj} {w : World} {F : List Part} (h : Sp w (Blk g o :: F)) : w.heap[g]? = some o := (h.has).elim fun _ h => h.2
theorem Sp.box {w : World} {F : List Part} (h : Sp w F) (o : Obj) : Sp (w.alloc o) (Blk w.heap.size o :: F) :=
  h.new (a := Blk w.heap.size o) (below_alloc (Below.refl _ _) o) ⟨⟨Nat.le_refl _, by simp⟩, blk_new w o⟩
theorem setCell_blk {w : World} {g j : Nat} {cs : Array Value} {t : TypeId} {fz : Nat × Nat} (h : w.heap[g]? = some (.cells cs t fz)) (u : Value) : (w.setCell ⟨g, j, none⟩ u).heap[g]? = some (.cells (cs.setIfInBounds j u) t fz) := by
  simp only [World.setCell, Array.getElem?_modify, if_true, h, Option.map_some]
  rfl
/-- A store into a block. -/
theorem Sp.store {g : Nat} {cs : Array Value} {t : TypeId} {fz : Nat × Nat} {w : World} {F : List Part} (h : Sp w (Blk g (.cells cs t fz) :: F)) (j : Nat) (u : Value) : Sp (w.setCell ⟨g, j, none⟩ u) (Blk g (.cells (cs.setIfInBounds j u) t fz) :: F) := by
  obtain ⟨ok, h1, h2, h3⟩ := h.head1
  exact h3 _ _ ((Moved.refl w ok).set (fun _ => h2.1) u) ⟨.inl h2.1, setCell_blk h2.2 u⟩
/-- A row to which something was appended, or into which something was stored. -/
theorem Sp.rowed {α : Type} {d : Kd α} {e : Nat} {v v1 : Value} {xs ys : List α} {w w1 : World} {F : List Part} (h : Sp w (Row d e v xs :: F)) (hg : w.grownBy w1 v.ownBlock)
    (hr : ∀ ok : Nat → Prop, d.R e w 0 (fun k => ok k ∨ w.heap.size ≤ k) v xs → d.R e w1 0 (fun k => ok k ∨ w.heap.size ≤ k) v1 ys) : Sp w1 (Row d e v1 ys :: F) := by
  obtain ⟨ok, h1, h2, h3⟩ := h.head1
  refine h3 _ _ (Moved.of_grown hg (fun i hi _ => h2.1 i hi)) ?_
  exact Kd.R_mono (Kd.R_bound (hr ok (Kd.R_mono h2 (fun k hk => .inl hk)))) (fun k hk => hk.1.elim .inl (fun h => .inr ⟨h, hk.2.2.1⟩))
/-- An element that is made. -/
def El {α : Type} (d : Kd α) (p : α) (cs : List Value) : Part where
  P := fun w ok => d.M w 0 ok p cs
  mono := fun h hk => d.M_mono (fun k hk' => hk k hk'.2.2.1 hk'.1) (d.M_bound h)
  move := fun h hm => Kd.M_step h (fun k ho hk => hm.block k hk (fun hn => hn ho))
section
variable {P : Program} {ops : Array Oper} {rest : List Oper} {o : Oper} {a : Act} {Q : Exit → Act → World → Prop} {α : Type}
theorem Sp.appended {d : Kd α} {e : TypeId} {W w1 : World} {F : List Part} {v v1 : Value} {ys : List α} {ok1 ok2 : Nat → Prop} (h1 : ∀ k, ok1 k → k < W.heap.size) (h2 : ∀ k, ok2 k → k < W.heap.size)
    (h3 : Sep W (fun k => (k < W.heap.size ∧ ¬ ok1 k) ∧ ¬ ok2 k) F) (hv : ∀ k, v.ownBlock = some k → ok1 k) (hr : d.R e w1 0 (fun k => ok1 k ∨ ok2 k ∨ W.heap.size ≤ k) v1 ys) (hg : W.grownBy w1 v.ownBlock) : Sp w1 (Row d e v1 ys :: F) := by
  refine ⟨fun k => (ok1 k ∨ ok2 k ∨ W.heap.size ≤ k) ∧ k < w1.heap.size, fun k hk => hk.2, Kd.R_mono (Kd.R_bound hr) (fun k hk => ⟨hk.1, hk.2.2.1⟩), ?_⟩
  refine (Sep.moved (Moved.of_grown hg (S := ok1) (fun i hi _ => hv i hi)) h3 (fun k _ hf => hf.1.2)).wide (fun k hk => ⟨Nat.lt_of_lt_of_le hk.1.1 hg.size, fun e => ?_⟩)
  rcases e.1 with e | e | e
  · exact hk.1.2 e
  · exact hk.2 e
  · have := hk.1.1; omega
/-- append(v, x). -/
theorem Sp.append (d : Kd α) {W : World} {F : List Part} (hgd : o.guard = none) (s x : Operand) (t e : TypeId) (z : Value) (bytes : Nat)
    (ho : o.op = .call { callee := .builtin .append, args := #[s, x], argTypes := #[t, t] })
    (ht : P.underlying t = some (.slice e)) (hinfo : (P.info? e).map (fun i => (i.zero, i.size, i.bytes)) = some (some z, d.sz, bytes)) (hz : z.cells.size = d.sz) (hs0 : 0 < d.sz) (hb0 : 0 < bytes)
    (v : Value) (xs : List α) (p : α) (cs : List Value) (hs : a.eval s = v) (hx : a.eval x = .slice (some ⟨W.heap.size, 0, none⟩) 1 1)
    (hS : Sp W (Row d e v xs :: El d p cs :: F)) (hl : (xs.length + 1) * bytes ≤ 140737488355328)
    (h : ∀ v1 w1, Sp w1 (Row d e v1 (xs ++ [p]) :: F) → wpList P ops Q rest (a.put o.dst v1) w1) :
    wpList P ops Q (o :: rest) a (W.alloc (.cells cs.toArray e)) := by
  obtain ⟨ok1, h1, hr, ok2, h2, hp, h3⟩ := hS
  refine Kd.R_append d (w0 := W) 0 hgd s x t e z bytes ho ht hinfo hz hs0 hb0 v xs p cs (fun k => ok1 k ∨ ok2 k ∨ W.heap.size ≤ k) ok2 hs hx hp (fun k hk => ⟨.inr (.inl hk), fun e => (h2 k hk).2 (hr.1 k e.symm)⟩) (fun k hk => .inr (.inr hk)) (Kd.R_mono hr (fun k hk => .inl hk)) (Below.refl _ _) (Nat.zero_le _) hl ?_
  intro v1 w1 hr1 _ hg _
  exact h v1 w1 (Sp.appended h1 (fun k hk => (h2 k hk).1) h3 hr.1 hr1 hg)
/-- append(v, y...), the elements plain. -/
theorem Sp.appendRow (d : Kd α) {W : World} {F : List Part} (hgd : o.guard = none) (s x : Operand) (t e : TypeId) (z : Value) (bytes : Nat)
    (ho : o.op = .call { callee := .builtin .append, args := #[s, x], argTypes := #[t, t] })
    (ht : P.underlying t = some (.slice e)) (hinfo : (P.info? e).map (fun i => (i.zero, i.size, i.bytes)) = some (some z, d.sz, bytes)) (hz : z.cells.size = d.sz) (hs0 : 0 < d.sz) (hb0 : 0 < bytes)
    (v : Value) (xs ys : List α) (A : Option Addr) (m c : Nat) (hs : a.eval s = v) (hx : a.eval x = .slice A m c)
    (hKM : ∀ x cs, d.K W x cs → d.M W 0 (fun _ => False) x cs) (hS : Sp W (Row d e v xs :: F)) (hR : d.C W A m ys) (hl : (xs.length + m) * bytes ≤ 140737488355328)
    (h : ∀ v1 w1, Sp w1 (Row d e v1 (xs ++ ys) :: F) → wpList P ops Q rest (a.put o.dst v1) w1) :
    wpList P ops Q (o :: rest) a W := by
  obtain ⟨ok1, h1, hr, h3⟩ := hS
  refine Kd.R_append_rows d (w0 := W) 0 hgd s x t e z bytes ho ht hinfo hz hs0 hb0 v xs ys A m c (fun k => ok1 k ∨ False ∨ W.heap.size ≤ k) (fun _ => False) hs hx (Kd.R_mono hr (fun k hk => .inl hk)) hR hKM (fun _ h => h.elim) (fun k hk => .inr (.inr hk)) (Below.refl _ _) (Nat.zero_le _) hl ?_
  intro v1 w1 hr1 _ hg _
  exact h v1 w1 (Sp.appended (ok2 := fun _ => False) h1 (fun k hk => hk.elim) (h3.wide (fun k hk => ⟨hk, fun e => e⟩)) hr.1 hr1 hg)
end
theorem row_form {α : Type} {d : Kd α} {e : Nat} {w : World} {base : Nat} {ok : Nat → Prop} {v : Value} {xs : List α} (h : d.R e w base ok v xs) (hp : 0 < xs.length) : ∃ g cap, v = .slice (some ⟨g, 0, none⟩) xs.length cap := by
  obtain ⟨_, inner, ho, _⟩ := h
  rcases ho.2 with ⟨_, h0⟩ | ⟨g, cap, cur, rfl, _⟩
  · omega
  · exact ⟨g, cap, rfl⟩
/-- An element is written over. -/
theorem Sp.setElem {α : Type} {d : Kd α} {e g n cap : Nat} {w : World} {xs : List α} {F : List Part} (hS : Sp w (Row d e (.slice (some ⟨g, 0, none⟩) n cap) xs :: F)) (i : Nat) (hi : i < n) (x' : α) (seg : List Value) (hM : d.M w 0 (fun _ => False) x' seg) :
    Sp (w.setCells g (i * d.sz) seg) (Row d e (.slice (some ⟨g, 0, none⟩) n cap) (xs.set i x') :: F) := by
  obtain ⟨ok, h1, h2, h3⟩ := hS.head1
  have hl : seg.length = d.sz := d.K_len (d.K_of_M hM)
  obtain ⟨c, hcl, _, hcc, _⟩ := Kd.R_elem h2 x' (i : Int) (by omega) (by omega)
  obtain ⟨hr, hg⟩ := Kd.R_seg h2 (i : Int) (by omega) (by omega) (c := c) (seg := seg) (j := 0) (x' := x') (okp := fun _ => False) hcl hcc (by omega) (by
    have : c.take 0 ++ seg ++ c.drop (0 + seg.length) = seg := by simp; omega
    rw [this]; exact hM) (fun _ h => h.elim)
  simp only [Int.toNat_natCast, Nat.add_zero] at hr hg
  exact h3 _ _ (Moved.of_grown hg (fun j hj _ => by injection hj with hj; subst hj; exact h2.1 _ rfl)) (Kd.R_mono hr (fun k hk => .inl hk))
theorem Sp.elem {α : Type} {d : Kd α} {e g n cap : Nat} {w : World} {xs : List α} {F : List Part} (hS : Sp w (Row d e (.slice (some ⟨g, 0, none⟩) n cap) xs :: F)) (z : α) (i : Nat) (hi : i < n) :
    ∃ c, c.length = d.sz ∧ (∀ j u, c[j]? = some u → w.cell? ⟨g, i * d.sz + j, none⟩ = some u) ∧ (∀ j, w.frozen? ⟨g, i * d.sz + j, none⟩ = false) ∧ d.K w (xs.getD i z) c := by
  obtain ⟨ok, h2⟩ := hS.has
  obtain ⟨c, hcl, hM, hcc, hf⟩ := Kd.R_elem h2 z (i : Int) (by omega) (by omega)
  simp only [Int.toNat_natCast] at hM hcc hf
  exact ⟨c, hcl, hcc, hf, d.K_of_M hM⟩
theorem of_grown_none {w w1 : World} (h : w.grownBy w1 none) : Below w.heap.size w w1 := ⟨h.os, h.tape, h.output, h.size, fun k hk => h.block k hk (by simp)⟩
/-- Where a walk is to stand still: 'refine Stop.go ?_' in an arm, 'constructor' behind the walk. -/
structure Stop (p : Prop) : Prop where
  go : p
theorem drew_eta (W : World) : ({ heap := W.heap, tape := W.tape, drawn := W.drawn + 1, os := W.os, output := W.output } : World) = W.drew := rfl
section
variable {P : Program} {ops : Array Oper} {o : Oper} {a : Act} {Q : Exit → Act → World → Prop} {Kc : Act → World → Prop} {α : Type}
/-- append(v, x), in a region that draws. -/
theorem Sp.append_step (d : Kd α) {W : World} {F : List Part} (hw : Region.wanted o (yielded ops a.tmps) = true) (s x : Operand) (t e : TypeId) (z : Value) (bytes : Nat)
    (ho : o.op = .call { callee := .builtin .append, args := #[s, x], argTypes := #[t, t] })
    (ht : P.underlying t = some (.slice e)) (hinfo : (P.info? e).map (fun i => (i.zero, i.size, i.bytes)) = some (some z, d.sz, bytes)) (hz : z.cells.size = d.sz) (hs0 : 0 < d.sz) (hb0 : 0 < bytes)
    (v : Value) (xs : List α) (p : α) (cs : List Value) (hs : a.eval s = v) (hx : a.eval x = .slice (some ⟨W.heap.size, 0, none⟩) 1 1)
    (hS : Sp W (Row d e v xs :: El d p cs :: F)) (hl : (xs.length + 1) * bytes ≤ 140737488355328)
    (h : ∀ v1 w1, Sp w1 (Row d e v1 (xs ++ [p]) :: F) → Kc (a.put o.dst v1) w1) :
    if Region.wanted o (yielded ops a.tmps) = true then Oper.wp P o a (W.alloc (.cells cs.toArray e)) Kc Q else Kc (a.put o.dst undef) (W.alloc (.cells cs.toArray e)) := by
  obtain ⟨ok1, h1, hr, ok2, h2, hp, h3⟩ := hS
  refine Kd.R_append_step d (w0 := W) 0 hw s x t e z bytes ho ht hinfo hz hs0 hb0 v xs p cs (fun k => ok1 k ∨ ok2 k ∨ W.heap.size ≤ k) ok2 hs hx hp (fun k hk => ⟨.inr (.inl hk), fun e => (h2 k hk).2 (hr.1 k e.symm)⟩) (fun k hk => .inr (.inr hk)) (Kd.R_mono hr (fun k hk => .inl hk)) (Below.refl _ _) (Nat.zero_le _) hl ?_
  intro v1 w1 hr1 _ hg _
  exact h v1 w1 (Sp.appended h1 (fun k hk => (h2 k hk).1) h3 hr.1 hr1 hg)
end
/-- A part is another one, of the same blocks. -/
theorem Sp.as {w : World} {a b : Part} {F : List Part} (h : Sp w (a :: F)) (hab : ∀ ok, a.P w ok → b.P w ok) : Sp w (b :: F) := by
  obtain ⟨ok, h1, h2, h3⟩ := h
  exact ⟨ok, h1, hab ok h2, h3⟩
end Go.Proofs.Ytjpaaicgkdnalaa.Sep
