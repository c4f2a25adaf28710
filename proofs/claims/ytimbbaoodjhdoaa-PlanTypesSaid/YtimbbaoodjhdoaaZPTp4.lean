-- Put together by a program of this session (wip/slice2.py) out of the seat's texts.
import Derived.Test.YtimbbaoodjhdoaaZPTp3
import Derived.Deep.RegionWith
set_option maxHeartbeats 8000000
set_option maxRecDepth 100000
open Go.Proofs.YtimbbaoodjhdoaaW Go.Proofs.Ytimbbaoodjhdoaa
section
namespace Go.Proofs.Ytimbbaoodjhdoaa.Plan
open Go.RowKit PAll Plain PrintWords PrintLast PrintMore ZipT PrintWords.Kd PrintMore.Kd
set_option linter.unusedVariables false
set_option linter.unusedSimpArgs false
def kNd : Kd Nd := Kd.pair (Kd.slice 3 (Kd.int .i64)) (Kd.pair (Kd.int .i64) (Kd.int .i64))
theorem kNd_openM {w : World} {base : Nat} {ok : Nat → Prop} {d : Nd} {cs : List Value} (h : kNd.M w base ok d cs) : ∃ u, cs = [u, .int .i64 d.2.1, .int .i64 d.2.2] ∧ (Kd.int .i64).R 3 w base ok u d.1 := by
 obtain ⟨c0, c1, rfl, ⟨u, rfl, hR⟩, c2, c3, rfl, h1, h2⟩ := h
 obtain rfl : c2 = [.int .i64 d.2.1] := h1
 obtain rfl : c3 = [.int .i64 d.2.2] := h2
 exact ⟨u, rfl, hR⟩
theorem kNd_mk {w : World} {base : Nat} {ok : Nat → Prop} {d : Nd} {u : Value} (h : (Kd.int .i64).R 3 w base ok u d.1) : kNd.M w base ok d [u, .int .i64 d.2.1, .int .i64 d.2.2] :=
 ⟨[u], [.int .i64 d.2.1, .int .i64 d.2.2], rfl, ⟨u, rfl, h⟩, [.int .i64 d.2.1], [.int .i64 d.2.2], rfl, rfl, rfl⟩
structure Wk (w : World) (g base : Nat) (ok : Nat → Prop) (A0 : Option Addr) (c0 : Nat) (f : List Tb) (v : Value) (ds : List Nd) : Prop where
 blk : w.heap[g]? = some (.cells #[.slice A0 f.length c0, v] 82 (0, 0))
 forms : Kd.C k54 w A0 f.length f
 row : kNd.R 66 w base ok v ds
 le : base ≤ w.heap.size
theorem Wk.below {w w' : World} {g base : Nat} {ok : Nat → Prop} {A0 : Option Addr} {c0 : Nat} {f : List Tb} {v : Value} {ds : List Nd} (h : Wk w g base ok A0 c0 f v ds) (hb : Below w.heap.size w w') : Wk w' g base ok A0 c0 f v ds :=
 ⟨(hb.block g (Array.getElem?_eq_some_iff.1 h.blk).1).trans h.blk, aN h.forms hb, bG h.row hb, Nat.le_trans h.le hb.size⟩
def Got (w : World) (base : Nat) (ok : Nat → Prop) (v : Value) (r : Nd × Int) (e : Ending) (w' : World) : Prop :=
 ∃ u, e = .returned (.tuple #[.agg #[u, .int .i64 r.1.2.1, .int .i64 r.1.2.2], .int .i64 r.2]) ∧ (Kd.int .i64).R 3 w' base (fun k => (ok k ∧ some k ≠ v.ownBlock) ∨ w.heap.size ≤ k) u r.1.1 ∧ Below w.heap.size w w'
theorem cG {P : Program} {ops : Array Oper} {Q : Exit → Act → World → Prop} {S : World → Prop} {ds : List Nat} {id n : Nat} {a : Act} {w : World} (J : World → Prop) (l : Array Bool) (hm : P.follows .mixedOrders = true) (hn : ops.size = n) (hl : Array.replicate n false = l)
  (hJ : J w.drew) (hS : ∀ W, J W → S W) (h : ∀ W, J W → wpAnyLast P .any ops Q S ds n l a W) : (Code.region id ops true).wp P Q a w :=
 dX l hm hn hl (hS _ hJ) (fun _ => h _ hJ)
theorem bS {w : World} {g j : Nat} {cs : Array Value} {t : TypeId} {fz : Nat × Nat} (h : w.heap[g]? = some (.cells cs t fz)) (u : Value) : (w.setCell ⟨g, j, none⟩ u).heap[g]? = some (.cells (cs.setIfInBounds j u) t fz) := by
 simp only [World.setCell, Array.getElem?_modify, if_true, h, Option.map_some]
 rfl
theorem al2 {w : World} {p : Addr} {v : Value} (h : w.cell? p = some v) (a b : Obj) : ((w.alloc a).alloc b).cell? p = some v := aE (aM (aM (Below.refl _ _) _) _) h
theorem al3 {w : World} {p : Addr} {v : Value} (h : w.cell? p = some v) (a b c : Obj) : (((w.alloc a).alloc b).alloc c).cell? p = some v := aE (aM (aM (aM (Below.refl _ _) _) _) _) h
theorem al4 {w : World} {p : Addr} {v : Value} (h : w.cell? p = some v) (a b c d : Obj) : ((((w.alloc a).alloc b).alloc c).alloc d).cell? p = some v := aE (aM (aM (aM (aM (Below.refl _ _) _) _) _) _) h
theorem blk2 (w : World) (A B : Obj) : ((w.alloc A).alloc B).heap[w.heap.size + 1]? = some B := by
 have h := cJ (w.alloc A) B
 rwa [show (w.alloc A).heap.size = w.heap.size + 1 by simp] at h
theorem blk1 (w : World) (A B : Obj) : ((w.alloc A).alloc B).heap[w.heap.size]? = some A := aY (cJ w A) B
theorem blkS {W : World} {r : Nat} {x y z : Value} {t : TypeId} (h : W.heap[r]? = some (.cells #[x, y, z] t (0, 0))) (a b c : Value) : (((W.setCell ⟨r, 0, none⟩ a).setCell ⟨r, 1, none⟩ b).setCell ⟨r, 2, none⟩ c).heap[r]? = some (.cells #[a, b, c] t (0, 0)) :=
 bS (bS (bS h a) b) c
theorem blk23 (w : World) (A B C : Obj) : (((w.alloc A).alloc B).alloc C).heap[w.heap.size + 2]? = some C := by
 have h := blk2 (w.alloc A) B C
 rwa [show (w.alloc A).heap.size + 1 = w.heap.size + 2 by simp] at h
theorem blk24 (w : World) (A B C D : Obj) : ((((w.alloc A).alloc B).alloc C).alloc D).heap[w.heap.size + 3]? = some D := by
 have h := blk23 (w.alloc A) B C D
 rwa [show (w.alloc A).heap.size + 2 = w.heap.size + 3 by simp] at h
theorem storeS {w0 W : World} {r : Nat} {x y z : Value} {t : TypeId} (hb : Below w0.heap.size w0 W) (hr : w0.heap.size ≤ r) (h : W.heap[r]? = some (.cells #[x, y, z] t (0, 0))) (a b c : Value) :
  ∃ V, V = ((W.setCell ⟨r, 0, none⟩ a).setCell ⟨r, 1, none⟩ b).setCell ⟨r, 2, none⟩ c ∧ Below w0.heap.size w0 V ∧ V.heap[r]? = some (.cells #[a, b, c] t (0, 0)) ∧ ∀ k, k ≠ r → V.heap[k]? = W.heap[k]? :=
 ⟨_, rfl, aI (aI (aI hb hr) hr) hr, blkS h a b c, fun k hk => ((Below.heap_setCell _ _ _ k hk).trans (Below.heap_setCell _ _ _ k hk)).trans (Below.heap_setCell _ _ _ k hk)⟩
theorem blk3 (w : World) (A : Obj) (x y z a b c : Value) (t : TypeId) (n : Nat) :
  ((((((w.alloc A).alloc (.cells #[x, y, z] t (0, 0))).drewN n).setCell ⟨w.heap.size + 1, 0, none⟩ a).setCell ⟨w.heap.size + 1, 1, none⟩ b).setCell ⟨w.heap.size + 1, 2, none⟩ c).heap[w.heap.size + 1]? = some (.cells #[a, b, c] t (0, 0)) :=
 bS (bS (bS (aX (blk2 w A _) n) a) b) c
section
variable {w : World} {g base : Nat} {ok : Nat → Prop} {A0 : Option Addr} {c0 : Nat} {f : List Tb} {v : Value} {ds : List Nd}
theorem Wk.cells (h : Wk w g base ok A0 c0 f v ds) : ∃ A c, v = .slice A ds.length c ∧ ds.length ≤ c ∧ w.cell? ⟨g, 0, none⟩ = some (.slice A0 f.length c0) ∧ w.cell? ⟨g, 1, none⟩ = some (.slice A ds.length c) := by
 obtain ⟨A, c, rfl, hc, _⟩ := dE h.row
 exact ⟨A, c, rfl, hc, aA h.blk 0, aA h.blk 1⟩
theorem Wk.elem (h : Wk w g base ok A0 c0 f v ds) (k : Nat) (hk : k < ds.length) : ∃ gd cap B c, v = .slice (some ⟨gd, 0, none⟩) ds.length cap ∧ ds.length ≤ cap ∧ (nth ds k).1.length ≤ c ∧
  w.cell? ⟨g, 0, none⟩ = some (.slice A0 f.length c0) ∧ w.cell? ⟨g, 1, none⟩ = some (.slice (some ⟨gd, 0, none⟩) ds.length cap) ∧
  w.cell? ⟨gd, k * 3, none⟩ = some (.slice B (nth ds k).1.length c) ∧ w.cell? ⟨gd, k * 3 + 1, none⟩ = some (.int .i64 (nth ds k).2.1) ∧ w.cell? ⟨gd, k * 3 + 2, none⟩ = some (.int .i64 (nth ds k).2.2) ∧
  (Kd.int .i64).C w B (nth ds k).1.length (nth ds k).1 ∧ (Kd.int .i64).R 3 w base (fun j => ok j ∧ some j ≠ v.ownBlock) (.slice B (nth ds k).1.length c) (nth ds k).1 := by
 have hr := h.row
 obtain ⟨gd, cap, rfl⟩ : ∃ gd cap, v = .slice (some ⟨gd, 0, none⟩) ds.length cap := by
  obtain ⟨_, inner, ho, _⟩ := hr
  rcases ho.2 with ⟨_, h0⟩ | ⟨gd, cap, cur, rfl, _⟩
  ·
   omega
  ·
   exact ⟨gd, cap, rfl⟩
 obtain ⟨_, cap', e', hcap, _⟩ := dE hr
 obtain ⟨rfl, _, rfl⟩ : _ = _ ∧ _ = _ ∧ cap = cap' := by injection e' with a b c; exact ⟨a, b, c⟩
 obtain ⟨cs, hcl, hM, hcc, _⟩ := R_elem hr zN (k : Int) z5_ z5_
 rw [Int.toNat_natCast] at hM hcc
 obtain ⟨u, rfl, hR⟩ := kNd_openM hM
 obtain ⟨B, c, rfl, hc, hC⟩ := dE hR
 have hR' : (Kd.int .i64).R 3 w base (fun j => ok j ∧ some j ≠ (Value.slice (some ⟨gd, 0, none⟩) ds.length cap).ownBlock) (.slice B (ds.getD k zN).1.length c) (ds.getD k zN).1 := R_mono hR (fun j hj => ⟨hj.1, fun e => hj.2 (by simpa [Value.ownBlock] using e)⟩)
 exact ⟨gd, cap, B, c, rfl, hcap, hc, aA h.blk 0, aA h.blk 1, hcc 0 _ rfl, hcc 1 _ rfl, hcc 2 _ rfl, hC, hR'⟩
theorem Got.shared {w' : World} {d : Nd} {u : Value} {er : Int} (hr : (Kd.int .i64).R 3 w base (fun j => ok j ∧ some j ≠ v.ownBlock) u d.1) (hb : Below w.heap.size w w') : Got w base ok v (d, er) (.returned (.tuple #[.agg #[u, .int .i64 d.2.1, .int .i64 d.2.2], .int .i64 er])) w' :=
 ⟨u, rfl, R_mono (bG hr hb) (fun k hk => .inl hk), hb⟩
theorem Got.zero {w' : World} {er : Int} (hb : Below w.heap.size w w') : Got w base ok v (zN, er) (.returned (.tuple #[.agg #[.slice none 0 0, .int .i64 0, .int .i64 0], .int .i64 er])) w' :=
 ⟨_, rfl, R_nil _ _ _ _ _, hb⟩
theorem Got.stored {W : World} {d : Nd} {u : Value} {er : Int} {base0 : Nat} (hbase : base ≤ w.heap.size) (hb0 : base0 = w.heap.size) (hr : (Kd.int .i64).R 3 W base0 (fun k => w.heap.size + 2 ≤ k) u d.1) (hb : Below w.heap.size w W) (a b c : Value) :
  Got w base ok v (d, er) (.returned (.tuple #[.agg #[u, .int .i64 d.2.1, .int .i64 d.2.2], .int .i64 er])) (((W.setCell ⟨w.heap.size + 1, 0, none⟩ a).setCell ⟨w.heap.size + 1, 1, none⟩ b).setCell ⟨w.heap.size + 1, 2, none⟩ c) := by
 subst hb0
 refine ⟨u, rfl, bT (R_mono (R_far (R_far (R_far hr (p := ⟨w.heap.size + 1, 0, none⟩) (fun k hk => ?_) a) (p := ⟨w.heap.size + 1, 1, none⟩) (fun k hk => ?_) b) (p := ⟨w.heap.size + 1, 2, none⟩) (fun k hk => ?_) c) (fun k hk => .inr z5_)) hbase, aI (aI (aI hb z5_) z5_) z5_⟩
 all_goals show k ≠ w.heap.size + 1
 all_goals omega
set_option maxHeartbeats 4000000 in
theorem cE (h : Wk w g base ok A0 c0 f v ds) (hl : ds.length ≤ 9000000000000000000) (k : Int) :
  Calls Try.prog 58 #[.pointer (some ⟨g, 0, none⟩), .int .i64 k] w fun e w' => e = .returned (.bool (ahead ds k)) ∧ w' = w := by
 obtain ⟨A, c, rfl, hc, h0, h1⟩ := h.cells
 clear h
 by_cases hk0 : 0 ≤ k
 rotate_left
 ·
  have he : ahead ds k = false := decide_eq_false (fun e => hk0 e.1)
  rw [he]
  have hb0 : decide (k ≥ 0) = false := decide_eq_false hk0
  clear he hk0
  go_enter Try.func58, Try.ntmps58
  go_wp2
  go_ret
  exact ⟨by first | rfl | (simp [*]; done), rfl⟩
 by_cases hk1 : k < (ds.length : Int)
 ·
  have he : ahead ds k = true := decide_eq_true ⟨hk0, hk1⟩
  rw [he]
  have hb0 : decide (k ≥ 0) = true := decide_eq_true hk0
  have hb1 : decide (k < (ds.length : Int)) = true := decide_eq_true hk1
  clear he hk0 hk1
  go_enter Try.func58, Try.ntmps58
  go_wp2
  go_ret
  exact ⟨by first | rfl | (simp [*]; done), rfl⟩
 have he : ahead ds k = false := decide_eq_false (fun e => hk1 e.2)
 rw [he]
 have hb0 : decide (k ≥ 0) = true := decide_eq_true hk0
 have hb1 : decide (k < (ds.length : Int)) = false := decide_eq_false hk1
 clear he hk0 hk1
 go_enter Try.func58, Try.ntmps58
 go_wp2
 go_ret
 exact ⟨by first | rfl | (simp [*]; done), rfl⟩
variable {x : No} {A5 A6 : Option Addr} {c5 c6 : Nat}
set_option maxHeartbeats 4000000 in
theorem distinct_calls (h : Wk w g base ok A0 c0 f v ds) (hl : ds.length ≤ 1000) :
  Calls Try.prog 54 #[.pointer (some ⟨g, 0, none⟩), .agg #[.int .i64 x.f0, .int .i64 x.f1, .int .i64 x.f2, .int .i64 x.f3, .int .i64 x.f4.f0, .int .i64 x.f4.f1, .int .i64 x.f4.f2, .int .i64 x.f4.f3.f0, .int .i64 x.f4.f3.f1, .string x.f4.f3.f2, .slice A5 x.f5.length c5, .slice A6 x.f6.length c6, .int .i64 x.f7, .int .i64 x.f8]] w (Got w base ok v (distinctN ds x)) := by
 have HW := mk_ h
 unfold distinctN
 by_cases ha : ahead ds x.f1 = true
 rotate_left
 ·
  rw [if_neg ha]
  have HA := mk_ (Bool.eq_false_iff.2 ha)
  clear h ha
  go_enter Try.func54, Try.ntmps54
  go_wp2_with (go_at_call 58; refine (cE (HW.out.below z0_) z5_ _).mono ?_; rw [HA.out]; rintro e w' ⟨rfl, rfl⟩)
  refine bodyPost_ret (aT rfl _ _ _ 66 #[.slice none 0 0, .int .i64 0, .int .i64 0] (0, 0) _ rfl (by repeat (first | (with_reducible exact blk3 _ _ _ _ _ _ _ _ _ _) | (with_reducible exact blk2 _ _ _) | (with_reducible refine aX ?_ _) | (with_reducible refine aU ?_) | (with_reducible refine aY ?_ _))) Try.underlying66 rfl z1_) rfl ?_
  exact Got.zero z0_
 rw [if_pos ha]
 obtain ⟨hk0, hk1⟩ : 0 ≤ x.f1 ∧ x.f1 < (ds.length : Int) := of_decide_eq_true ha
 obtain ⟨k, hk⟩ := Int.eq_ofNat_of_zero_le hk0
 rw [hk] at hk1 ha
 obtain ⟨gd, cap, B, c, hv, hcap, hc, h0, h1, h2, h3, h4, hC, hR⟩ := h.elem k z5_
 rw [hk]
 have hkl : (k : Int) < (ds.length : Int) := hk1
 have hb0 : (0 ≤ (k : Int)) = True := eq_true z5_
 have hb1 : ((k : Int) < (ds.length : Int)) = True := eq_true hkl
 have HR := mk_ hR
 have HA := mk_ ha
 clear h hC hR hkl hk0 hk1 ha hc hcap
 generalize nth ds (k : Int) = d at *
 go_enter Try.func54, Try.ntmps54
 go_wp2_with (go_at_call 58; refine (cE (HW.out.below z0_) z5_ _).mono ?_; rw [HA.out]; rintro e w' ⟨rfl, hw'⟩; have hB' : Below w.heap.size w w' := (by rw [hw']; exact z0_); replace h0 := aE hB' h0; replace h1 := aE hB' h1; replace h2 := aE hB' h2; replace h3 := aE hB' h3; replace h4 := aE hB' h4; clear hB'; subst hw')
 go_region
 all_goals go_wp2
 all_goals refine bodyPost_ret (aT rfl _ _ _ 66 #[.slice B d.1.length c, .int .i64 d.2.1, .int .i64 d.2.2] (0, 0) _ rfl (by repeat (first | (with_reducible exact blk3 _ _ _ _ _ _ _ _ _ _) | (with_reducible exact blk2 _ _ _) | (with_reducible refine aX ?_ _) | (with_reducible refine aU ?_) | (with_reducible refine aY ?_ _))) Try.underlying66 rfl z1_) rfl ?_
 all_goals exact Got.shared HR.out z0_
end
end Go.Proofs.Ytimbbaoodjhdoaa.Plan
end
section
namespace Go.Proofs.Ytimbbaoodjhdoaa.Plan
open Go.RowKit PAll Plain PrintWords PrintLast PrintMore ZipT PrintWords.Kd PrintMore.Kd
set_option linter.unusedVariables false
set_option linter.unusedSimpArgs false
section
variable {w : World} {g base : Nat} {ok : Nat → Prop} {A0 : Option Addr} {c0 : Nat} {f : List Tb} {v : Value} {ds : List Nd} {x : No} {A5 A6 : Option Addr} {c5 c6 : Nat}
set_option maxHeartbeats 4000000 in
theorem scan_calls (h : Wk w g base ok A0 c0 f v ds) (hfl : f.length ≤ 1000) (hcl : ∀ t ∈ f, t.f0.length ≤ 1000) :
  Calls Try.prog 49 #[.pointer (some ⟨g, 0, none⟩), .agg #[.int .i64 x.f0, .int .i64 x.f1, .int .i64 x.f2, .int .i64 x.f3, .int .i64 x.f4.f0, .int .i64 x.f4.f1, .int .i64 x.f4.f2, .int .i64 x.f4.f3.f0, .int .i64 x.f4.f3.f1, .string x.f4.f3.f2, .slice A5 x.f5.length c5, .slice A6 x.f6.length c6, .int .i64 x.f7, .int .i64 x.f8]] w (Got w base ok v (scanN f x)) := by
 obtain ⟨A, c, hv, hc, h0, h1⟩ := h.cells
 unfold scanN
 have HW := mk_ h
 by_cases hk0 : x.f3 < 0
 ·
  rw [if_pos (.inl hk0)]
  have hb0 : decide (x.f3 < 0) = true := decide_eq_true hk0
  clear h hk0 h1 hc
  go_enter Try.func49, Try.ntmps49
  go_wp2
  go_quiet (fail)
  go_wp2
  refine bodyPost_ret (aT rfl _ _ _ 66 #[.slice none 0 0, .int .i64 0, .int .i64 0] (0, 0) _ rfl (by repeat (first | (with_reducible exact blk3 _ _ _ _ _ _ _ _ _ _) | (with_reducible exact blk2 _ _ _) | (with_reducible refine aX ?_ _) | (with_reducible refine aU ?_) | (with_reducible refine aY ?_ _))) Try.underlying66 rfl z1_) rfl ?_
  exact Got.zero z0_
 by_cases hk1 : x.f3 ≥ (f.length : Int)
 ·
  rw [if_pos (.inr hk1)]
  have hb0 : decide (x.f3 < 0) = false := decide_eq_false hk0
  have hb1 : decide ((f.length : Int) ≤ x.f3) = true := decide_eq_true hk1
  clear h hk0 hk1 h1 hc
  have h0' : ∀ a b : Obj, ((w.alloc a).alloc b).cell? ⟨g, 0, none⟩ = some (.slice A0 f.length c0) := fun a b => aE (aM (aM (Below.refl _ _) _) _) h0
  go_enter Try.func49, Try.ntmps49
  go_wp2
  go_quiet (fail)
  go_wp2
  refine bodyPost_ret (aT rfl _ _ _ 66 #[.slice none 0 0, .int .i64 0, .int .i64 0] (0, 0) _ rfl (by repeat (first | (with_reducible exact blk3 _ _ _ _ _ _ _ _ _ _) | (with_reducible exact blk2 _ _ _) | (with_reducible refine aX ?_ _) | (with_reducible refine aU ?_) | (with_reducible refine aY ?_ _))) Try.underlying66 rfl z1_) rfl ?_
  exact Got.zero z0_
 rw [if_neg z5_]
 obtain ⟨k, hk⟩ := Int.eq_ofNat_of_zero_le (show 0 ≤ x.f3 by omega)
 rw [hk] at hk0 hk1 ⊢
 obtain ⟨ad, A2, c2, hA0, h2, hc2, hC2⟩ := eP h.forms (k : Int) z5_ z5_
 subst hA0
 rw [Int.toNat_natCast] at h2
 have hm : (cN f (k : Int)).f0.length ≤ 1000 := hcl _ (fN (by rw [Int.toNat_natCast]; omega))
 have hb0 : decide ((k : Int) < 0) = false := decide_eq_false hk0
 have hb1 : decide (f.length ≤ k) = false := decide_eq_false z5_
 have hb2 : (0 ≤ (k : Int)) = True := eq_true z5_
 have hb3 : ((k : Int) < (f.length : Int)) = True := eq_true z5_
 have HC2 := mk_ hC2
 have HCC := mk_ hc2
 have HM := mk_ hm
 clear h hk0 hk1 h1 hc hC2 hc2 hm
 generalize (cN f (k : Int)).f0 = t at *
 have h0' : ∀ a b : Obj, ((w.alloc a).alloc b).cell? ⟨g, 0, none⟩ = some (.slice (some ad) f.length c0) := fun a b => aE (aM (aM (Below.refl _ _) _) _) h0
 have h2' : ∀ a b : Obj, ((w.alloc a).alloc b).cell? (ad.add k) = some (.slice A2 t.length c2) := fun a b => aE (aM (aM (Below.refl _ _) _) _) h2
 go_enter Try.func49, Try.ntmps49
 go_wp2
 go_quiet (fail)
 go_wp2
 refine cG (n := 14) (S := fun w' => w'.cell? ⟨g, 0, none⟩ = some (.slice (some ad) f.length c0) ∧ w'.cell? ⟨w.heap.size, 3, none⟩ = some (.int .i64 (k : Int)) ∧ w'.cell? (ad.add k) = some (.slice A2 t.length c2) ∧ True) (ds := [12])
  (fun W => Below w.heap.size w W ∧ W.heap[w.heap.size]? = some (.cells #[.int .i64 x.f0, .int .i64 x.f1, .int .i64 x.f2, .int .i64 (k : Int), .int .i64 x.f4.f0, .int .i64 x.f4.f1, .int .i64 x.f4.f2, .int .i64 x.f4.f3.f0, .int .i64 x.f4.f3.f1, .string x.f4.f3.f2, .slice A5 x.f5.length c5, .slice A6 x.f6.length c6, .int .i64 x.f7, .int .i64 x.f8] 34 (0, 0)) ∧ W.heap[w.heap.size + 1]? = some (.cells #[.slice none 0 0, .int .i64 0, .int .i64 0] 66 (0, 0)))
  (Steps.Bs 14 0) z1_ rfl rfl ⟨z0_, by repeat (first | (with_reducible exact blk2 _ _ _) | (with_reducible exact blk1 _ _ _) | (with_reducible refine aX ?_ _) | (with_reducible refine aU ?_)), by repeat (first | (with_reducible exact blk2 _ _ _) | (with_reducible refine aX ?_ _) | (with_reducible refine aU ?_))⟩
  (fun W hJ => ⟨aE hJ.1 h0, aA hJ.2.1 3, aE hJ.1 h2, trivial⟩) (fun W hJ => ?_)
 have hJs : w.heap.size + 2 ≤ W.heap.size := aV hJ.2.2
 have hHeld : W.cell? ⟨g, 0, none⟩ = some (.slice (some ad) f.length c0) ∧ W.cell? ⟨w.heap.size, 3, none⟩ = some (.int .i64 (k : Int)) ∧ W.cell? (ad.add k) = some (.slice A2 t.length c2) ∧ True := ⟨aE hJ.1 h0, aA hJ.2.1 3, aE hJ.1 h2, trivial⟩
 refine sI 1 21 14 2 ?_
 refine sI 2 22 14 6 ?_
 refine sI 3 23 14 14 ?_
 refine sI 5 25 14 46 ?_
 refine sT hHeld 4 24 14 62 ?_
 refine sT hHeld 6 26 14 126 ?_
 refine sI 7 27 14 254 ?_
 refine sI 8 28 14 510 ?_
 refine sT hHeld 9 29 14 1022 ?_
 refine one_ (i := 0) (N := (some 20)) (Steps.Bs 14 1023) rfl rfl z1_ z10_ (fun K hK => ?_)
 refine R_lit_step (Kd.int .i64) (w0 := w) w.heap.size 3 z12_ (N := 20) rfl (xs := [4]) (inner := [.int .i64 4]) (okp := fun _ => False) (ok := fun k => w.heap.size + 2 ≤ k) (by go_simp; try (constructor <;> rfl)) (Kd.reps_scalar [4]) (fun _ h => h.elim) hJs hJ.1 hJ.1.size (by simp) ?_
 intro v1 w1 hr1 hb1 hg1 _
 have hq1 : Below W.heap.size W w1 := ⟨hg1.os, hg1.tape, hg1.output, hg1.size, fun k hk => hg1.block k hk (by simp)⟩
 have hx1 := aC hJ.2.1 hq1
 have hs1 := aC hJ.2.2 hq1
 refine hK.out _ _ ⟨aE hb1 h0, aA hx1 3, aE hb1 h2, trivial⟩ (fun _ => ?_)
 clear hK K
 refine nrm 20 ?_
 refine one_ (i := 10) (N := (some 30)) (Steps.Bs 14 2047) rfl rfl z1_ z10_ (fun K hK => ?_)
 refine cU (Kd.int .i64) (w0 := w) w.heap.size z12_ (.tmp 20) (.tmp 29) 32 3 (.int .i64 0) 8 rfl Try.underlying32 PAll.info3 rfl z10_ z5_ v1 [4] t A2 t.length c2 (fun k => w.heap.size + 2 ≤ k) (fun _ => False) rfl rfl hr1 (aN HC2.out hb1) (fun _ _ h => h) (fun _ h => h.elim) (fun k hk => by have := hq1.size; have := hJs; omega) hb1 hb1.size (by have := HM.out; simp; omega) ?_
 intro v2 w2 hr2 hb2 hg2 _
 obtain ⟨A9, c9, rfl⟩ := bE hr2
 have hx2 : w2.heap[w.heap.size]? = _ := (hg2.block _ (aV hx1) (fun e => by have := hr1.1 _ e.symm; omega)).trans hx1
 have hs2 : w2.heap[w.heap.size + 1]? = _ := (hg2.block _ (aV hs1) (fun e => by have := hr1.1 _ e.symm; omega)).trans hs1
 refine hK.out _ _ ⟨aE hb2 h0, aA hx2 3, aE hb2 h2, trivial⟩ (fun _ => ?_)
 clear hK K
 refine nrm 30 ?_
 refine sI 11 31 14 4095 ?_
 refine last_ (i := 12) (N := none) (Steps.Bs 14 8191) rfl rfl z1_ z10_ (fun K hK => ?_)
 have hc0 := aA hs2
 have hc2' := aA hs2 2
 have hf0 := aD hs2
 refine skip_ (w1 := ?_) z12_ rfl ?_ ?_
 rotate_left
 ·
  go_simp
  rfl
 refine hK.out _ _ ?_
 clear hK K
 refine sI 13 5 14 16383 ?_
 refine done_ z1_ ?_
 go_wp2
 refine bodyPost_ret (aT rfl _ _ _ 66 #[.slice A9 ([4] ++ t).length c9, .int .i64 1024, .int .i64 2147483648] (0, 0) _ rfl (blkS hs2 _ _ _) Try.underlying66 rfl z1_) rfl ?_
 exact Got.stored (d := (4 :: t, 1024, 2147483648)) HW.out.le rfl hr2 hb2 _ _ _
end
end Go.Proofs.Ytimbbaoodjhdoaa.Plan
end
section
namespace Go.Proofs.Ytimbbaoodjhdoaa.Plan
open Go.RowKit PAll Plain PrintWords PrintLast PrintMore ZipT PrintWords.Kd PrintMore.Kd
set_option linter.unusedVariables false
set_option linter.unusedSimpArgs false
section
variable {w : World} {g base : Nat} {ok : Nat → Prop} {A0 : Option Addr} {c0 : Nat} {f : List Tb} {v : Value} {ds : List Nd} {x : No} {A5 A6 : Option Addr} {c5 c6 : Nat}
set_option maxHeartbeats 4000000 in
theorem filter_calls (h : Wk w g base ok A0 c0 f v ds) (hl : ds.length ≤ 1000) :
  Calls Try.prog 50 #[.pointer (some ⟨g, 0, none⟩), .agg #[.int .i64 x.f0, .int .i64 x.f1, .int .i64 x.f2, .int .i64 x.f3, .int .i64 x.f4.f0, .int .i64 x.f4.f1, .int .i64 x.f4.f2, .int .i64 x.f4.f3.f0, .int .i64 x.f4.f3.f1, .string x.f4.f3.f2, .slice A5 x.f5.length c5, .slice A6 x.f6.length c6, .int .i64 x.f7, .int .i64 x.f8]] w (Got w base ok v (filterN ds x)) := by
 have HW := mk_ h
 unfold filterN
 by_cases ha : ahead ds x.f1 = true
 rotate_left
 ·
  rw [if_neg ha]
  have HA := mk_ (Bool.eq_false_iff.2 ha)
  clear h ha
  go_enter Try.func50, Try.ntmps50
  go_wp2_with (first | (go_at_call 58; refine (cE (HW.out.below z0_) z5_ _).mono ?_; rw [HA.out]; rintro e w' ⟨rfl, hw'⟩; subst hw'))
  refine bodyPost_ret (aT rfl _ _ _ 66 #[.slice none 0 0, .int .i64 0, .int .i64 0] (0, 0) _ rfl z3_ Try.underlying66 rfl z1_) rfl ?_
  exact Got.zero z0_
 rw [if_pos ha]
 obtain ⟨k, hk⟩ := Int.eq_ofNat_of_zero_le (of_decide_eq_true ha).1
 rw [hk] at ha ⊢
 obtain ⟨hk0, hk1⟩ : 0 ≤ (k : Int) ∧ (k : Int) < (ds.length : Int) := of_decide_eq_true ha
 obtain ⟨gd, cap, B, c, hv, hcap, hc, h0, h1, h2, h3, h4, hC, hR⟩ := h.elem k z5_
 have hb0 : (0 ≤ (k : Int)) = True := eq_true hk0
 have hb1 : ((k : Int) < (ds.length : Int)) = True := eq_true hk1
 have h1' := al2 h1
 have h1'' := al3 h1
 have h2' := al2 h2
 have h2'' := al3 h2
 have h3' := al2 h3
 have h3'' := al3 h3
 have h4' := al2 h4
 have h4'' := al3 h4
 have HR := mk_ hR
 have HC := mk_ hC
 have HCC := mk_ hc
 have HA := mk_ ha
 clear h hC hR hk0 hk1 ha hc hcap hk
 generalize nth ds (k : Int) = d at *
 go_enter Try.func50, Try.ntmps50
 go_wp2_with (first | (go_at_call 58; refine (cE (HW.out.below z0_) z5_ _).mono ?_; rw [HA.out]; rintro e w' ⟨rfl, hw'⟩; subst hw'))
 go_region
 all_goals go_wp2
 refine cG (n := 8) (S := fun w' => w'.cell? ⟨w.heap.size, 4, none⟩ = some (.int .i64 x.f4.f0) ∧ w'.cell? ⟨w.heap.size, 5, none⟩ = some (.int .i64 x.f4.f1) ∧ w'.cell? ⟨w.heap.size, 6, none⟩ = some (.int .i64 x.f4.f2) ∧ w'.cell? ⟨w.heap.size, 7, none⟩ = some (.int .i64 x.f4.f3.f0) ∧ w'.cell? ⟨w.heap.size, 8, none⟩ = some (.int .i64 x.f4.f3.f1) ∧ w'.cell? ⟨w.heap.size, 9, none⟩ = some (.string x.f4.f3.f2) ∧ w'.cell? ⟨w.heap.size + 2, 0, none⟩ = some (.slice B d.1.length c) ∧ w'.cell? ⟨w.heap.size + 2, 1, none⟩ = some (.int .i64 d.2.1) ∧ w'.cell? ⟨w.heap.size + 2, 2, none⟩ = some (.int .i64 d.2.2) ∧ True) (ds := [6]) (fun W => Below w.heap.size w W ∧ W.heap[w.heap.size]? = some (.cells #[.int .i64 x.f0, .int .i64 (k : Int), .int .i64 x.f2, .int .i64 x.f3, .int .i64 x.f4.f0, .int .i64 x.f4.f1, .int .i64 x.f4.f2, .int .i64 x.f4.f3.f0, .int .i64 x.f4.f3.f1, .string x.f4.f3.f2, .slice A5 x.f5.length c5, .slice A6 x.f6.length c6, .int .i64 x.f7, .int .i64 x.f8] 34 (0, 0)) ∧ W.heap[w.heap.size + 1]? = some (.cells #[.slice none 0 0, .int .i64 0, .int .i64 0] 66 (0, 0)) ∧ W.heap[w.heap.size + 2]? = some (.cells #[.slice B d.1.length c, .int .i64 d.2.1, .int .i64 d.2.2] 66 (0, 0))) (Steps.Bs 8 0) z1_ rfl rfl ⟨z0_, z3_, z3_, z3_⟩ (fun W hJ => ?_) (fun W0 hJ => ?_)
 ·
  obtain ⟨hb0, bX0, bR0, bD0⟩ := hJ
  exact ⟨aA bX0 4, aA bX0 5, aA bX0 6, aA bX0 7, aA bX0 8, aA bX0 9, aA bD0 0, aA bD0 1, aA bD0 2, trivial⟩
 obtain ⟨hb0, bX0, bR0, bD0⟩ := hJ
 have hHeld0 : W0.cell? ⟨w.heap.size, 4, none⟩ = some (.int .i64 x.f4.f0) ∧ W0.cell? ⟨w.heap.size, 5, none⟩ = some (.int .i64 x.f4.f1) ∧ W0.cell? ⟨w.heap.size, 6, none⟩ = some (.int .i64 x.f4.f2) ∧ W0.cell? ⟨w.heap.size, 7, none⟩ = some (.int .i64 x.f4.f3.f0) ∧ W0.cell? ⟨w.heap.size, 8, none⟩ = some (.int .i64 x.f4.f3.f1) ∧ W0.cell? ⟨w.heap.size, 9, none⟩ = some (.string x.f4.f3.f2) ∧ W0.cell? ⟨w.heap.size + 2, 0, none⟩ = some (.slice B d.1.length c) ∧ W0.cell? ⟨w.heap.size + 2, 1, none⟩ = some (.int .i64 d.2.1) ∧ W0.cell? ⟨w.heap.size + 2, 2, none⟩ = some (.int .i64 d.2.2) ∧ True := ⟨aA bX0 4, aA bX0 5, aA bX0 6, aA bX0 7, aA bX0 8, aA bX0 9, aA bD0 0, aA bD0 1, aA bD0 2, trivial⟩
 have hl0 : w.heap.size + 3 ≤ W0.heap.size := aV bD0
 refine sI 1 22 8 2 ?_
 refine sI 3 24 8 10 ?_
 refine sT hHeld0 0 21 8 11 ?_
 refine sT hHeld0 2 23 8 15 ?_
 refine sT hHeld0 4 25 8 31 ?_
 refine one_ (i := 5) (N := (some 26)) (Steps.Bs 8 63) rfl rfl z1_ z10_ (fun K hK => ?_)
 refine goes_ Try.func59 z1_ rfl #[.agg #[.int .i64 x.f4.f0, .int .i64 x.f4.f1, .int .i64 x.f4.f2, .int .i64 x.f4.f3.f0, .int .i64 x.f4.f3.f1, .string x.f4.f3.f2], .slice B d.1.length c] z12_ rfl rfl z8_ ?_
 refine (PAll.pred_Check.calls 1 x.f4.f0 x.f4.f1 x.f4.f2 x.f4.f3.f0 x.f4.f3.f1 x.f4.f3.f2 B c d.1 (predE x.f4 d.1) _ (aN HC.out hb0) HCC.out (predCheck_eq 1 x.f4 d.1 z5_)).mono ?_
 rintro e W1 ⟨rfl, hq1⟩
 refine ⟨_, rfl, ?_⟩
 have bX1 := aC bX0 hq1
 have bR1 := aC bR0 hq1
 have bD1 := aC bD0 hq1
 have hb1 := aG hb0 hq1
 have hHeld1 : W1.cell? ⟨w.heap.size, 4, none⟩ = some (.int .i64 x.f4.f0) ∧ W1.cell? ⟨w.heap.size, 5, none⟩ = some (.int .i64 x.f4.f1) ∧ W1.cell? ⟨w.heap.size, 6, none⟩ = some (.int .i64 x.f4.f2) ∧ W1.cell? ⟨w.heap.size, 7, none⟩ = some (.int .i64 x.f4.f3.f0) ∧ W1.cell? ⟨w.heap.size, 8, none⟩ = some (.int .i64 x.f4.f3.f1) ∧ W1.cell? ⟨w.heap.size, 9, none⟩ = some (.string x.f4.f3.f2) ∧ W1.cell? ⟨w.heap.size + 2, 0, none⟩ = some (.slice B d.1.length c) ∧ W1.cell? ⟨w.heap.size + 2, 1, none⟩ = some (.int .i64 d.2.1) ∧ W1.cell? ⟨w.heap.size + 2, 2, none⟩ = some (.int .i64 d.2.2) ∧ True := ⟨aA bX1 4, aA bX1 5, aA bX1 6, aA bX1 7, aA bX1 8, aA bX1 9, aA bD1 0, aA bD1 1, aA bD1 2, trivial⟩
 have hl1 : w.heap.size + 3 ≤ W1.heap.size := aV bD1
 refine hK.out _ _ hHeld1 (fun _ => ?_)
 clear hK K
 refine nrm 26 ?_
 have hc6_0 := aA bR1
 have hf6_0 := aD bR1
 refine last_ (i := 6) (N := none) (Steps.Bs 8 127) rfl rfl z1_ z10_ (fun K hK => ?_)
 refine skip_ (w1 := ?_) z12_ rfl ?_ ?_
 rotate_left
 ·
  go_simp
  rfl
 refine hK.out _ _ ?_
 clear hK K
 refine sI 7 5 8 255 ?_
 refine done_ z1_ ?_
 go_wp2
 refine bodyPost_ret (aT rfl _ _ _ 66 #[.slice B d.1.length c, .int .i64 d.2.1, .int .i64 d.2.2] (0, 0) _ rfl (blkS bR1 _ _ _) Try.underlying66 rfl z1_) rfl ?_
 exact Got.shared HR.out (aI (aI (aI hb1 z5_) z5_) z5_)
end
end Go.Proofs.Ytimbbaoodjhdoaa.Plan
end
section
namespace Go.Proofs.Ytimbbaoodjhdoaa.Plan
open Go.RowKit PAll Plain PrintWords PrintLast PrintMore ZipT PrintWords.Kd PrintMore.Kd
set_option linter.unusedVariables false
set_option linter.unusedSimpArgs false
section
variable {w : World} {g base : Nat} {ok : Nat → Prop} {A0 : Option Addr} {c0 : Nat} {f : List Tb} {v : Value} {ds : List Nd} {x : No} {A5 A6 : Option Addr} {c5 c6 : Nat}
set_option maxHeartbeats 4000000 in
theorem both_calls (h : Wk w g base ok A0 c0 f v ds) (hl : ds.length ≤ 1000) (hds : ∀ d ∈ ds, NdOk d):
  Calls Try.prog 53 #[.pointer (some ⟨g, 0, none⟩), .agg #[.int .i64 x.f0, .int .i64 x.f1, .int .i64 x.f2, .int .i64 x.f3, .int .i64 x.f4.f0, .int .i64 x.f4.f1, .int .i64 x.f4.f2, .int .i64 x.f4.f3.f0, .int .i64 x.f4.f3.f1, .string x.f4.f3.f2, .slice A5 x.f5.length c5, .slice A6 x.f6.length c6, .int .i64 x.f7, .int .i64 x.f8]] w (Got w base ok v (bothN ds x)) := by
 have HW := mk_ h
 unfold bothN
 by_cases ha : ahead ds x.f1 = true
 case neg =>
  rw [if_neg (fun e => ha e.1)]
  have HA := mk_ (Bool.eq_false_iff.2 ha)
  clear h ha
  go_enter Try.func53, Try.ntmps53
  go_wp2_with (first | (go_at_call 58; refine (cE (HW.out.below z0_) z5_ _).mono ?_; rw [HA.out]; rintro e w' ⟨rfl, hw'⟩; subst hw'))
  refine bodyPost_ret (aT rfl _ _ _ 66 #[.slice none 0 0, .int .i64 0, .int .i64 0] (0, 0) _ rfl z3_ Try.underlying66 rfl z1_) rfl ?_
  exact Got.zero z0_
 by_cases ha2 : ahead ds x.f2 = true
 case neg =>
  rw [if_neg (fun e => ha2 e.2)]
  have HA := mk_ ha
  have HA2 := mk_ (Bool.eq_false_iff.2 ha2)
  clear h ha ha2
  go_enter Try.func53, Try.ntmps53
  go_wp2_with (first | (go_at_call 58; (with_reducible show Calls _ _ #[_, .int .i64 (x.f1)] _ _); refine (cE (HW.out.below z0_) z5_ _).mono ?_; rw [HA.out]; rintro e w' ⟨rfl, hw'⟩; subst hw') | (go_at_call 58; (with_reducible show Calls _ _ #[_, .int .i64 (x.f2)] _ _); refine (cE (HW.out.below z0_) z5_ _).mono ?_; rw [HA2.out]; rintro e w' ⟨rfl, hw'⟩; subst hw'))
  refine bodyPost_ret (aT rfl _ _ _ 66 #[.slice none 0 0, .int .i64 0, .int .i64 0] (0, 0) _ rfl z3_ Try.underlying66 rfl z1_) rfl ?_
  exact Got.zero z0_
 rw [if_pos ⟨ha, ha2⟩]
 obtain ⟨k, hk⟩ := Int.eq_ofNat_of_zero_le (of_decide_eq_true ha).1
 obtain ⟨k2, hk2⟩ := Int.eq_ofNat_of_zero_le (of_decide_eq_true ha2).1
 rw [hk] at ha ⊢
 rw [hk2] at ha2 ⊢
 obtain ⟨hk0, hk1⟩ : 0 ≤ (k : Int) ∧ (k : Int) < (ds.length : Int) := of_decide_eq_true ha
 obtain ⟨hk20, hk21⟩ : 0 ≤ (k2 : Int) ∧ (k2 : Int) < (ds.length : Int) := of_decide_eq_true ha2
 obtain ⟨gd, cap, B, c, hv, hcap, hc, h0, h1, h2, h3, h4, hC, hR⟩ := h.elem k z5_
 obtain ⟨gd_, cap_, B2, c2, hv_, _, hc2, _, h1_, h5, h6, h7, hC2, hR2⟩ := h.elem k2 z5_
 obtain ⟨rfl, rfl⟩ : gd_ = gd ∧ cap_ = cap := by
  rw [hv] at hv_
  injection hv_ with e1 _ e2
  injection e1 with e1
  injection e1 with e1
  exact ⟨e1.symm, e2.symm⟩
 have hb0 : (0 ≤ (k : Int)) = True := eq_true hk0
 have hb1 : ((k : Int) < (ds.length : Int)) = True := eq_true hk1
 have hb2 : (0 ≤ (k2 : Int)) = True := eq_true hk20
 have hb3 : ((k2 : Int) < (ds.length : Int)) = True := eq_true hk21
 have hok1 := cY hds ha
 have HL12 := mk_ hok1.len
 have hok2 := cY hds ha2
 have h1' := al2 h1
 have h1'' := al3 h1
 have h1''' := al4 h1
 have h2' := al2 h2
 have h2'' := al3 h2
 have h2''' := al4 h2
 have h3' := al2 h3
 have h3'' := al3 h3
 have h3''' := al4 h3
 have h4' := al2 h4
 have h4'' := al3 h4
 have h4''' := al4 h4
 have h5' := al2 h5
 have h5'' := al3 h5
 have h5''' := al4 h5
 have h6' := al2 h6
 have h6'' := al3 h6
 have h6''' := al4 h6
 have h7' := al2 h7
 have h7'' := al3 h7
 have h7''' := al4 h7
 have HR := mk_ hR
 have HC := mk_ hC
 have HCC := mk_ hc
 have HA := mk_ ha
 have HR2 := mk_ hR2
 have HC2 := mk_ hC2
 have HCC2 := mk_ hc2
 have HA2 := mk_ ha2
 clear h hC hR hC2 hR2 hk0 hk1 hk20 hk21 ha ha2 hc hc2 hcap hk hk2 h1_ hv_ hv
 generalize nth ds (k : Int) = d at *
 generalize nth ds (k2 : Int) = d2 at *
 generalize hz : (if d.1 = d2.1 then (if d.2.1 + d2.2.1 ≤ 1125899906842624 then ((d.1, d.2.1 + d2.2.1, max d.2.2 d2.2.2), (0 : Int)) else (zN, 11)) else (zN, 10)) = r
 have HZ := mk_ hz
 clear hz
 go_enter Try.func53, Try.ntmps53
 go_wp2_with (first | (go_at_call 58; (with_reducible show Calls _ _ #[_, .int .i64 ((k : Int))] _ _); refine (cE (HW.out.below z0_) z5_ _).mono ?_; rw [HA.out]; rintro e w' ⟨rfl, hw'⟩; subst hw') | (go_at_call 58; (with_reducible show Calls _ _ #[_, .int .i64 ((k2 : Int))] _ _); refine (cE (HW.out.below z0_) z5_ _).mono ?_; rw [HA2.out]; rintro e w' ⟨rfl, hw'⟩; subst hw'))
 refine cG (n := 20) (S := fun w' => w'.cell? ⟨g, 1, none⟩ = some (.slice (some ⟨gd_, 0, none⟩) ds.length cap_) ∧ w'.cell? ⟨w.heap.size, 1, none⟩ = some (.int .i64 (k : Int)) ∧ w'.cell? ⟨w.heap.size, 2, none⟩ = some (.int .i64 (k2 : Int)) ∧ w'.cell? ⟨gd_, k * 3, none⟩ = some (.slice B d.1.length c) ∧ w'.cell? ⟨gd_, k * 3 + 1, none⟩ = some (.int .i64 d.2.1) ∧ w'.cell? ⟨gd_, k * 3 + 2, none⟩ = some (.int .i64 d.2.2) ∧ w'.cell? ⟨gd_, k2 * 3, none⟩ = some (.slice B2 d2.1.length c2) ∧ w'.cell? ⟨gd_, k2 * 3 + 1, none⟩ = some (.int .i64 d2.2.1) ∧ w'.cell? ⟨gd_, k2 * 3 + 2, none⟩ = some (.int .i64 d2.2.2) ∧ True) (ds := [19]) (fun W => Below w.heap.size w W ∧ W.heap[w.heap.size]? = some (.cells #[.int .i64 x.f0, .int .i64 (k : Int), .int .i64 (k2 : Int), .int .i64 x.f3, .int .i64 x.f4.f0, .int .i64 x.f4.f1, .int .i64 x.f4.f2, .int .i64 x.f4.f3.f0, .int .i64 x.f4.f3.f1, .string x.f4.f3.f2, .slice A5 x.f5.length c5, .slice A6 x.f6.length c6, .int .i64 x.f7, .int .i64 x.f8] 34 (0, 0)) ∧ W.heap[w.heap.size + 1]? = some (.cells #[.slice none 0 0, .int .i64 0, .int .i64 0] 66 (0, 0))) (Steps.Bs 20 0) z1_ rfl rfl ⟨z0_, z3_, z3_⟩ (fun W hJ => ?_) (fun W0 hJ => ?_)
 ·
  obtain ⟨hb0, bX0, bR0⟩ := hJ
  exact ⟨aE hb0 h1, aA bX0 1, aA bX0 2, aE hb0 h2, aE hb0 h3, aE hb0 h4, aE hb0 h5, aE hb0 h6, aE hb0 h7, trivial⟩
 obtain ⟨hb0, bX0, bR0⟩ := hJ
 have hHeld0 : W0.cell? ⟨g, 1, none⟩ = some (.slice (some ⟨gd_, 0, none⟩) ds.length cap_) ∧ W0.cell? ⟨w.heap.size, 1, none⟩ = some (.int .i64 (k : Int)) ∧ W0.cell? ⟨w.heap.size, 2, none⟩ = some (.int .i64 (k2 : Int)) ∧ W0.cell? ⟨gd_, k * 3, none⟩ = some (.slice B d.1.length c) ∧ W0.cell? ⟨gd_, k * 3 + 1, none⟩ = some (.int .i64 d.2.1) ∧ W0.cell? ⟨gd_, k * 3 + 2, none⟩ = some (.int .i64 d.2.2) ∧ W0.cell? ⟨gd_, k2 * 3, none⟩ = some (.slice B2 d2.1.length c2) ∧ W0.cell? ⟨gd_, k2 * 3 + 1, none⟩ = some (.int .i64 d2.2.1) ∧ W0.cell? ⟨gd_, k2 * 3 + 2, none⟩ = some (.int .i64 d2.2.2) ∧ True := ⟨aE hb0 h1, aA bX0 1, aA bX0 2, aE hb0 h2, aE hb0 h3, aE hb0 h4, aE hb0 h5, aE hb0 h6, aE hb0 h7, trivial⟩
 have hl0 : w.heap.size + 2 ≤ W0.heap.size := aV bR0
 refine sI 0 21 20 1 ?_
 refine sI 1 22 20 3 ?_
 refine sI 2 23 20 7 ?_
 refine sT hHeld0 3 24 20 15 ?_
 refine sI 4 25 20 31 ?_
 refine sT hHeld0 5 26 20 63 ?_
 refine sI 6 27 20 127 ?_
 refine sT hHeld0 7 28 20 255 ?_
 refine sI 8 29 20 511 ?_
 refine sI 9 30 20 1023 ?_
 refine sI 10 31 20 2047 ?_
 refine sT hHeld0 11 32 20 4095 ?_
 refine sI 12 33 20 8191 ?_
 refine sT hHeld0 13 34 20 16383 ?_
 refine sI 14 35 20 32767 ?_
 refine sT hHeld0 15 36 20 65535 ?_
 refine join_ (σ := Nat × Nat) 2 (Steps.Bs 20 262143) (fun s_ => [(6, .pointer (some ⟨s_.1, 0, none⟩)), (7, .pointer (some ⟨s_.2, 0, none⟩))]) (fun s_ w' => Below w.heap.size w w' ∧ w'.heap[w.heap.size]? = some (.cells #[.int .i64 x.f0, .int .i64 (k : Int), .int .i64 (k2 : Int), .int .i64 x.f3, .int .i64 x.f4.f0, .int .i64 x.f4.f1, .int .i64 x.f4.f2, .int .i64 x.f4.f3.f0, .int .i64 x.f4.f3.f1, .string x.f4.f3.f2, .slice A5 x.f5.length c5, .slice A6 x.f6.length c6, .int .i64 x.f7, .int .i64 x.f8] 34 (0, 0)) ∧ w'.heap[w.heap.size + 1]? = some (.cells #[.slice none 0 0, .int .i64 0, .int .i64 0] 66 (0, 0)) ∧ w'.heap[s_.1]? = some (.cells #[.slice none 0 0, .int .i64 0, .int .i64 0] 66 (0, 0)) ∧ w'.heap[s_.2]? = some (.cells #[.slice none 0 0, .int .i64 0, .int .i64 0] 66 (0, 0)) ∧ w.heap.size + 2 ≤ s_.1 ∧ w.heap.size + 2 ≤ s_.2 ∧ s_.1 ≠ s_.2) ?_ ?_
 rotate_left
 ·
  intro hCont
  refine two_ (i := 16) (j := 17) (Ni := some 6) (Nj := some 7) (Steps.Bs 20 131071) (Steps.Bs 20 196607) rfl rfl rfl rfl z1_ z10_ z10_ (fun K hK => ?_) (fun K hK => ?_)
  ·
   refine cK z12_ (N := 6) rfl (cs := #[.slice none 0 0, .int .i64 0, .int .i64 0]) (t := 66) z11_ ?_
   intro g6 hg6 w1 bA1 hq1
   have bX1 := aC bX0 hq1
   have bR1 := aC bR0 hq1
   have hb1 := aG hb0 hq1
   have hg6' : w.heap.size + 2 ≤ g6 := by rw [hg6]; exact hl0
   have hHeld1 : w1.cell? ⟨g, 1, none⟩ = some (.slice (some ⟨gd_, 0, none⟩) ds.length cap_) ∧ w1.cell? ⟨w.heap.size, 1, none⟩ = some (.int .i64 (k : Int)) ∧ w1.cell? ⟨w.heap.size, 2, none⟩ = some (.int .i64 (k2 : Int)) ∧ w1.cell? ⟨gd_, k * 3, none⟩ = some (.slice B d.1.length c) ∧ w1.cell? ⟨gd_, k * 3 + 1, none⟩ = some (.int .i64 d.2.1) ∧ w1.cell? ⟨gd_, k * 3 + 2, none⟩ = some (.int .i64 d.2.2) ∧ w1.cell? ⟨gd_, k2 * 3, none⟩ = some (.slice B2 d2.1.length c2) ∧ w1.cell? ⟨gd_, k2 * 3 + 1, none⟩ = some (.int .i64 d2.2.1) ∧ w1.cell? ⟨gd_, k2 * 3 + 2, none⟩ = some (.int .i64 d2.2.2) ∧ True := ⟨aE hb1 h1, aA bX1 1, aA bX1 2, aE hb1 h2, aE hb1 h3, aE hb1 h4, aE hb1 h5, aE hb1 h6, aE hb1 h7, trivial⟩
   refine hK.out _ _ hHeld1 (fun _ => ?_)
   clear hK K
   refine nrm 6 ?_
   refine one_ (i := 17) (N := some 7) (Steps.Bs 20 262143) rfl rfl z1_ z10_ (fun K hK => ?_)
   refine cK z12_ (N := 7) rfl (cs := #[.slice none 0 0, .int .i64 0, .int .i64 0]) (t := 66) z11_ ?_
   intro g7 hg7 w2 bB2 hq2
   have bX2 := aC bX1 hq2
   have bR2 := aC bR1 hq2
   have bA2 := aC bA1 hq2
   have hb2 := aG hb1 hq2
   have hlt := aV bA1
   have hHeld2 : w2.cell? ⟨g, 1, none⟩ = some (.slice (some ⟨gd_, 0, none⟩) ds.length cap_) ∧ w2.cell? ⟨w.heap.size, 1, none⟩ = some (.int .i64 (k : Int)) ∧ w2.cell? ⟨w.heap.size, 2, none⟩ = some (.int .i64 (k2 : Int)) ∧ w2.cell? ⟨gd_, k * 3, none⟩ = some (.slice B d.1.length c) ∧ w2.cell? ⟨gd_, k * 3 + 1, none⟩ = some (.int .i64 d.2.1) ∧ w2.cell? ⟨gd_, k * 3 + 2, none⟩ = some (.int .i64 d.2.2) ∧ w2.cell? ⟨gd_, k2 * 3, none⟩ = some (.slice B2 d2.1.length c2) ∧ w2.cell? ⟨gd_, k2 * 3 + 1, none⟩ = some (.int .i64 d2.2.1) ∧ w2.cell? ⟨gd_, k2 * 3 + 2, none⟩ = some (.int .i64 d2.2.2) ∧ True := ⟨aE hb2 h1, aA bX2 1, aA bX2 2, aE hb2 h2, aE hb2 h3, aE hb2 h4, aE hb2 h5, aE hb2 h6, aE hb2 h7, trivial⟩
   refine hK.out _ _ hHeld2 (fun _ => ?_)
   clear hK K
   exact hCont (g6, g7) w2 ⟨hb2, bX2, bR2, bA2, bB2, hg6', by omega, by show g6 ≠ g7; omega⟩
  ·
   refine cK z12_ (N := 7) rfl (cs := #[.slice none 0 0, .int .i64 0, .int .i64 0]) (t := 66) z11_ ?_
   intro g6 hg6 w1 bA1 hq1
   have bX1 := aC bX0 hq1
   have bR1 := aC bR0 hq1
   have hb1 := aG hb0 hq1
   have hg6' : w.heap.size + 2 ≤ g6 := by rw [hg6]; exact hl0
   have hHeld1 : w1.cell? ⟨g, 1, none⟩ = some (.slice (some ⟨gd_, 0, none⟩) ds.length cap_) ∧ w1.cell? ⟨w.heap.size, 1, none⟩ = some (.int .i64 (k : Int)) ∧ w1.cell? ⟨w.heap.size, 2, none⟩ = some (.int .i64 (k2 : Int)) ∧ w1.cell? ⟨gd_, k * 3, none⟩ = some (.slice B d.1.length c) ∧ w1.cell? ⟨gd_, k * 3 + 1, none⟩ = some (.int .i64 d.2.1) ∧ w1.cell? ⟨gd_, k * 3 + 2, none⟩ = some (.int .i64 d.2.2) ∧ w1.cell? ⟨gd_, k2 * 3, none⟩ = some (.slice B2 d2.1.length c2) ∧ w1.cell? ⟨gd_, k2 * 3 + 1, none⟩ = some (.int .i64 d2.2.1) ∧ w1.cell? ⟨gd_, k2 * 3 + 2, none⟩ = some (.int .i64 d2.2.2) ∧ True := ⟨aE hb1 h1, aA bX1 1, aA bX1 2, aE hb1 h2, aE hb1 h3, aE hb1 h4, aE hb1 h5, aE hb1 h6, aE hb1 h7, trivial⟩
   refine hK.out _ _ hHeld1 (fun _ => ?_)
   clear hK K
   refine nrm 7 ?_
   refine one_ (i := 16) (N := some 6) (Steps.Bs 20 262143) rfl rfl z1_ z10_ (fun K hK => ?_)
   refine cK z12_ (N := 6) rfl (cs := #[.slice none 0 0, .int .i64 0, .int .i64 0]) (t := 66) z11_ ?_
   intro g7 hg7 w2 bB2 hq2
   have bX2 := aC bX1 hq2
   have bR2 := aC bR1 hq2
   have bA2 := aC bA1 hq2
   have hb2 := aG hb1 hq2
   have hlt := aV bA1
   have hHeld2 : w2.cell? ⟨g, 1, none⟩ = some (.slice (some ⟨gd_, 0, none⟩) ds.length cap_) ∧ w2.cell? ⟨w.heap.size, 1, none⟩ = some (.int .i64 (k : Int)) ∧ w2.cell? ⟨w.heap.size, 2, none⟩ = some (.int .i64 (k2 : Int)) ∧ w2.cell? ⟨gd_, k * 3, none⟩ = some (.slice B d.1.length c) ∧ w2.cell? ⟨gd_, k * 3 + 1, none⟩ = some (.int .i64 d.2.1) ∧ w2.cell? ⟨gd_, k * 3 + 2, none⟩ = some (.int .i64 d.2.2) ∧ w2.cell? ⟨gd_, k2 * 3, none⟩ = some (.slice B2 d2.1.length c2) ∧ w2.cell? ⟨gd_, k2 * 3 + 1, none⟩ = some (.int .i64 d2.2.1) ∧ w2.cell? ⟨gd_, k2 * 3 + 2, none⟩ = some (.int .i64 d2.2.2) ∧ True := ⟨aE hb2 h1, aA bX2 1, aA bX2 2, aE hb2 h2, aE hb2 h3, aE hb2 h4, aE hb2 h5, aE hb2 h6, aE hb2 h7, trivial⟩
   refine hK.out _ _ hHeld2 (fun _ => ?_)
   clear hK K
   exact hCont (g7, g6) w2 ⟨hb2, bX2, bR2, bB2, bA2, by show _ ≤ g7; omega, hg6', by show g7 ≠ g6; omega⟩
 rintro ⟨g6, g7⟩ W1 ⟨hb1, bX1, bR1, bA1, bB1, hg6, hg7, hne⟩
 replace bA1 : W1.heap[g6]? = some (.cells #[.slice none 0 0, .int .i64 0, .int .i64 0] 66 (0, 0)) := bA1
 replace bB1 : W1.heap[g7]? = some (.cells #[.slice none 0 0, .int .i64 0, .int .i64 0] 66 (0, 0)) := bB1
 replace hg6 : w.heap.size + 2 ≤ g6 := hg6
 replace hg7 : w.heap.size + 2 ≤ g7 := hg7
 replace hne : g6 ≠ g7 := hne
 refine norm_ (a' := ?_) ?_ ?_
 rotate_left
 ·
  simp only [putAll, Act.put, List.setIfInBounds_toArray, List.set_cons_zero, List.set_cons_succ]
  rfl
 have hc18_0 := aA bA1 0
 have hf18_0 := aD bA1 0
 have hc18_1 := aA bA1 1
 have hf18_1 := aD bA1 1
 have hc18_2 := aA bA1 2
 have hf18_2 := aD bA1 2
 refine one_ (i := 18) (N := none) (Steps.Bs 20 524287) rfl rfl z1_ z10_ (fun K hK => ?_)
 refine skip_ (w1 := ?_) z12_ rfl ?_ ?_
 rotate_left
 ·
  go_simp
  rfl
 obtain ⟨V1, hV1, hbV1, bAV1, hkeep1⟩ := storeS hb1 z5_ bA1 (.slice B d.1.length c) (.int .i64 d.2.1) (.int .i64 d.2.2)
 rw [← hV1]
 have bXV1 := (hkeep1 w.heap.size z5_).trans bX1
 have bRV1 := (hkeep1 (w.heap.size + 1) z5_).trans bR1
 have bBV1 := (hkeep1 g7 (fun e => hne e.symm)).trans bB1
 have hHeldV : V1.cell? ⟨g, 1, none⟩ = some (.slice (some ⟨gd_, 0, none⟩) ds.length cap_) ∧ V1.cell? ⟨w.heap.size, 1, none⟩ = some (.int .i64 (k : Int)) ∧ V1.cell? ⟨w.heap.size, 2, none⟩ = some (.int .i64 (k2 : Int)) ∧ V1.cell? ⟨gd_, k * 3, none⟩ = some (.slice B d.1.length c) ∧ V1.cell? ⟨gd_, k * 3 + 1, none⟩ = some (.int .i64 d.2.1) ∧ V1.cell? ⟨gd_, k * 3 + 2, none⟩ = some (.int .i64 d.2.2) ∧ V1.cell? ⟨gd_, k2 * 3, none⟩ = some (.slice B2 d2.1.length c2) ∧ V1.cell? ⟨gd_, k2 * 3 + 1, none⟩ = some (.int .i64 d2.2.1) ∧ V1.cell? ⟨gd_, k2 * 3 + 2, none⟩ = some (.int .i64 d2.2.2) ∧ True := ⟨aE hbV1 h1, aA bXV1 1, aA bXV1 2, aE hbV1 h2, aE hbV1 h3, aE hbV1 h4, aE hbV1 h5, aE hbV1 h6, aE hbV1 h7, trivial⟩
 refine hK.out _ _ hHeldV (fun _ => ?_)
 clear hK K hHeldV
 clear hV1 hkeep1
 have hc19_0 := aA bBV1 0
 have hf19_0 := aD bBV1 0
 have hc19_1 := aA bBV1 1
 have hf19_1 := aD bBV1 1
 have hc19_2 := aA bBV1 2
 have hf19_2 := aD bBV1 2
 refine last_ (i := 19) (N := none) (Steps.Bs 20 1048575) rfl rfl z1_ z10_ (fun K hK => ?_)
 refine skip_ (w1 := ?_) z12_ rfl ?_ ?_
 rotate_left
 ·
  go_simp
  rfl
 refine hK.out _ _ ?_
 clear hK K
 obtain ⟨V, hV, hbV, bBV, hkeep⟩ := storeS hbV1 z5_ bBV1 (.slice B2 d2.1.length c2) (.int .i64 d2.2.1) (.int .i64 d2.2.2)
 rw [← hV]
 have bXV := (hkeep w.heap.size z5_).trans bXV1
 have bRV := (hkeep (w.heap.size + 1) z5_).trans bRV1
 have bAV := (hkeep g6 hne).trans bAV1
 clear hV hkeep bXV1 bRV1 bAV1 bBV1 hbV1 hc18_0 hc18_1 hc18_2 hf18_0 hf18_1 hf18_2 hc19_0 hc19_1 hc19_2 hf19_0 hf19_1 hf19_2 bX1 bR1 bA1 bB1 hb1 hHeld0
 refine done_ z1_ ?_
 have hA0 := aA bAV
 have fA0 := aD bAV
 have hB0 := aA bBV
 have fB0 := aD bBV
 have hR0 := aA bRV 0
 have fR0 := aD bRV
 have hR1 := aA bRV 1
 have hR2 := aA bRV 2
 by_cases he : d.1 = d2.1
 case neg =>
  obtain rfl : (zN, (10 : Int)) = r := by rw [← HZ.out, if_neg he]
  have HE := mk_ (decide_eq_false he)
  clear he
  go_wp2_with (first | (go_at_call 62; refine (PAll.slices_Equal_int_int.calls (d.1.length + 1) B c d.1 B2 c2 d2.1 _ V (aN HC.out hbV) HCC.out (aN HC2.out hbV) HCC2.out (gB _ d.1 d2.1 (by have := HL12.out; omega) z5_)).mono ?_; rw [HE.out]; rintro e w' ⟨rfl, ⟨nd, rfl⟩⟩))
  refine bodyPost_ret (aT rfl _ _ _ 66 #[.slice none 0 0, .int .i64 0, .int .i64 0] (0, 0) _ rfl (blkS bRV _ _ _) Try.underlying66 rfl z1_) rfl ?_
  exact Got.zero (aI (aI (aI (aZ hbV _) z5_) z5_) z5_)
 have HE := mk_ (decide_eq_true he)
 have hw1 := hok1.w2
 have hw2 := hok2.w2
 have hw3 := hok1.w1
 have hw4 := hok2.w1
 by_cases hs : d.2.1 + d2.2.1 ≤ 1125899906842624
 case neg =>
  obtain rfl : (zN, (11 : Int)) = r := by rw [← HZ.out, if_pos he, if_neg hs]
  have hd1 : IntKind.i64.wrap (1125899906842624 - d2.2.1) = 1125899906842624 - d2.2.1 := IntWalk.i64_in _ z5_
  have hd2 : decide (1125899906842624 - d2.2.1 < d.2.1) = true := decide_eq_true z5_
  clear he hs hw1 hw2 hw3 hw4
  go_wp2_with (first | (go_at_call 62; refine (PAll.slices_Equal_int_int.calls (d.1.length + 1) B c d.1 B2 c2 d2.1 _ V (aN HC.out hbV) HCC.out (aN HC2.out hbV) HCC2.out (gB _ d.1 d2.1 (by have := HL12.out; omega) z5_)).mono ?_; rw [HE.out]; rintro e w' ⟨rfl, ⟨nd, rfl⟩⟩))
  refine bodyPost_ret (aT rfl _ _ _ 66 #[.slice none 0 0, .int .i64 0, .int .i64 0] (0, 0) _ rfl (blkS bRV _ _ _) Try.underlying66 rfl z1_) rfl ?_
  exact Got.zero (aI (aI (aI (aZ hbV _) z5_) z5_) z5_)
 obtain rfl : ((d.1, d.2.1 + d2.2.1, max d.2.2 d2.2.2), (0 : Int)) = r := by rw [← HZ.out, if_pos he, if_pos hs]
 have hd1 : IntKind.i64.wrap (1125899906842624 - d2.2.1) = 1125899906842624 - d2.2.1 := IntWalk.i64_in _ z5_
 have hd2 : decide (1125899906842624 - d2.2.1 < d.2.1) = false := decide_eq_false z5_
 have hd3 : IntKind.i64.wrap (d.2.1 + d2.2.1) = d.2.1 + d2.2.1 := IntWalk.i64_in _ z5_
 clear he hs hw1 hw2 hw3 hw4
 go_wp2_with (first | (go_at_call 62; refine (PAll.slices_Equal_int_int.calls (d.1.length + 1) B c d.1 B2 c2 d2.1 _ V (aN HC.out hbV) HCC.out (aN HC2.out hbV) HCC2.out (gB _ d.1 d2.1 (by have := HL12.out; omega) z5_)).mono ?_; rw [HE.out]; rintro e w' ⟨rfl, ⟨nd, rfl⟩⟩))
 refine bodyPost_ret (aT rfl _ _ _ 66 #[.slice B d.1.length c, .int .i64 (d.2.1 + d2.2.1), .int .i64 (max d.2.2 d2.2.2)] (0, 0) _ rfl (blkS bRV _ _ _) Try.underlying66 rfl z1_) rfl ?_
 exact Got.shared (d := (d.1, d.2.1 + d2.2.1, max d.2.2 d2.2.2)) HR.out (aI (aI (aI (aZ hbV _) z5_) z5_) z5_)
end
end Go.Proofs.Ytimbbaoodjhdoaa.Plan
end
section
namespace Go.Proofs.Ytimbbaoodjhdoaa.Plan
open Go.RowKit PAll Plain PrintWords PrintLast PrintMore ZipT PrintWords.Kd PrintMore.Kd
set_option linter.unusedVariables false
set_option linter.unusedSimpArgs false
section
variable {w : World} {g base : Nat} {ok : Nat → Prop} {A0 : Option Addr} {c0 : Nat} {f : List Tb} {v : Value} {ds : List Nd} {x : No} {A5 A6 : Option Addr} {c5 c6 : Nat}
set_option maxHeartbeats 4000000 in
theorem project_calls (h : Wk w g base ok A0 c0 f v ds) (hl : ds.length ≤ 1000) (hds : ∀ d ∈ ds, NdOk d) (hC5 : Kd.C (Kd.int .i64) w A5 x.f5.length x.f5) (hC5L : x.f5.length ≤ c5) (hL5 : x.f5.length ≤ 1000):
  Calls Try.prog 51 #[.pointer (some ⟨g, 0, none⟩), .agg #[.int .i64 x.f0, .int .i64 x.f1, .int .i64 x.f2, .int .i64 x.f3, .int .i64 x.f4.f0, .int .i64 x.f4.f1, .int .i64 x.f4.f2, .int .i64 x.f4.f3.f0, .int .i64 x.f4.f3.f1, .string x.f4.f3.f2, .slice A5 x.f5.length c5, .slice A6 x.f6.length c6, .int .i64 x.f7, .int .i64 x.f8]] w (Got w base ok v (projectN ds x)) := by
 have HW := mk_ h
 have HC5 := mk_ hC5
 have HC5L := mk_ hC5L
 have HL5 := mk_ hL5
 clear hC5 hC5L hL5
 by_cases ha : ahead ds x.f1 = true
 case neg =>
  unfold projectN
  rw [if_neg (fun e => ha e.1)]
  have HA := mk_ (Bool.eq_false_iff.2 ha)
  clear h ha
  go_enter Try.func51, Try.ntmps51
  go_wp2
  refine cG (n := 22) (S := fun w' => w'.cell? ⟨w.heap.size, 1, none⟩ = some (.int .i64 x.f1) ∧ True) (ds := []) (fun W => Below w.heap.size w W ∧ W.heap[w.heap.size]? = some (.cells #[.int .i64 x.f0, .int .i64 x.f1, .int .i64 x.f2, .int .i64 x.f3, .int .i64 x.f4.f0, .int .i64 x.f4.f1, .int .i64 x.f4.f2, .int .i64 x.f4.f3.f0, .int .i64 x.f4.f3.f1, .string x.f4.f3.f2, .slice A5 x.f5.length c5, .slice A6 x.f6.length c6, .int .i64 x.f7, .int .i64 x.f8] 34 (0, 0)) ∧ W.heap[w.heap.size + 1]? = some (.cells #[.slice none 0 0, .int .i64 0, .int .i64 0] 66 (0, 0))) (Steps.Bs 22 0) z1_ rfl rfl ⟨z0_, z3_, z3_⟩ (fun W hJ => ?_) (fun W0 hJ => ?_)
  ·
   obtain ⟨hb0, bX0, bR0⟩ := hJ
   exact ⟨aA bX0 1, trivial⟩
  obtain ⟨hb0, bX0, bR0⟩ := hJ
  have hHeld0 : W0.cell? ⟨w.heap.size, 1, none⟩ = some (.int .i64 x.f1) ∧ True := ⟨aA bX0 1, trivial⟩
  have hl0 : w.heap.size + 2 ≤ W0.heap.size := aV bR0
  refine sI 0 8 22 1 ?_
  refine sI 1 9 22 3 ?_
  refine sT hHeld0 2 10 22 7 ?_
  refine one_ (i := 3) (N := (some 11)) (Steps.Bs 22 15) rfl rfl z1_ z10_ (fun K hK => ?_)
  refine goes_ Try.func58 z1_ rfl #[.pointer (some ⟨g, 0, none⟩), .int .i64 x.f1] z12_ rfl rfl z8_ ?_
  refine (cE (HW.out.below hb0) z5_ _).mono ?_
  rw [HA.out]
  rintro e W1 ⟨rfl, hW1⟩
  have hq1 : Below W0.heap.size W0 W1 := (by rw [hW1]; exact Below.refl _ _)
  clear hW1
  refine ⟨_, rfl, ?_⟩
  have bX1 := aC bX0 hq1
  have bR1 := aC bR0 hq1
  have hb1 := aG hb0 hq1
  have hHeld1 : W1.cell? ⟨w.heap.size, 1, none⟩ = some (.int .i64 x.f1) ∧ True := ⟨aA bX1 1, trivial⟩
  have hl1 : w.heap.size + 2 ≤ W1.heap.size := aV bR1
  refine hK.out _ _ hHeld1 (fun _ => ?_)
  clear hK K
  refine nrm 11 ?_
  refine sI 4 12 22 31 ?_
  refine sI 5 13 22 63 ?_
  refine sR 6 14 22 127 ?_
  refine sR 7 15 22 255 ?_
  refine sR 8 16 22 511 ?_
  refine sR 9 17 22 1023 ?_
  refine sR 10 18 22 2047 ?_
  refine sR 11 19 22 4095 ?_
  refine sR 12 20 22 8191 ?_
  refine sR 13 21 22 16383 ?_
  refine sR 14 22 22 32767 ?_
  refine sR 15 23 22 65535 ?_
  refine sR 16 24 22 131071 ?_
  refine sR 17 25 22 262143 ?_
  refine sR 18 26 22 524287 ?_
  refine sR 19 27 22 1048575 ?_
  refine sI 20 28 22 2097151 ?_
  refine sI 21 7 22 4194303 ?_
  refine done_ z1_ ?_
  have hR0 := aA bR1
  have fR0 := aD bR1
  go_wp2
  refine bodyPost_ret (aT rfl _ _ _ 66 #[.slice none 0 0, .int .i64 0, .int .i64 0] (0, 0) _ rfl (blkS bR1 _ _ _) Try.underlying66 rfl z1_) rfl ?_
  exact Got.zero (aI (aI (aI hb1 z5_) z5_) z5_)
 have hsp : projectN ds x = if places x.f5 (nth ds x.f1).1.length = true then (if x.f5.length > 12 then (zN, 2) else ((pick (nth ds x.f1).1 x.f5, (nth ds x.f1).2), 0)) else (zN, 1) := by
  unfold projectN
  by_cases hp : places x.f5 (nth ds x.f1).1.length = true
  ·
   rw [if_pos ⟨ha, hp⟩, if_pos hp]
  ·
   rw [if_neg (fun e => hp e.2), if_neg hp]
 rw [hsp]
 obtain ⟨k, hk⟩ := Int.eq_ofNat_of_zero_le (of_decide_eq_true ha).1
 rw [hk] at ha ⊢
 obtain ⟨hk0, hk1⟩ : 0 ≤ (k : Int) ∧ (k : Int) < (ds.length : Int) := of_decide_eq_true ha
 obtain ⟨gd, cap, B, c, hv, hcap, hc, h0, h1, h2, h3, h4, hC, hR⟩ := h.elem k z5_
 have hb0 : (0 ≤ (k : Int)) = True := eq_true hk0
 have hb1 : ((k : Int) < (ds.length : Int)) = True := eq_true hk1
 have h1' := al2 h1
 have h1'' := al3 h1
 have h2' := al2 h2
 have h2'' := al3 h2
 have h3' := al2 h3
 have h3'' := al3 h3
 have h4' := al2 h4
 have h4'' := al3 h4
 have HR := mk_ hR
 have HC := mk_ hC
 have HCC := mk_ hc
 have HA := mk_ ha
 have HL12 := mk_ (cY hds ha).len
 clear h hC hR hk0 hk1 ha hc hcap hk hv
 generalize nth ds (k : Int) = d at *
 by_cases hp : places x.f5 d.1.length = true
 case neg =>
  rw [if_neg hp]
  have HP := mk_ (Bool.eq_false_iff.2 hp)
  clear hp
  go_enter Try.func51, Try.ntmps51
  go_wp2
  refine cG (n := 22) (S := fun w' => w'.cell? ⟨w.heap.size, 1, none⟩ = some (.int .i64 (k : Int)) ∧ w'.cell? ⟨w.heap.size, 10, none⟩ = some (.slice A5 x.f5.length c5) ∧ w'.cell? ⟨g, 1, none⟩ = some (.slice (some ⟨gd, 0, none⟩) ds.length cap) ∧ w'.cell? ⟨gd, k * 3, none⟩ = some (.slice B d.1.length c) ∧ True) (ds := []) (fun W => Below w.heap.size w W ∧ W.heap[w.heap.size]? = some (.cells #[.int .i64 x.f0, .int .i64 (k : Int), .int .i64 x.f2, .int .i64 x.f3, .int .i64 x.f4.f0, .int .i64 x.f4.f1, .int .i64 x.f4.f2, .int .i64 x.f4.f3.f0, .int .i64 x.f4.f3.f1, .string x.f4.f3.f2, .slice A5 x.f5.length c5, .slice A6 x.f6.length c6, .int .i64 x.f7, .int .i64 x.f8] 34 (0, 0)) ∧ W.heap[w.heap.size + 1]? = some (.cells #[.slice none 0 0, .int .i64 0, .int .i64 0] 66 (0, 0))) (Steps.Bs 22 0) z1_ rfl rfl ⟨z0_, z3_, z3_⟩ (fun W hJ => ?_) (fun W0 hJ => ?_)
  ·
   obtain ⟨hb0, bX0, bR0⟩ := hJ
   exact ⟨aA bX0 1, aA bX0 10, aE hb0 h1, aE hb0 h2, trivial⟩
  obtain ⟨hb0, bX0, bR0⟩ := hJ
  have hHeld0 : W0.cell? ⟨w.heap.size, 1, none⟩ = some (.int .i64 (k : Int)) ∧ W0.cell? ⟨w.heap.size, 10, none⟩ = some (.slice A5 x.f5.length c5) ∧ W0.cell? ⟨g, 1, none⟩ = some (.slice (some ⟨gd, 0, none⟩) ds.length cap) ∧ W0.cell? ⟨gd, k * 3, none⟩ = some (.slice B d.1.length c) ∧ True := ⟨aA bX0 1, aA bX0 10, aE hb0 h1, aE hb0 h2, trivial⟩
  have hl0 : w.heap.size + 2 ≤ W0.heap.size := aV bR0
  refine sI 0 8 22 1 ?_
  refine sI 1 9 22 3 ?_
  refine sT hHeld0 2 10 22 7 ?_
  refine one_ (i := 3) (N := (some 11)) (Steps.Bs 22 15) rfl rfl z1_ z10_ (fun K hK => ?_)
  refine goes_ Try.func58 z1_ rfl #[.pointer (some ⟨g, 0, none⟩), .int .i64 (k : Int)] z12_ rfl rfl z8_ ?_
  refine (cE (HW.out.below hb0) z5_ _).mono ?_
  rw [HA.out]
  rintro e W1 ⟨rfl, hW1⟩
  have hq1 : Below W0.heap.size W0 W1 := (by rw [hW1]; exact Below.refl _ _)
  clear hW1
  refine ⟨_, rfl, ?_⟩
  have bX1 := aC bX0 hq1
  have bR1 := aC bR0 hq1
  have hb1 := aG hb0 hq1
  have hHeld1 : W1.cell? ⟨w.heap.size, 1, none⟩ = some (.int .i64 (k : Int)) ∧ W1.cell? ⟨w.heap.size, 10, none⟩ = some (.slice A5 x.f5.length c5) ∧ W1.cell? ⟨g, 1, none⟩ = some (.slice (some ⟨gd, 0, none⟩) ds.length cap) ∧ W1.cell? ⟨gd, k * 3, none⟩ = some (.slice B d.1.length c) ∧ True := ⟨aA bX1 1, aA bX1 10, aE hb1 h1, aE hb1 h2, trivial⟩
  have hl1 : w.heap.size + 2 ≤ W1.heap.size := aV bR1
  refine hK.out _ _ hHeld1 (fun _ => ?_)
  clear hK K
  refine nrm 11 ?_
  refine sI 4 12 22 31 ?_
  refine sI 5 13 22 63 ?_
  refine sI 6 14 22 127 ?_
  refine sT hHeld1 7 15 22 255 ?_
  refine sI 8 16 22 511 ?_
  refine sI 9 17 22 1023 ?_
  refine sI 10 18 22 2047 ?_
  refine sT hHeld1 11 19 22 4095 ?_
  refine sI 12 20 22 8191 ?_
  refine sT hHeld1 13 21 22 16383 ?_
  refine sI 14 22 22 32767 ?_
  refine sI 15 23 22 65535 ?_
  refine sT hHeld1 16 24 22 131071 ?_
  refine sI 17 25 22 262143 ?_
  refine one_ (i := 18) (N := (some 26)) (Steps.Bs 22 524287) rfl rfl z1_ z10_ (fun K hK => ?_)
  refine goes_ Try.func60 z1_ rfl #[.slice A5 x.f5.length c5, .int .i64 (d.1.length : Int)] z12_ rfl rfl z8_ ?_
  refine (bQ A5 c5 x.f5 d.1.length _ (aN HC5.out hb1) HC5L.out (by have := HL5.out; omega)).mono ?_
  rw [HP.out]
  rintro e W2 ⟨rfl, hq2⟩
  refine ⟨_, rfl, ?_⟩
  have bX2 := aC bX1 hq2
  have bR2 := aC bR1 hq2
  have hb2 := aG hb1 hq2
  have hHeld2 : W2.cell? ⟨w.heap.size, 1, none⟩ = some (.int .i64 (k : Int)) ∧ W2.cell? ⟨w.heap.size, 10, none⟩ = some (.slice A5 x.f5.length c5) ∧ W2.cell? ⟨g, 1, none⟩ = some (.slice (some ⟨gd, 0, none⟩) ds.length cap) ∧ W2.cell? ⟨gd, k * 3, none⟩ = some (.slice B d.1.length c) ∧ True := ⟨aA bX2 1, aA bX2 10, aE hb2 h1, aE hb2 h2, trivial⟩
  have hl2 : w.heap.size + 2 ≤ W2.heap.size := aV bR2
  refine hK.out _ _ hHeld2 (fun _ => ?_)
  clear hK K
  refine nrm 26 ?_
  refine sI 19 27 22 1048575 ?_
  refine sI 20 28 22 2097151 ?_
  refine sI 21 7 22 4194303 ?_
  refine done_ z1_ ?_
  have hR0 := aA bR2
  have fR0 := aD bR2
  go_wp2
  refine bodyPost_ret (aT rfl _ _ _ 66 #[.slice none 0 0, .int .i64 0, .int .i64 0] (0, 0) _ rfl (blkS bR2 _ _ _) Try.underlying66 rfl z1_) rfl ?_
  exact Got.zero (aI (aI (aI hb2 z5_) z5_) z5_)
 rw [if_pos hp]
 have HP := mk_ hp
 clear hp
 generalize hz : (if x.f5.length > 12 then (zN, (2 : Int)) else ((pick d.1 x.f5, d.2), 0)) = r
 have HZ := mk_ hz
 clear hz
 go_enter Try.func51, Try.ntmps51
 go_wp2
 refine cG (n := 22) (S := fun w' => w'.cell? ⟨w.heap.size, 1, none⟩ = some (.int .i64 (k : Int)) ∧ w'.cell? ⟨w.heap.size, 10, none⟩ = some (.slice A5 x.f5.length c5) ∧ w'.cell? ⟨g, 1, none⟩ = some (.slice (some ⟨gd, 0, none⟩) ds.length cap) ∧ w'.cell? ⟨gd, k * 3, none⟩ = some (.slice B d.1.length c) ∧ True) (ds := []) (fun W => Below w.heap.size w W ∧ W.heap[w.heap.size]? = some (.cells #[.int .i64 x.f0, .int .i64 (k : Int), .int .i64 x.f2, .int .i64 x.f3, .int .i64 x.f4.f0, .int .i64 x.f4.f1, .int .i64 x.f4.f2, .int .i64 x.f4.f3.f0, .int .i64 x.f4.f3.f1, .string x.f4.f3.f2, .slice A5 x.f5.length c5, .slice A6 x.f6.length c6, .int .i64 x.f7, .int .i64 x.f8] 34 (0, 0)) ∧ W.heap[w.heap.size + 1]? = some (.cells #[.slice none 0 0, .int .i64 0, .int .i64 0] 66 (0, 0))) (Steps.Bs 22 0) z1_ rfl rfl ⟨z0_, z3_, z3_⟩ (fun W hJ => ?_) (fun W0 hJ => ?_)
 ·
  obtain ⟨hb0, bX0, bR0⟩ := hJ
  exact ⟨aA bX0 1, aA bX0 10, aE hb0 h1, aE hb0 h2, trivial⟩
 obtain ⟨hb0, bX0, bR0⟩ := hJ
 have hHeld0 : W0.cell? ⟨w.heap.size, 1, none⟩ = some (.int .i64 (k : Int)) ∧ W0.cell? ⟨w.heap.size, 10, none⟩ = some (.slice A5 x.f5.length c5) ∧ W0.cell? ⟨g, 1, none⟩ = some (.slice (some ⟨gd, 0, none⟩) ds.length cap) ∧ W0.cell? ⟨gd, k * 3, none⟩ = some (.slice B d.1.length c) ∧ True := ⟨aA bX0 1, aA bX0 10, aE hb0 h1, aE hb0 h2, trivial⟩
 have hl0 : w.heap.size + 2 ≤ W0.heap.size := aV bR0
 refine sI 0 8 22 1 ?_
 refine sI 1 9 22 3 ?_
 refine sT hHeld0 2 10 22 7 ?_
 refine one_ (i := 3) (N := (some 11)) (Steps.Bs 22 15) rfl rfl z1_ z10_ (fun K hK => ?_)
 refine goes_ Try.func58 z1_ rfl #[.pointer (some ⟨g, 0, none⟩), .int .i64 (k : Int)] z12_ rfl rfl z8_ ?_
 refine (cE (HW.out.below hb0) z5_ _).mono ?_
 rw [HA.out]
 rintro e W1 ⟨rfl, hW1⟩
 have hq1 : Below W0.heap.size W0 W1 := (by rw [hW1]; exact Below.refl _ _)
 clear hW1
 refine ⟨_, rfl, ?_⟩
 have bX1 := aC bX0 hq1
 have bR1 := aC bR0 hq1
 have hb1 := aG hb0 hq1
 have hHeld1 : W1.cell? ⟨w.heap.size, 1, none⟩ = some (.int .i64 (k : Int)) ∧ W1.cell? ⟨w.heap.size, 10, none⟩ = some (.slice A5 x.f5.length c5) ∧ W1.cell? ⟨g, 1, none⟩ = some (.slice (some ⟨gd, 0, none⟩) ds.length cap) ∧ W1.cell? ⟨gd, k * 3, none⟩ = some (.slice B d.1.length c) ∧ True := ⟨aA bX1 1, aA bX1 10, aE hb1 h1, aE hb1 h2, trivial⟩
 have hl1 : w.heap.size + 2 ≤ W1.heap.size := aV bR1
 refine hK.out _ _ hHeld1 (fun _ => ?_)
 clear hK K
 refine nrm 11 ?_
 refine sI 4 12 22 31 ?_
 refine sI 5 13 22 63 ?_
 refine sI 6 14 22 127 ?_
 refine sT hHeld1 7 15 22 255 ?_
 refine sI 8 16 22 511 ?_
 refine sI 9 17 22 1023 ?_
 refine sI 10 18 22 2047 ?_
 refine sT hHeld1 11 19 22 4095 ?_
 refine sI 12 20 22 8191 ?_
 refine sT hHeld1 13 21 22 16383 ?_
 refine sI 14 22 22 32767 ?_
 refine sI 15 23 22 65535 ?_
 refine sT hHeld1 16 24 22 131071 ?_
 refine sI 17 25 22 262143 ?_
 refine one_ (i := 18) (N := (some 26)) (Steps.Bs 22 524287) rfl rfl z1_ z10_ (fun K hK => ?_)
 refine goes_ Try.func60 z1_ rfl #[.slice A5 x.f5.length c5, .int .i64 (d.1.length : Int)] z12_ rfl rfl z8_ ?_
 refine (bQ A5 c5 x.f5 d.1.length _ (aN HC5.out hb1) HC5L.out (by have := HL5.out; omega)).mono ?_
 rw [HP.out]
 rintro e W2 ⟨rfl, hq2⟩
 refine ⟨_, rfl, ?_⟩
 have bX2 := aC bX1 hq2
 have bR2 := aC bR1 hq2
 have hb2 := aG hb1 hq2
 have hHeld2 : W2.cell? ⟨w.heap.size, 1, none⟩ = some (.int .i64 (k : Int)) ∧ W2.cell? ⟨w.heap.size, 10, none⟩ = some (.slice A5 x.f5.length c5) ∧ W2.cell? ⟨g, 1, none⟩ = some (.slice (some ⟨gd, 0, none⟩) ds.length cap) ∧ W2.cell? ⟨gd, k * 3, none⟩ = some (.slice B d.1.length c) ∧ True := ⟨aA bX2 1, aA bX2 10, aE hb2 h1, aE hb2 h2, trivial⟩
 have hl2 : w.heap.size + 2 ≤ W2.heap.size := aV bR2
 refine hK.out _ _ hHeld2 (fun _ => ?_)
 clear hK K
 refine nrm 26 ?_
 refine sI 19 27 22 1048575 ?_
 refine sI 20 28 22 2097151 ?_
 refine sI 21 7 22 4194303 ?_
 refine done_ z1_ ?_
 have hX5 := aA bX2 10
 by_cases h12 : x.f5.length > 12
 case pos =>
  obtain rfl : (zN, (2 : Int)) = r := by rw [← HZ.out, if_pos h12]
  have hd1 : decide ((12 : Int) < (x.f5.length : Int)) = true := decide_eq_true z5_
  have hd2 : decide (12 < x.f5.length) = true := decide_eq_true z5_
  have hR0 := aA bR2
  have fR0 := aD bR2
  clear h12
  go_wp2
  refine bodyPost_ret (aT rfl _ _ _ 66 #[.slice none 0 0, .int .i64 0, .int .i64 0] (0, 0) _ rfl (blkS bR2 _ _ _) Try.underlying66 rfl z1_) rfl ?_
  exact Got.zero (aI (aI (aI hb2 z5_) z5_) z5_)
 obtain rfl : ((pick d.1 x.f5, d.2), (0 : Int)) = r := by rw [← HZ.out, if_neg h12]
 have hd1 : decide ((12 : Int) < (x.f5.length : Int)) = false := decide_eq_false z5_
 have hd2 : decide (12 < x.f5.length) = false := decide_eq_false z5_
 clear h12
 go_wp2
 refine cG (n := 10) (S := fun w' => w'.cell? ⟨g, 1, none⟩ = some (.slice (some ⟨gd, 0, none⟩) ds.length cap) ∧ w'.cell? ⟨w.heap.size, 1, none⟩ = some (.int .i64 (k : Int)) ∧ w'.cell? ⟨gd, k * 3, none⟩ = some (.slice B d.1.length c) ∧ w'.cell? ⟨gd, k * 3 + 1, none⟩ = some (.int .i64 d.2.1) ∧ w'.cell? ⟨gd, k * 3 + 2, none⟩ = some (.int .i64 d.2.2) ∧ True) (ds := [9]) (fun W => Below w.heap.size w W ∧ W.heap[w.heap.size]? = some (.cells #[.int .i64 x.f0, .int .i64 (k : Int), .int .i64 x.f2, .int .i64 x.f3, .int .i64 x.f4.f0, .int .i64 x.f4.f1, .int .i64 x.f4.f2, .int .i64 x.f4.f3.f0, .int .i64 x.f4.f3.f1, .string x.f4.f3.f2, .slice A5 x.f5.length c5, .slice A6 x.f6.length c6, .int .i64 x.f7, .int .i64 x.f8] 34 (0, 0)) ∧ W.heap[w.heap.size + 1]? = some (.cells #[.slice none 0 0, .int .i64 0, .int .i64 0] 66 (0, 0))) (Steps.Bs 10 0) z1_ rfl rfl ⟨bP hb2, aU bX2, aU bR2⟩ (fun W hJ => ?_) (fun W0 hJ => ?_)
 ·
  obtain ⟨hb0, bX0, bR0⟩ := hJ
  exact ⟨aE hb0 h1, aA bX0 1, aE hb0 h2, aE hb0 h3, aE hb0 h4, trivial⟩
 obtain ⟨hb0, bX0, bR0⟩ := hJ
 have hHeld0 : W0.cell? ⟨g, 1, none⟩ = some (.slice (some ⟨gd, 0, none⟩) ds.length cap) ∧ W0.cell? ⟨w.heap.size, 1, none⟩ = some (.int .i64 (k : Int)) ∧ W0.cell? ⟨gd, k * 3, none⟩ = some (.slice B d.1.length c) ∧ W0.cell? ⟨gd, k * 3 + 1, none⟩ = some (.int .i64 d.2.1) ∧ W0.cell? ⟨gd, k * 3 + 2, none⟩ = some (.int .i64 d.2.2) ∧ True := ⟨aE hb0 h1, aA bX0 1, aE hb0 h2, aE hb0 h3, aE hb0 h4, trivial⟩
 have hl0 : w.heap.size + 2 ≤ W0.heap.size := aV bR0
 refine sI 0 36 10 1 ?_
 refine sI 1 37 10 3 ?_
 refine sI 2 38 10 7 ?_
 refine sT hHeld0 3 39 10 15 ?_
 refine sI 4 40 10 31 ?_
 refine sT hHeld0 5 41 10 63 ?_
 refine sI 6 42 10 127 ?_
 refine sT hHeld0 7 43 10 255 ?_
 refine one_ (i := 8) (N := (some 6)) (Steps.Bs 10 511) rfl rfl z1_ z10_ (fun K hK => ?_)
 refine cK z12_ (N := 6) rfl (cs := #[.slice none 0 0, .int .i64 0, .int .i64 0]) (t := 66) z11_ ?_
 intro g6 hg6 W1 bA1 hq1
 replace hg6 : w.heap.size + 2 ≤ g6 := (by rw [hg6]; exact hl0)
 have bX1 := aC bX0 hq1
 have bR1 := aC bR0 hq1
 have hb1 := aG hb0 hq1
 have hHeld1 : W1.cell? ⟨g, 1, none⟩ = some (.slice (some ⟨gd, 0, none⟩) ds.length cap) ∧ W1.cell? ⟨w.heap.size, 1, none⟩ = some (.int .i64 (k : Int)) ∧ W1.cell? ⟨gd, k * 3, none⟩ = some (.slice B d.1.length c) ∧ W1.cell? ⟨gd, k * 3 + 1, none⟩ = some (.int .i64 d.2.1) ∧ W1.cell? ⟨gd, k * 3 + 2, none⟩ = some (.int .i64 d.2.2) ∧ True := ⟨aE hb1 h1, aA bX1 1, aE hb1 h2, aE hb1 h3, aE hb1 h4, trivial⟩
 have hl1 : w.heap.size + 2 ≤ W1.heap.size := aV bR1
 refine hK.out _ _ hHeld1 (fun _ => ?_)
 clear hK K
 refine nrm 6 ?_
 have hc9_0 := aA bA1 0
 have hf9_0 := aD bA1 0
 have hc9_1 := aA bA1 1
 have hf9_1 := aD bA1 1
 have hc9_2 := aA bA1 2
 have hf9_2 := aD bA1 2
 refine last_ (i := 9) (N := none) (Steps.Bs 10 1023) rfl rfl z1_ z10_ (fun K hK => ?_)
 refine skip_ (w1 := ?_) z12_ rfl ?_ ?_
 rotate_left
 ·
  go_simp
  rfl
 refine hK.out _ _ ?_
 clear hK K
 obtain ⟨V, hV, hbV, bAV, hkeep⟩ := storeS hb1 z5_ bA1 (.slice B d.1.length c) (.int .i64 d.2.1) (.int .i64 d.2.2)
 rw [← hV]
 have bXV := (hkeep w.heap.size z5_).trans bX1
 have bRV := (hkeep (w.heap.size + 1) z5_).trans bR1
 clear hV hkeep hc9_0 hc9_1 hc9_2 hf9_0 hf9_1 hf9_2 bX1 bR1 bA1 hb1 hHeld1 bX0 bR0 hb0 hHeld0 hl1 hl0
 refine done_ z1_ ?_
 go_wp2
 refine cG (n := 12) (S := fun w' => w'.cell? ⟨g6, 0, none⟩ = some (.slice B d.1.length c) ∧ w'.cell? ⟨g6, 1, none⟩ = some (.int .i64 d.2.1) ∧ w'.cell? ⟨g6, 2, none⟩ = some (.int .i64 d.2.2) ∧ w'.cell? ⟨w.heap.size, 10, none⟩ = some (.slice A5 x.f5.length c5) ∧ True) (ds := [10]) (fun W => Below w.heap.size w W ∧ W.heap[w.heap.size]? = some (.cells #[.int .i64 x.f0, .int .i64 (k : Int), .int .i64 x.f2, .int .i64 x.f3, .int .i64 x.f4.f0, .int .i64 x.f4.f1, .int .i64 x.f4.f2, .int .i64 x.f4.f3.f0, .int .i64 x.f4.f3.f1, .string x.f4.f3.f2, .slice A5 x.f5.length c5, .slice A6 x.f6.length c6, .int .i64 x.f7, .int .i64 x.f8] 34 (0, 0)) ∧ W.heap[w.heap.size + 1]? = some (.cells #[.slice none 0 0, .int .i64 0, .int .i64 0] 66 (0, 0)) ∧ W.heap[g6]? = some (.cells #[.slice B d.1.length c, .int .i64 d.2.1, .int .i64 d.2.2] 66 (0, 0))) (Steps.Bs 12 0) z1_ rfl rfl ⟨bP hbV, aU bXV, aU bRV, aU bAV⟩ (fun W hJ => ?_) (fun W0 hJ => ?_)
 ·
  obtain ⟨hb0, bX0, bR0, bA0⟩ := hJ
  exact ⟨aA bA0 0, aA bA0 1, aA bA0 2, aA bX0 10, trivial⟩
 obtain ⟨hb0, bX0, bR0, bA0⟩ := hJ
 have hHeld0 : W0.cell? ⟨g6, 0, none⟩ = some (.slice B d.1.length c) ∧ W0.cell? ⟨g6, 1, none⟩ = some (.int .i64 d.2.1) ∧ W0.cell? ⟨g6, 2, none⟩ = some (.int .i64 d.2.2) ∧ W0.cell? ⟨w.heap.size, 10, none⟩ = some (.slice A5 x.f5.length c5) ∧ True := ⟨aA bA0 0, aA bA0 1, aA bA0 2, aA bX0 10, trivial⟩
 have hl0 : w.heap.size + 2 ≤ W0.heap.size := aV bR0
 refine sI 0 44 12 1 ?_
 refine sT hHeld0 1 45 12 3 ?_
 refine sI 2 46 12 7 ?_
 refine sT hHeld0 3 47 12 15 ?_
 refine sI 5 49 12 47 ?_
 refine sT hHeld0 6 50 12 111 ?_
 refine sI 7 51 12 239 ?_
 refine sT hHeld0 8 52 12 495 ?_
 refine one_ (i := 4) (N := (some 48)) (Steps.Bs 12 511) rfl rfl z1_ z10_ (fun K hK => ?_)
 refine goes_ Try.func61 z1_ rfl #[.slice B d.1.length c, .slice A5 x.f5.length c5] z12_ rfl rfl z8_ ?_
 refine (PAll.plan_pick.calls (x.f5.length + 1) B c d.1 A5 c5 x.f5 (pick d.1 x.f5) _ (aN HC.out hb0) HCC.out (aN HC5.out hb0) HC5L.out (eY _ d.1 x.f5 (by have := HL12.out; omega) (by have := HL5.out; omega) HP.out z5_)).mono ?_
 rintro e W1 ⟨u, rfl, hru, hq1⟩
 obtain ⟨A9, c9, rfl⟩ := bE hru
 refine ⟨_, rfl, ?_⟩
 have bX1 := aC bX0 hq1
 have bR1 := aC bR0 hq1
 have bA1 := aC bA0 hq1
 have hb1 := aG hb0 hq1
 have hHeld1 : W1.cell? ⟨g6, 0, none⟩ = some (.slice B d.1.length c) ∧ W1.cell? ⟨g6, 1, none⟩ = some (.int .i64 d.2.1) ∧ W1.cell? ⟨g6, 2, none⟩ = some (.int .i64 d.2.2) ∧ W1.cell? ⟨w.heap.size, 10, none⟩ = some (.slice A5 x.f5.length c5) ∧ True := ⟨aA bA1 0, aA bA1 1, aA bA1 2, aA bX1 10, trivial⟩
 have hl1 : w.heap.size + 2 ≤ W1.heap.size := aV bR1
 refine hK.out _ _ hHeld1 (fun _ => ?_)
 clear hK K
 refine nrm 48 ?_
 refine sI 9 53 12 1023 ?_
 have hc10_0 := aA bR1
 have hf10_0 := aD bR1
 refine last_ (i := 10) (N := none) (Steps.Bs 12 2047) rfl rfl z1_ z10_ (fun K hK => ?_)
 refine skip_ (w1 := ?_) z12_ rfl ?_ ?_
 rotate_left
 ·
  go_simp
  rfl
 refine hK.out _ _ ?_
 clear hK K
 refine sI 11 5 12 4095 ?_
 refine done_ z1_ ?_
 go_wp2
 refine bodyPost_ret (aT rfl _ _ _ 66 #[.slice A9 (pick d.1 x.f5).length c9, .int .i64 d.2.1, .int .i64 d.2.2] (0, 0) _ rfl (blkS bR1 _ _ _) Try.underlying66 rfl z1_) rfl ?_
 refine Got.stored (d := (pick d.1 x.f5, d.2)) HW.out.le rfl (bT (R_mono (cF hru) (fun k hk => by have := hk.2.1; omega)) z5_) hb1 _ _ _
end
end Go.Proofs.Ytimbbaoodjhdoaa.Plan
end
