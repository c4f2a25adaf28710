-- Put together by a program of this session (wip/slice2.py) out of the seat's texts.
import Derived.Test.YtimbbaoodjhdoaaZPTw1

section
namespace Go.Proofs.Ytimbbaoodjhdoaa.ZipT
open Go.RowKit Go.Proofs.YtimbbaoodjhdoaaW.PrintWords Go.Proofs.YtimbbaoodjhdoaaW.PrintLast Go.Proofs.YtimbbaoodjhdoaaW.PrintMore
abbrev nb_ (k : Nat) (v : Value) : Prop := some k ≠ v.ownBlock
theorem mk_ {p : Prop} (h : p) : Aside0 p := ⟨h⟩
section
variable {α : Type} {d : Kd α} {e : Nat} {w w1 w2 : World} {base : Nat} {ok : Nat → Prop} {v : Value} {xs : List α} {k_ : Nat}
theorem nK_ (k : Aside0 (Kd.N d e w base ok v xs))
    (h : Kd.N d e w base ok v xs → Kd.N d e w1 base ok v xs := by intro h_; (with_reducible repeat (first | apply Kd.N_alloc | apply Kd.N_drewN | apply Kd.N_drew)); exact h_) : Kd.N d e w1 base ok v xs := h k.out
theorem vK_ (k : Aside0 (Kd.V d e w base ok v xs))
    (h : Kd.V d e w base ok v xs → Kd.V d e w1 base ok v xs := by intro h_; (with_reducible repeat (first | apply Kd.V_alloc | apply Kd.V_drewN | apply Kd.V_drew)); exact h_) : Kd.V d e w1 base ok v xs := h k.out
theorem cK_ {A : Option Addr} {n : Nat} (k : Aside0 (Kd.C d w A n xs))
    (h : Kd.C d w A n xs → Kd.C d w1 A n xs := by intro h_; repeat (first | (with_reducible exact h_) | (with_reducible refine Kd.C_alloc ?_ _) | (with_reducible refine Kd.C_drewN ?_ _) | (with_reducible refine Kd.C_drew ?_) | exact h_)) : Kd.C d w1 A n xs := h k.out
theorem cX_ {A : Option Addr} {n : Nat} (k : Kd.C d w A n xs)
    (h : Kd.C d w A n xs → Kd.C d w1 A n xs := by intro h_; repeat (first | exact h_ | (with_reducible refine Kd.C_alloc ?_ _) | (with_reducible refine Kd.C_drewN ?_ _) | (with_reducible refine Kd.C_drew ?_))) : Kd.C d w1 A n xs := h k
theorem nM_ {ok' : Nat → Prop} (k : Aside0 (Kd.N d e w base ok v xs)) (hm : ∀ k, ok k → ok' k)
    (h : Kd.N d e w base ok' v xs → Kd.N d e w1 base ok' v xs := by intro h_; (with_reducible repeat (first | apply Kd.N_alloc | apply Kd.N_drewN | apply Kd.N_drew)); exact h_) : Kd.N d e w1 base ok' v xs := h (Kd.N_mono k.out hm)
theorem vM_ {ok' : Nat → Prop} (k : Aside0 (Kd.V d e w base ok v xs)) (hm : ∀ k, ok k → ok' k)
    (h : Kd.V d e w base ok' v xs → Kd.V d e w1 base ok' v xs := by intro h_; (with_reducible repeat (first | apply Kd.V_alloc | apply Kd.V_drewN | apply Kd.V_drew)); exact h_) : Kd.V d e w1 base ok' v xs := h (Kd.V_mono k.out hm)
theorem rM_ {ok' : Nat → Prop} (k : Aside0 (Kd.R d e w base ok v xs)) (hm : ∀ k, ok k → ok' k)
    (h : Kd.R d e w base ok' v xs → Kd.R d e w1 base ok' v xs := by intro h_; (with_reducible repeat (first | apply Kd.R_alloc | apply Kd.R_drewN | apply Kd.R_drew)); exact h_) : Kd.R d e w1 base ok' v xs := h (Kd.R_mono k.out hm)
theorem bB_ {g : Nat} {o : Obj} (k : Aside0 (w.heap[g]? = some o)) (hb : Below w1.heap.size w1 w2)
    (h : w.heap[g]? = some o → w1.heap[g]? = some o := by intro h_; (with_reducible repeat (first | refine aX ?_ _ | refine aU ?_ | refine aY ?_ _)); exact h_) : w2.heap[g]? = some o := aC (h k.out) hb
theorem fN_ (hk : (k_ < base ∨ (False ∨ False)) ∨ w1.heap.size ≤ k_) (k : Aside0 (Kd.N d e w base ok v xs))
    (h : Kd.N d e w base ok v xs → Kd.N d e w1 base ok v xs := by intro h_; (with_reducible repeat (first | apply Kd.N_alloc | apply Kd.N_drewN | apply Kd.N_drew)); exact h_) : some k_ ≠ v.ownBlock :=
  Or.elim hk (fun hs => Or.elim hs (fun hs e_ => Nat.not_le.2 hs (Kd.N_base k.out k_ e_.symm)) (fun hs => Or.elim hs False.elim False.elim)) (fun hn => Kd.fresh' (Kd.N_lt (h k.out)) k_ hn)
theorem fR_ (hk : (k_ < base ∨ (False ∨ False)) ∨ w1.heap.size ≤ k_) (k : Aside0 (Kd.R d e w base ok v xs))
    (h : Kd.R d e w base ok v xs → Kd.R d e w1 base ok v xs := by intro h_; (with_reducible repeat (first | apply Kd.R_alloc | apply Kd.R_drewN | apply Kd.R_drew)); exact h_) : some k_ ≠ v.ownBlock :=
  Or.elim hk (fun hs => Or.elim hs (fun hs e_ => Nat.not_le.2 hs (Kd.R_base k.out k_ e_.symm)) (fun hs => Or.elim hs False.elim False.elim)) (fun hn => Kd.fresh' (Kd.R_lt (h k.out)) k_ hn)
theorem fB_ {g : Nat} {o : Obj} (hk : (k_ < base ∨ (False ∨ False)) ∨ w1.heap.size ≤ k_) (gw : Aside0 (base ≤ g)) (k : Aside0 (w.heap[g]? = some o))
    (h : w.heap[g]? = some o → w1.heap[g]? = some o := by intro h_; (with_reducible repeat (first | refine aX ?_ _ | refine aU ?_ | refine aY ?_ _)); exact h_) : k_ ≠ g :=
  Or.elim hk (fun hs => Or.elim hs (fun hs e_ => Nat.not_le.2 hs (by rw [e_]; exact gw.out)) (fun hs => Or.elim hs False.elim False.elim)) (fun hn => Kd.freshB (h k.out) k_ hn)
end
section
variable {P : Program} {ops : Array Oper} {Q : Exit → Act → World → Prop} {md : Region.Mode} {S : World → Prop} {ds : List Nat} {fuel : Nat} {l : Array Bool} {a a' : Act} {w : World} {v : Value}
theorem nrm (N : Nat) (h : wpAnyLast P md ops Q S ds fuel l a' w) (ha : a.put (some N) v = a' := by simp only [Act.put, List.setIfInBounds_toArray, List.set_cons_zero, List.set_cons_succ, i64_w, i32_w]; rfl) : wpAnyLast P md ops Q S ds fuel l (a.put (some N) v) w := by
 subst ha
 exact h
end
theorem kc_ {w : World} {g t : Nat} {cs : Array Value} {v : Value} (k : Aside0 (w.heap[g]? = some (.cells cs t (0, 0)))) (i : Nat) (h : cs[i]? = some v := by rfl) : w.cell? ⟨g, i, none⟩ = some v := (aA k.out i).trans h
theorem up_ {w w1 : World} {a : Addr} {v : Value} (HB : Aside0 (Below w.heap.size w w1)) (h : w.cell? a = some v) : w1.cell? a = some v := (HB.out.cell (World.block_lt_of_cell? w _ h)).trans h
theorem q0 {p : Prop} (h : p := by first | rfl | (simp <;> rfl) | (simp [*] <;> rfl)) : p := h
section
variable {P : Program} {ops : Array Oper} {Q : Exit → Act → World → Prop} {md : Region.Mode} {S : World → Prop} {ds : List Nat} {oi : Oper} {v : Value} {fuel : Nat} {l : Array Bool} {a a' : Act} {w : World} {T : Bool × List (List Nat × List Nat)} {B : List Nat}
theorem sI (i N n b : Nat) (h : wpAnyLast P md ops Q S ds fuel (Steps.Bs n b) a' w) (hc : anyB md ops l (Steps.Bs n b) i = true := by kernel_rfl) (hi : ops[i]? = some oi := by rfl) (hN : oi.dst = some N := by rfl) (hw : Region.wanted oi (yielded ops a.tmps) = true := by rfl) (hy : ∀ w, (execOp a.eval oi).run P w = .ok (.value v) w := by intro w'; go_simp; with_reducible rfl) (hQ : ∀ c a w, Q (.panic c) (a.put oi.dst v) w → Q (.panic c) a w := by exact fun _ _ _ h => h) (ha : a.put (some N) v = a' := by simp only [Act.put, List.setIfInBounds_toArray, List.set_cons_zero, List.set_cons_succ, i64_w, i32_w]; rfl) : wpAnyLast P md ops Q S ds (fuel + 1) l a w := Steps.pI_ i (some N) (Steps.Bs n b) hc hi hN hw hy hQ ha h
theorem tI (t : Aside0 (rtab md ops = T)) (i N n b : Nat) (h : wpAnyLast P md ops Q S ds fuel (Steps.Bs n b) a' w) (hc : anyT T l.toList (Steps.Bs n b).toList i = true := by kernel_rfl) (hi : ops[i]? = some oi := by rfl) (hN : oi.dst = some N := by rfl) (hw : Region.wanted oi (yielded ops a.tmps) = true := by rfl) (hy : ∀ w, (execOp a.eval oi).run P w = .ok (.value v) w := by intro w'; go_simp; with_reducible rfl) (hQ : ∀ c a w, Q (.panic c) (a.put oi.dst v) w → Q (.panic c) a w := by exact fun _ _ _ h => h) (ha : a.put (some N) v = a' := by simp only [Act.put, List.setIfInBounds_toArray, List.set_cons_zero, List.set_cons_succ, i64_w, i32_w]; rfl) : wpAnyLast P md ops Q S ds (fuel + 1) l a w := Steps.pI_ i (some N) (Steps.Bs n b) (any_of t.out hc) hi hN hw hy hQ ha h
theorem sR (i N n b : Nat) (h : wpAnyLast P md ops Q S ds fuel (Steps.Bs n b) a' w) (hc : anyB md ops l (Steps.Bs n b) i = true := by kernel_rfl) (hi : ops[i]? = some oi := by rfl) (hN : oi.dst = some N := by rfl) (hw : Region.wanted oi (yielded ops a.tmps) = false := by rfl) (hQ : ∀ c a w, Q (.panic c) (a.put oi.dst undef) w → Q (.panic c) a w := by exact fun _ _ _ h => h) (ha : a.put (some N) undef = a' := by simp only [Act.put, List.setIfInBounds_toArray, List.set_cons_zero, List.set_cons_succ, i64_w, i32_w]; rfl) : wpAnyLast P md ops Q S ds (fuel + 1) l a w := Steps.pR_ i (some N) (Steps.Bs n b) hc hi hN hw hQ ha h
theorem tR (t : Aside0 (rtab md ops = T)) (i N n b : Nat) (h : wpAnyLast P md ops Q S ds fuel (Steps.Bs n b) a' w) (hc : anyT T l.toList (Steps.Bs n b).toList i = true := by kernel_rfl) (hi : ops[i]? = some oi := by rfl) (hN : oi.dst = some N := by rfl) (hw : Region.wanted oi (yielded ops a.tmps) = false := by rfl) (hQ : ∀ c a w, Q (.panic c) (a.put oi.dst undef) w → Q (.panic c) a w := by exact fun _ _ _ h => h) (ha : a.put (some N) undef = a' := by simp only [Act.put, List.setIfInBounds_toArray, List.set_cons_zero, List.set_cons_succ, i64_w, i32_w]; rfl) : wpAnyLast P md ops Q S ds (fuel + 1) l a w := Steps.pR_ i (some N) (Steps.Bs n b) (any_of t.out hc) hi hN hw hQ ha h
theorem sT (hS : S w) (i N n b : Nat) (h : wpAnyLast P md ops Q S ds fuel (Steps.Bs n b) a' w) (hc : takeB md ops ds l (Steps.Bs n b) i = true := by kernel_rfl) (hi : ops[i]? = some oi := by rfl) (hN : oi.dst = some N := by rfl) (hw : Region.wanted oi (yielded ops a.tmps) = true := by rfl) (hy : ∀ w, S w → (execOp a.eval oi).run P w = .ok (.value v) w := by intro w' hS_; repeat (have h_ := hS_.1; replace hS_ := hS_.2); go_simp; with_reducible rfl) (hQ : ∀ c a w, Q (.panic c) (a.put oi.dst v) w → Q (.panic c) a w := by exact fun _ _ _ h => h) (ha : a.put (some N) v = a' := by simp only [Act.put, List.setIfInBounds_toArray, List.set_cons_zero, List.set_cons_succ, i64_w, i32_w]; rfl) : wpAnyLast P md ops Q S ds (fuel + 1) l a w := Steps.tI_ i (some N) (Steps.Bs n b) hc hS hi hN hw hy hQ ha h
theorem tT (t : Aside0 (rtab md ops = T)) (tb : Aside0 (waitsOk T.2 B = true)) (hS : S w) (i N n b : Nat) (h : wpAnyLast P md ops Q S ds fuel (Steps.Bs n b) a' w) (hc : takeW T B ds l.toList (Steps.Bs n b).toList i = true := by kernel_rfl) (hi : ops[i]? = some oi := by rfl) (hN : oi.dst = some N := by rfl) (hw : Region.wanted oi (yielded ops a.tmps) = true := by rfl) (hy : ∀ w, S w → (execOp a.eval oi).run P w = .ok (.value v) w := by intro w' hS_; repeat (have h_ := hS_.1; replace hS_ := hS_.2); go_simp; with_reducible rfl) (hQ : ∀ c a w, Q (.panic c) (a.put oi.dst v) w → Q (.panic c) a w := by exact fun _ _ _ h => h) (ha : a.put (some N) v = a' := by simp only [Act.put, List.setIfInBounds_toArray, List.set_cons_zero, List.set_cons_succ, i64_w, i32_w]; rfl) : wpAnyLast P md ops Q S ds (fuel + 1) l a w := Steps.tI_ i (some N) (Steps.Bs n b) (take_ofW t.out tb.out hc) hS hi hN hw hy hQ ha h
end
section
variable {w : World} {g t : Nat}
theorem c4_ {a b c d : Value} (h : w.heap[g]? = some (.cells #[a, b, c, d] t (0, 0))) : w.cell? ⟨g, 0, none⟩ = some a ∧ w.cell? ⟨g, 1, none⟩ = some b ∧ w.cell? ⟨g, 2, none⟩ = some c ∧ w.cell? ⟨g, 3, none⟩ = some d ∧ w.frozen? ⟨g, 0, none⟩ = false ∧ w.frozen? ⟨g, 1, none⟩ = false ∧ w.frozen? ⟨g, 2, none⟩ = false ∧ w.frozen? ⟨g, 3, none⟩ = false := ⟨(aA h 0).trans rfl, (aA h 1).trans rfl, (aA h 2).trans rfl, (aA h 3).trans rfl, aD h 0, aD h 1, aD h 2, aD h 3⟩
theorem c5_ {a b c d e : Value} (h : w.heap[g]? = some (.cells #[a, b, c, d, e] t (0, 0))) : w.cell? ⟨g, 0, none⟩ = some a ∧ w.cell? ⟨g, 1, none⟩ = some b ∧ w.cell? ⟨g, 2, none⟩ = some c ∧ w.cell? ⟨g, 3, none⟩ = some d ∧ w.cell? ⟨g, 4, none⟩ = some e ∧ w.frozen? ⟨g, 0, none⟩ = false ∧ w.frozen? ⟨g, 1, none⟩ = false ∧ w.frozen? ⟨g, 2, none⟩ = false ∧ w.frozen? ⟨g, 3, none⟩ = false ∧ w.frozen? ⟨g, 4, none⟩ = false := ⟨(aA h 0).trans rfl, (aA h 1).trans rfl, (aA h 2).trans rfl, (aA h 3).trans rfl, (aA h 4).trans rfl, aD h 0, aD h 1, aD h 2, aD h 3, aD h 4⟩
theorem c6_ {a b c d e f : Value} (h : w.heap[g]? = some (.cells #[a, b, c, d, e, f] t (0, 0))) : w.cell? ⟨g, 0, none⟩ = some a ∧ w.cell? ⟨g, 1, none⟩ = some b ∧ w.cell? ⟨g, 2, none⟩ = some c ∧ w.cell? ⟨g, 3, none⟩ = some d ∧ w.cell? ⟨g, 4, none⟩ = some e ∧ w.cell? ⟨g, 5, none⟩ = some f ∧ w.frozen? ⟨g, 0, none⟩ = false ∧ w.frozen? ⟨g, 1, none⟩ = false ∧ w.frozen? ⟨g, 2, none⟩ = false ∧ w.frozen? ⟨g, 3, none⟩ = false ∧ w.frozen? ⟨g, 4, none⟩ = false ∧ w.frozen? ⟨g, 5, none⟩ = false := ⟨(aA h 0).trans rfl, (aA h 1).trans rfl, (aA h 2).trans rfl, (aA h 3).trans rfl, (aA h 4).trans rfl, (aA h 5).trans rfl, aD h 0, aD h 1, aD h 2, aD h 3, aD h 4, aD h 5⟩
end
theorem ZKN {α : Type} {d : Kd α} {e : Nat} {w w1 : World} {base : Nat} {ok : Nat → Prop} {v : Value} {xs : List α} (k : Aside0 (Kd.N d e w base ok v xs)) (h : Kd.N d e w base ok v xs → Kd.N d e w1 base ok v xs := by intro h_; (with_reducible repeat (first | apply Kd.N_alloc | apply Kd.N_drewN | apply Kd.N_drew)); exact h_) : Kd.N d e w1 base ok v xs := h k.out
theorem ZKV {α : Type} {d : Kd α} {e : Nat} {w w1 : World} {base : Nat} {ok : Nat → Prop} {v : Value} {xs : List α} (k : Aside0 (Kd.V d e w base ok v xs)) (h : Kd.V d e w base ok v xs → Kd.V d e w1 base ok v xs := by intro h_; (with_reducible repeat (first | apply Kd.V_alloc | apply Kd.V_drewN | apply Kd.V_drew)); exact h_) : Kd.V d e w1 base ok v xs := h k.out
theorem ZKR {α : Type} {d : Kd α} {e : Nat} {w w1 : World} {base : Nat} {ok : Nat → Prop} {v : Value} {xs : List α} (k : Aside0 (Kd.R d e w base ok v xs)) (h : Kd.R d e w base ok v xs → Kd.R d e w1 base ok v xs := by intro h_; (with_reducible repeat (first | apply Kd.R_alloc | apply Kd.R_drewN | apply Kd.R_drew)); exact h_) : Kd.R d e w1 base ok v xs := h k.out
theorem z0_ {p : Prop} (h : p := by repeat (first | exact Below.refl _ _ | (with_reducible refine aM ?_ _) | (with_reducible refine bP ?_) | (with_reducible refine aZ ?_ _) | (refine aI ?_ (by first | exact Nat.le_refl _ | (simp; done) | (simp; omega))))) : p := h
theorem z1_ {p : Prop} (h : p := by kernel_rfl) : p := h
theorem z2_ {p : Prop} (h : p := by repeat (first | ((with_reducible refine blk_at _ _ ?_); (simp; done)) | (with_reducible refine aX ?_ _) | (with_reducible refine aU ?_) | (with_reducible refine aY ?_ _))) : p := h
theorem z3_ {p : Prop} (h : p := by repeat (first | (with_reducible exact blk3 _ _ _ _ _ _ _ _ _ _) | (with_reducible exact blk24 _ _ _ _ _) | (with_reducible exact blk23 _ _ _ _) | (with_reducible exact blk2 _ _ _) | (with_reducible exact blk1 _ _ _) | (with_reducible refine aX ?_ _) | (with_reducible refine aU ?_) | (with_reducible refine aY ?_ _))) : p := h
theorem z4_ {p : Prop} (h : p := by first | (with_reducible assumption) | assumption) : p := h
theorem z5_ {p : Prop} (h : p := by omega) : p := h
theorem z6_ {p : Prop} (h : p := by (try simp only [List.map_toArray, List.map_cons, List.map_nil]); first | done | rfl | (simp only [List.length_drop, List.length_take]; rfl) | (go_simp; done) | (simp; done)) : p := h
theorem z7_ {p : Prop} (h : p := by first | exact Nat.le_refl _ | (simp; done) | (simp; omega)) : p := h
theorem z8_ {p : Prop} (h : p := by (try simp only [List.map_toArray, List.map_cons, List.map_nil]); first | done | rfl) : p := h
theorem z9_ {p : Prop} (h : p := by first | rfl | (simp; done) | (simp [*]; done)) : p := h
theorem z10_ {p : Prop} (h : p := by decide) : p := h
theorem z11_ {p : Prop} (h : p := by first | (go_simp; done) | (go_simp; rfl)) : p := h
theorem z12_ {p : Prop} (h : p := by rfl) : p := h
end Go.Proofs.Ytimbbaoodjhdoaa.ZipT
end
