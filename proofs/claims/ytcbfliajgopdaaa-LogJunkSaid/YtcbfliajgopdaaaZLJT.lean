-- Put together by a program of this session (wip/slice2.py) out of the seat's texts.
import Derived.Test.YtcbfliajgopdaaaZLJw1

section
namespace Go.Proofs.Ytcbfliajgopdaaa.ZipT
open Go.RowKit Go.Proofs.YtcbfliajgopdaaaW.PrintWords Go.Proofs.YtcbfliajgopdaaaW.PrintLast Go.Proofs.YtcbfliajgopdaaaW.PrintMore
abbrev nb_ (k : Nat) (v : Value) : Prop := some k ≠ v.ownBlock
theorem mk_ {p : Prop} (h : p) : Aside0 p := ⟨h⟩
section
variable {α : Type} {d : Kd α} {e : Nat} {w w1 w2 : World} {base : Nat} {ok : Nat → Prop} {v : Value} {xs : List α} {k_ : Nat}
theorem nK_ (k : Aside0 (Kd.N d e w base ok v xs))
    (h : Kd.N d e w base ok v xs → Kd.N d e w1 base ok v xs := by intro h_; (with_reducible repeat (first | apply Kd.N_alloc | apply Kd.N_drewN | apply Kd.N_drew)); exact h_) : Kd.N d e w1 base ok v xs := h k.out
theorem vK_ (k : Aside0 (Kd.V d e w base ok v xs))
    (h : Kd.V d e w base ok v xs → Kd.V d e w1 base ok v xs := by intro h_; (with_reducible repeat (first | apply Kd.V_alloc | apply Kd.V_drewN | apply Kd.V_drew)); exact h_) : Kd.V d e w1 base ok v xs := h k.out
theorem cK_ {A : Option Addr} {n : Nat} (k : Aside0 (Kd.C d w A n xs))
    (h : Kd.C d w A n xs → Kd.C d w1 A n xs := by intro h_; repeat (first | (with_reducible exact h_) | (with_reducible refine Kd.C_alloc ?_ _) | (with_reducible refine Kd.C_drewN ?_ _) | (with_reducible refine Kd.C_drew ?_) | exact h_)) : Kd.C d w1 A n xs := h k.out
theorem cX_ {A : Option Addr} {n : Nat} (k : Kd.C d w A n xs)
    (h : Kd.C d w A n xs → Kd.C d w1 A n xs := by intro h_; repeat (first | exact h_ | (with_reducible refine Kd.C_alloc ?_ _) | (with_reducible refine Kd.C_drewN ?_ _) | (with_reducible refine Kd.C_drew ?_))) : Kd.C d w1 A n xs := h k
theorem nM_ {ok' : Nat → Prop} (k : Aside0 (Kd.N d e w base ok v xs)) (hm : ∀ k, ok k → ok' k)
    (h : Kd.N d e w base ok' v xs → Kd.N d e w1 base ok' v xs := by intro h_; (with_reducible repeat (first | apply Kd.N_alloc | apply Kd.N_drewN | apply Kd.N_drew)); exact h_) : Kd.N d e w1 base ok' v xs := h (Kd.N_mono k.out hm)
theorem vM_ {ok' : Nat → Prop} (k : Aside0 (Kd.V d e w base ok v xs)) (hm : ∀ k, ok k → ok' k)
    (h : Kd.V d e w base ok' v xs → Kd.V d e w1 base ok' v xs := by intro h_; (with_reducible repeat (first | apply Kd.V_alloc | apply Kd.V_drewN | apply Kd.V_drew)); exact h_) : Kd.V d e w1 base ok' v xs := h (Kd.V_mono k.out hm)
theorem rM_ {ok' : Nat → Prop} (k : Aside0 (Kd.R d e w base ok v xs)) (hm : ∀ k, ok k → ok' k)
    (h : Kd.R d e w base ok' v xs → Kd.R d e w1 base ok' v xs := by intro h_; (with_reducible repeat (first | apply Kd.R_alloc | apply Kd.R_drewN | apply Kd.R_drew)); exact h_) : Kd.R d e w1 base ok' v xs := h (Kd.R_mono k.out hm)
theorem bB_ {g : Nat} {o : Obj} (k : Aside0 (w.heap[g]? = some o)) (hb : Below w1.heap.size w1 w2)
    (h : w.heap[g]? = some o → w1.heap[g]? = some o := by intro h_; (with_reducible repeat (first | refine blk_drewN ?_ _ | refine blk_drew ?_ | refine blk_alloc ?_ _)); exact h_) : w2.heap[g]? = some o := blk_below (h k.out) hb
theorem fN_ (hk : (k_ < base ∨ (False ∨ False)) ∨ w1.heap.size ≤ k_) (k : Aside0 (Kd.N d e w base ok v xs))
    (h : Kd.N d e w base ok v xs → Kd.N d e w1 base ok v xs := by intro h_; (with_reducible repeat (first | apply Kd.N_alloc | apply Kd.N_drewN | apply Kd.N_drew)); exact h_) : some k_ ≠ v.ownBlock :=
  Or.elim hk (fun hs => Or.elim hs (fun hs e_ => Nat.not_le.2 hs (Kd.N_base k.out k_ e_.symm)) (fun hs => Or.elim hs False.elim False.elim)) (fun hn => Kd.fresh' (Kd.N_lt (h k.out)) k_ hn)
theorem fR_ (hk : (k_ < base ∨ (False ∨ False)) ∨ w1.heap.size ≤ k_) (k : Aside0 (Kd.R d e w base ok v xs))
    (h : Kd.R d e w base ok v xs → Kd.R d e w1 base ok v xs := by intro h_; (with_reducible repeat (first | apply Kd.R_alloc | apply Kd.R_drewN | apply Kd.R_drew)); exact h_) : some k_ ≠ v.ownBlock :=
  Or.elim hk (fun hs => Or.elim hs (fun hs e_ => Nat.not_le.2 hs (Kd.R_base k.out k_ e_.symm)) (fun hs => Or.elim hs False.elim False.elim)) (fun hn => Kd.fresh' (Kd.R_lt (h k.out)) k_ hn)
theorem fB_ {g : Nat} {o : Obj} (hk : (k_ < base ∨ (False ∨ False)) ∨ w1.heap.size ≤ k_) (gw : Aside0 (base ≤ g)) (k : Aside0 (w.heap[g]? = some o))
    (h : w.heap[g]? = some o → w1.heap[g]? = some o := by intro h_; (with_reducible repeat (first | refine blk_drewN ?_ _ | refine blk_drew ?_ | refine blk_alloc ?_ _)); exact h_) : k_ ≠ g :=
  Or.elim hk (fun hs => Or.elim hs (fun hs e_ => Nat.not_le.2 hs (by rw [e_]; exact gw.out)) (fun hs => Or.elim hs False.elim False.elim)) (fun hn => Kd.freshB (h k.out) k_ hn)
end
theorem ZKN {α : Type} {d : Kd α} {e : Nat} {w w1 : World} {base : Nat} {ok : Nat → Prop} {v : Value} {xs : List α} (k : Aside0 (Kd.N d e w base ok v xs)) (h : Kd.N d e w base ok v xs → Kd.N d e w1 base ok v xs := by intro h_; (with_reducible repeat (first | apply Kd.N_alloc | apply Kd.N_drewN | apply Kd.N_drew)); exact h_) : Kd.N d e w1 base ok v xs := h k.out
theorem ZKV {α : Type} {d : Kd α} {e : Nat} {w w1 : World} {base : Nat} {ok : Nat → Prop} {v : Value} {xs : List α} (k : Aside0 (Kd.V d e w base ok v xs)) (h : Kd.V d e w base ok v xs → Kd.V d e w1 base ok v xs := by intro h_; (with_reducible repeat (first | apply Kd.V_alloc | apply Kd.V_drewN | apply Kd.V_drew)); exact h_) : Kd.V d e w1 base ok v xs := h k.out
theorem ZKR {α : Type} {d : Kd α} {e : Nat} {w w1 : World} {base : Nat} {ok : Nat → Prop} {v : Value} {xs : List α} (k : Aside0 (Kd.R d e w base ok v xs)) (h : Kd.R d e w base ok v xs → Kd.R d e w1 base ok v xs := by intro h_; (with_reducible repeat (first | apply Kd.R_alloc | apply Kd.R_drewN | apply Kd.R_drew)); exact h_) : Kd.R d e w1 base ok v xs := h k.out
theorem z0_ {p : Prop} (h : p := by first | (with_reducible assumption) | assumption) : p := h
theorem z1_ {p : Prop} (h : p := by kernel_rfl) : p := h
theorem z2_ {p : Prop} (h : p := by omega) : p := h
theorem z3_ {p : Prop} (h : p := by first | rfl | (simp; done) | (simp [*]; done)) : p := h
theorem z4_ {p : Prop} (h : p := by (try simp only [List.map_toArray, List.map_cons, List.map_nil]); first | done | rfl | (simp only [List.length_drop, List.length_take]; rfl) | (go_simp; done) | (simp; done)) : p := h
theorem z5_ {p : Prop} (h : p := by decide) : p := h
end Go.Proofs.Ytcbfliajgopdaaa.ZipT
end
