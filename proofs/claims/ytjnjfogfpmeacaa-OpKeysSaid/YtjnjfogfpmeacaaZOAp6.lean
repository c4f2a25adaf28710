-- Put together by a program of this session (wip/slice2.py) out of the seat's texts.
import Derived.Test.YtjnjfogfpmeacaaZOAp5

set_option maxHeartbeats 8000000
set_option maxRecDepth 100000
open Go.Proofs.YtjnjfogfpmeacaaW Go.Proofs.Ytjnjfogfpmeacaa
section
namespace Go.Proofs.Ytjnjfogfpmeacaa.Ops
open Go.RowKit PAll Plain PrintWords PrintMore ZipT PrintWords.Kd PrintMore.Kd
set_option linter.unusedVariables false
set_option linter.unusedSimpArgs false
instance : DecidableEq Dt := fun a b => decidable_of_iff (a.f0 = b.f0 ∧ a.f1 = b.f1) ⟨fun ⟨h0, h1⟩ => by cases a; cases b; simp_all, fun h => by subst h; exact ⟨rfl, rfl⟩⟩
instance : DecidableEq St := fun a b => decidable_of_iff (a.f0 = b.f0 ∧ a.f1 = b.f1 ∧ a.f2 = b.f2) ⟨fun ⟨h0, h1, h2⟩ => by cases a; cases b; simp_all, fun h => by subst h; exact ⟨rfl, rfl, rfl⟩⟩
instance : DecidableEq Ox := fun a b => decidable_of_iff (a.f0 = b.f0 ∧ a.f1 = b.f1 ∧ a.f2 = b.f2 ∧ a.f3 = b.f3 ∧ a.f4 = b.f4 ∧ a.f5 = b.f5 ∧ a.f6 = b.f6 ∧ a.f7 = b.f7 ∧ a.f8 = b.f8) ⟨fun ⟨h0, h1, h2, h3, h4, h5, h6, h7, h8⟩ => by cases a; cases b; simp_all, fun h => by subst h; exact ⟨rfl, rfl, rfl, rfl, rfl, rfl, rfl, rfl, rfl⟩⟩
theorem keepDot_eq (a b : Dt) : raddlekeep_Dot.f a.f0 a.f1 b.f0 b.f1 = some (decide (a = b)) := by
 obtain ⟨a0, a1⟩ := a
 obtain ⟨b0, b1⟩ := b
 unfold raddlekeep_Dot.f
 simp only
 by_cases h : a0 = b0
 rotate_left
 ·
  rw [if_neg h, decide_eq_false (fun e => h (by injection e))]
 rw [if_pos h]; subst h
 by_cases h1 : a1 = b1
 ·
  subst h1; rw [decide_eq_true rfl, beq_self_eq_true]
 rw [decide_eq_false (fun e => h1 (by injection e)), beq_eq_false_iff_ne.2 h1]
theorem keepStamp_eq (a b : St) : raddlekeep_Stamp.f a.f0 a.f1 a.f2 b.f0 b.f1 b.f2 = some (decide (a = b)) := by
 obtain ⟨a0, a1, a2⟩ := a
 obtain ⟨b0, b1, b2⟩ := b
 unfold raddlekeep_Stamp.f
 simp only
 by_cases h : a0 = b0
 rotate_left
 ·
  rw [if_neg h, decide_eq_false (fun e => h (by injection e))]
 rw [if_pos h]; subst h
 by_cases h1 : a1 = b1
 rotate_left
 ·
  rw [if_neg h1, decide_eq_false (fun e => h1 (by injection e))]
 rw [if_pos h1]; subst h1
 by_cases h2 : a2 = b2
 ·
  subst h2; rw [decide_eq_true rfl, beq_self_eq_true]
 rw [decide_eq_false (fun e => h2 (by injection e)), beq_eq_false_iff_ne.2 h2]
theorem keepDots_l0 (a b : List Dt) (ha : a.length ≤ 1000000) (hl : a.length = b.length) (m : List Dt) : ∀ (k i : Nat), a.drop i = m → m.length < k →
  raddlekeep_Dots.l0 k a b (i : Int) = some (decide (m = b.drop i)) := by
 induction m with
 | nil =>
  intro k i h hk
  obtain ⟨k, rfl⟩ : ∃ j, k = j + 1 := ⟨k - 1, by omega⟩
  have h1 := dropL_end h
  simp only [raddlekeep_Dots.l0]
  rw [if_neg z3, List.drop_eq_nil_iff.2 z3]; simp
 | cons v m ih =>
  intro k i h hk
  obtain ⟨k, rfl⟩ : ∃ j, k = j + 1 := ⟨k - 1, by omega⟩
  have h1 := dropL_lt h
  simp only [raddlekeep_Dots.l0]
  cases hd : b.drop i with
  | nil => have h2 := dropL_end hd; omega
  | cons t n =>
   rw [if_pos z3, if_pos z3, if_pos z3, rdD_drop h, rdD_drop hd, keepDot_eq, Option.bind_some, w64 z3 z3]
   by_cases hz : v = t
   rotate_left
   ·
    rw [decide_eq_false hz, if_neg z5]
    simp [hz]
   have := ih k (i + 1) (dropL_tail h) (by simp at hk; omega)
   rw [decide_eq_true hz, if_pos rfl, show ((i : Int) + 1) = ((i + 1 : Nat) : Int) from rfl, this, dropL_tail hd, hz]
   simp
theorem keepDots_eq (k : Nat) (a b : List Dt) (ha : a.length ≤ 1000000) (hk : a.length + 1 ≤ k) : raddlekeep_Dots.f k a b = some (decide (a = b)) := by
 unfold raddlekeep_Dots.f
 by_cases hl : (a.length : Int) = b.length
 rotate_left
 ·
  rw [if_neg hl, decide_eq_false (fun e => hl (by rw [e]))]
 rw [if_pos hl]
 exact keepDots_l0 a b ha z3 a k 0 rfl z3
theorem keepOp_eq (k : Nat) (x y : Ox) (h1 : x.f1.length ≤ 1000000) (h7 : x.f7.length ≤ 1000000) (h8 : x.f8.length ≤ 1000000) (hk : x.f1.length + 1 ≤ k ∧ x.f7.length + 1 ≤ k ∧ x.f8.length + 1 ≤ k) :
  raddlekeep_Op.f k x.f0.f0 x.f0.f1 x.f1 x.f2.f0 x.f2.f1 x.f2.f2 x.f3 x.f4 x.f5 x.f6 x.f7 x.f8 y.f0.f0 y.f0.f1 y.f1 y.f2.f0 y.f2.f1 y.f2.f2 y.f3 y.f4 y.f5 y.f6 y.f7 y.f8 = some (decide (x = y)) := by
 unfold raddlekeep_Op.f
 rw [keepDot_eq, Option.bind_some]
 by_cases e0 : x.f0 = y.f0
 rotate_left
 ·
  rw [decide_eq_false e0, if_neg z5, decide_eq_false (fun e => e0 (by rw [e]))]
 rw [decide_eq_true e0, if_pos rfl, keepInts_eq _ _ _ h1 hk.1, Option.bind_some]
 by_cases e1 : x.f1 = y.f1
 rotate_left
 ·
  rw [decide_eq_false e1, if_neg z5, decide_eq_false (fun e => e1 (by rw [e]))]
 rw [decide_eq_true e1, if_pos rfl, keepStamp_eq, Option.bind_some]
 by_cases e2 : x.f2 = y.f2
 rotate_left
 ·
  rw [decide_eq_false e2, if_neg z5, decide_eq_false (fun e => e2 (by rw [e]))]
 rw [decide_eq_true e2, if_pos rfl]
 by_cases e3 : x.f3 = y.f3
 rotate_left
 ·
  rw [if_neg e3, decide_eq_false (fun e => e3 (by rw [e]))]
 rw [if_pos e3]
 by_cases e4 : x.f4 = y.f4
 rotate_left
 ·
  rw [if_neg e4, decide_eq_false (fun e => e4 (by rw [e]))]
 rw [if_pos e4]
 by_cases e5 : x.f5 = y.f5
 rotate_left
 ·
  rw [if_neg (fun e => e5 (toList_inj.1 e)), decide_eq_false (fun e => e5 (by rw [e]))]
 rw [if_pos (toList_inj.2 e5)]
 by_cases e6 : x.f6 = y.f6
 rotate_left
 ·
  rw [if_neg e6, decide_eq_false (fun e => e6 (by rw [e]))]
 rw [if_pos e6, keepRow_eq _ _ _ h7 hk.2.1, Option.bind_some]
 by_cases e7 : x.f7 = y.f7
 rotate_left
 ·
  rw [decide_eq_false e7, if_neg z5, decide_eq_false (fun e => e7 (by rw [e]))]
 rw [decide_eq_true e7, if_pos rfl, keepDots_eq _ _ _ h8 hk.2.2, Option.bind_some]
 by_cases e8 : x.f8 = y.f8
 rotate_left
 ·
  rw [decide_eq_false e8, decide_eq_false (fun e => e8 (by rw [e]))]
 rw [decide_eq_true e8, decide_eq_true]
 cases x; cases y; simp_all
theorem opFit_small {x : Ox} (h : opFit x) : opSmall x := by
 have h1 := h.1.1.1.1.1.1.2.1
 have h7 := ((rowE_zero x.f7).1 h.1.2).1
 have h8 := h.2.1
 exact ⟨by omega, by omega, by omega⟩
theorem encT_bytes (t : ByteArray) (h : t.size ≤ 24) : Bytes (encT t) := Bytes.cons ⟨by omega, by omega⟩ (bytesOf_bytes t)
theorem flat_bytes {α : Type} {f : α → List Int} (h : ∀ x, Bytes (f x)) : ∀ l : List α, Bytes (l.flatMap f)
 | [] => Bytes.nil
 | x :: l => by rw [List.flatMap_cons]; exact (h x).append (flat_bytes h l)
theorem opB_bytes {x : Ox} (h : opFit x) : Bytes (opB x) := by
 have hd : ∀ d : Dt, Bytes (dotB d) := fun d => (big_bytes _ _).append (big_bytes _ _)
 unfold opB numsB stampB dotsB
 exact ((((((((big_bytes _ _).append (hd _)).append ((big_bytes _ _).append (flat_bytes (fun n => big_bytes _ _) _))).append (((big_bytes _ _).append (big_bytes _ _)).append (big_bytes _ _))).append (big_bytes _ _)).append (encT_bytes _ h.1.1.1.2)).append (big_bytes _ _)).append (rowB_bytes h.1.2)).append ((big_bytes _ _).append (flat_bytes hd _))
theorem read_back {x : Ox} (h : opFit x) : sOpRead (opB x) 0 = (x, ((opB x).length : Int), 0) := by
 have := opRead_put [] [] x h
 simpa using this
def wakeOp : Ox := ⟨⟨0, 2⟩, [1], ⟨0, 0, 0⟩, 3, 0, ⟨#[107]⟩, 0, [], [⟨0, 1⟩]⟩
theorem wake_fit : opFit wakeOp := by decide
end Go.Proofs.Ytjnjfogfpmeacaa.Ops
end
section
namespace Go.Proofs.Ytjnjfogfpmeacaa.PAll
open Go.RowKit PAll Ops Plain PrintWords PrintLast PrintMore Go.Proofs.Ytjnjfogfpmeacaa.Sep ZipT PrintWords.Kd PrintMore.Kd
set_option linter.unusedVariables false
set_option linter.unusedSimpArgs false
theorem sp_lit1 {α : Type} {d : Kd α} {e : Nat} {p : α} {cs : List Value} {w : World} {F : List Part} (h : Sp w (El d p cs :: F)) (hs : 0 < d.sz) : Sp (w.alloc (.cells cs.toArray e (0, 0))) (Row d e (.slice (some ⟨w.heap.size, 0, none⟩) 1 1) [p] :: F) := by
 obtain ⟨ok, h1, h2, h3⟩ := h.head1
 have hl : cs.length = d.sz := d.K_len (d.K_of_M h2)
 have hz : cs.length = 1 * d.sz := by rw [Nat.one_mul]; exact hl
 refine h3 _ _ ((Moved.refl w ok).alloc _) ⟨fun k hk => ?_, cs, ⟨hz, .inr ⟨w.heap.size, 1, cs.toArray, rfl, Nat.zero_le _, blk_new w _, Nat.le_refl _, by simp only [maxLen]; omega, by rw [List.size_toArray]; exact hz, by show cs.take (1 * d.sz) = cs; rw [← hz, List.take_length]⟩⟩, ?_⟩
 ·
  have hk : w.heap.size = k := Option.some.inj hk
  subst hk
  exact .inr ⟨Nat.le_refl _, by rw [show (w.alloc (.cells cs.toArray e (0, 0))).heap.size = w.heap.size + 1 from Array.size_push _]; omega⟩
 ·
  have hM : d.M (w.alloc (.cells cs.toArray e (0, 0))) 0 (fun k => (ok k ∨ w.heap.size ≤ k ∧ k < (w.alloc (.cells cs.toArray e (0, 0))).heap.size) ∧ some k ≠ (Value.slice (some ⟨w.heap.size, 0, none⟩) 1 1).ownBlock) p cs :=
   d.M_mono (fun k hk => ⟨.inl hk.1, fun e => by have := hk.2; have he : k = w.heap.size := Option.some.inj e; omega⟩) (Kd.M_step (ok := fun k => ok k ∧ k < w.heap.size) (d.M_mono (fun k hk => ⟨hk, h1 k hk⟩) h2) (fun k hk hlt => (Moved.alloc (Moved.refl w (fun _ => False)) _).block k hlt (fun e => e)))
  have := Reps.snoc (Reps.none _ d.sz) hM hl
  simpa using this
def raddlelaw07_wakes.f : Option Bool := some true
theorem wakes7_eq : raddlelaw07_wakes.f = some true := rfl
theorem raddlelaw07_wakes.calls (r : Bool) (w : World) (h : raddlelaw07_wakes.f = some r) :
  Calls Try.prog 15 #[] w fun e w' => e = .returned (.bool r) ∧ Below w.heap.size w w' := by
 obtain rfl : true = r := Option.some.inj h
 clear h
 have h1 := sp_lit1 (e := 3) (sp_el (d := Kd.int .i64) (p := 1) (cs := [.int .i64 1]) (fun _ _ => rfl) (Sp.start w)) z5
 have h2 := sp_lit1 (e := 25) (sp_el (d := k25) (p := ⟨0, 1⟩) (cs := [.int .i64 0, .int .i64 1]) (fun W ok => k25_mkM W 0 ok ⟨0, 1⟩) h1) z5
 have h3 := h2.box (.cells #[.int .i64 0, .int .i64 0, .slice none 0 0, .int .i64 0, .int .i64 0, .int .i64 0, .int .i64 0, .int .i64 0, .string ⟨#[]⟩, .int .i64 0, .slice none 0 0, .slice none 0 0] 32 (0, 0))
 have e1 : (w.alloc (.cells #[.int .i64 1] 3 (0, 0))).heap.size = w.heap.size + 1 := Array.size_push _
 have e2 : ((w.alloc (.cells #[.int .i64 1] 3 (0, 0))).alloc (.cells #[.int .i64 0, .int .i64 1] 25 (0, 0))).heap.size = w.heap.size + 1 + 1 := by rw [show ((w.alloc (.cells #[.int .i64 1] 3 (0, 0))).alloc (.cells #[.int .i64 0, .int .i64 1] 25 (0, 0))).heap.size = (w.alloc (.cells #[.int .i64 1] 3 (0, 0))).heap.size + 1 from Array.size_push _, e1]
 replace h3 : Sp (((w.alloc (.cells #[.int .i64 1] 3 (0, 0))).alloc (.cells #[.int .i64 0, .int .i64 1] 25 (0, 0))).alloc (.cells #[.int .i64 0, .int .i64 0, .slice none 0 0, .int .i64 0, .int .i64 0, .int .i64 0, .int .i64 0, .int .i64 0, .string ⟨#[]⟩, .int .i64 0, .slice none 0 0, .slice none 0 0] 32 (0, 0))) [Blk (w.heap.size + 1 + 1) (.cells #[.int .i64 0, .int .i64 0, .slice none 0 0, .int .i64 0, .int .i64 0, .int .i64 0, .int .i64 0, .int .i64 0, .string ⟨#[]⟩, .int .i64 0, .slice none 0 0, .slice none 0 0] 32 (0, 0)), Row k25 25 (.slice (some ⟨w.heap.size + 1, 0, none⟩) 1 1) [⟨0, 1⟩], Row (Kd.int .i64) 3 (.slice (some ⟨w.heap.size, 0, none⟩) 1 1) [1], Old w] := by
  rw [← e2, ← e1]; exact h3
 have h4 := sp_storeRow h3 #[.int .i64 0, .int .i64 2, .slice (some ⟨w.heap.size, 0, none⟩) 1 1, .int .i64 0, .int .i64 0, .int .i64 0, .int .i64 3, .int .i64 0, .string ⟨#[107]⟩, .int .i64 0, .slice none 0 0, .slice (some ⟨w.heap.size + 1, 0, none⟩) 1 1]
 have HX := mk_ h4
 obtain ⟨b, hb⟩ : ∃ b, opB wakeOp = b := ⟨_, rfl⟩
 have hl := (opB_len _ wake_fit).2
 have hbb := opB_bytes wake_fit
 have hrb := read_back wake_fit
 have hQ : ∀ W : World, Kd.C (Kd.int .i64) W (some ⟨w.heap.size, 0, none⟩) 1 [1] → Kd.C k84 W none 0 [] → Kd.C k25 W (some ⟨w.heap.size + 1, 0, none⟩) 1 [⟨0, 1⟩] → Calls Try.prog 16 #[.agg #[.int .i64 0, .int .i64 2, .slice (some ⟨w.heap.size, 0, none⟩) 1 1, .int .i64 0, .int .i64 0, .int .i64 0, .int .i64 3, .int .i64 0, .string ⟨#[107]⟩, .int .i64 0, .slice none 0 0, .slice (some ⟨w.heap.size + 1, 0, none⟩) 1 1]] W fun e w' => ∃ v, e = .returned (.tuple #[v, .int .i64 0]) ∧ Sp w' [Row (Kd.int .u8) 5 v b, Old W] := fun W a1 a7 a8 => by
  have := bytes_sp wakeOp (some ⟨w.heap.size, 0, none⟩) none (some ⟨w.heap.size + 1, 0, none⟩) 1 0 1 a1 (Nat.le_refl _) a7 (Nat.le_refl _) a8 (Nat.le_refl _) (opFit_small wake_fit)
  rw [opBytes_eq, if_pos wake_fit, hb] at this
  exact this
 have hR : ∀ (W : World) (A : Option Addr) (c : Nat), Kd.C (Kd.int .u8) W A b.length b → b.length ≤ c → Calls Try.prog 11 #[.slice A b.length c, .int .i64 0] W fun e w' => ∃ v1 v7 v8, e = .returned (.tuple #[.agg #[.int .i64 0, .int .i64 2, v1, .int .i64 0, .int .i64 0, .int .i64 0, .int .i64 3, .int .i64 0, .string ⟨#[107]⟩, .int .i64 0, v7, v8], .int .i64 (b.length : Int), .int .i64 0]) ∧
   Sp w' [Row (Kd.int .i64) 3 v1 [1], Row k84 84 v7 [], Row k25 25 v8 [⟨0, 1⟩], Old W] := fun W A c a1 a2 => by
  have := read_sp a1 a2 (by rw [← hb]; exact hbb) (by rw [← hb]; omega) 0
  rw [← hb] at this ⊢
  rw [hrb] at this
  exact this
 have HQ := mk_ hQ
 have HR := mk_ hR
 have HK := mk_ (show raddlekeep_Op.f 100 0 2 [1] 0 0 0 3 0 (⟨#[107]⟩ : ByteArray) 0 ([] : List S84) [⟨0, 1⟩] 0 2 [1] 0 0 0 3 0 (⟨#[107]⟩ : ByteArray) 0 ([] : List S84) [⟨0, 1⟩] = some true from (keepOp_eq 100 wakeOp wakeOp z5 z5 z5 z5).trans (congrArg some (decide_eq_true rfl)))
 have HCK := mk_ (show op_Check.f 1100 1 [⟨[3]⟩] 0 2 [1] 0 0 0 3 0 (⟨#[107]⟩ : ByteArray) 0 ([] : List S84) [⟨0, 1⟩] = some 0 from (check_op_eq 1100 1 [⟨[3]⟩] wakeOp z5 z5 (Nat.le_refl _)).trans (congrArg some z5))
 have HY := mk_ (show op_Key.f (⟨#[107]⟩ : ByteArray) = some true from by rw [key_eq]; rfl)
 have hC : ∀ {α : Type} {d : Kd α} {e n c : Nat} {A : Option Addr} {xs : List α} {W : World} {F : List Part}, Sp W (Row d e (.slice A n c) xs :: F) → n = xs.length ∧ xs.length ≤ c ∧ Kd.C d W A xs.length xs := fun h => by
  obtain ⟨A', c', he, hc, hC⟩ := h.row
  injection he with e1 e2 e3
  subst e1; subst e3
  exact ⟨e2, hc, hC⟩
 clear h1 h2 h4 hl hbb hrb hb hQ hR e1 e2
 go_enter Try.func15, Try.ntmps15
 go_wp2_with (first
  | ((with_reducible refine gate_st (ty := 32) (x := .tmp 1) (y := .tmp 11) rfl ?_); refine wpList_store_row rfl 32 (.tmp 1) (.tmp 11) rfl (w.heap.size + 1 + 1) #[.int .i64 0, .int .i64 2, .slice (some ⟨w.heap.size, 0, none⟩) 1 1, .int .i64 0, .int .i64 0, .int .i64 0, .int .i64 3, .int .i64 0, .string ⟨#[107]⟩, .int .i64 0, .slice none 0 0, .slice (some ⟨w.heap.size + 1, 0, none⟩) 1 1] rfl rfl 32 #[.int .i64 0, .int .i64 0, .slice none 0 0, .int .i64 0, .int .i64 0, .int .i64 0, .int .i64 0, .int .i64 0, .string ⟨#[]⟩, .int .i64 0, .slice none 0 0, .slice none 0 0] h3.blk z0 rfl (by first | decide | rfl | simp [Value.oneCell']) ?_; have kx := blk_cell HX.out.blk)
  | (go_at_call 16; refine (HQ.out _ (hC HX.out.s2).2.2 (hC (sp_nil (d := k84) (e := 84) HX.out)).2.2 (hC HX.out.s1).2.2).mono ?_; rintro e V1 ⟨v, rfl, h5⟩; obtain ⟨Ab, cb, rfl, hcb, hCb⟩ := h5.row; have HX1 := mk_ (Sp.frame HX.out (X := [_]) h5); have HCB := mk_ hCb; have HLB := mk_ hcb; clear h5 hcb hCb kx)
  | (go_at_call 11; refine (HR.out _ Ab cb HCB.out HLB.out).mono ?_; rintro e V2 ⟨v1, v7, v8, rfl, h6⟩; obtain ⟨B1, d1, rfl, _, _⟩ := h6.row; obtain ⟨B7, d7, rfl, _, _⟩ := h6.s1.row; obtain ⟨B8, d8, rfl, _, _⟩ := h6.s2.row; have HX2 := mk_ (Sp.frame HX1.out (X := [_, _, _]) h6); clear h6)
  | ((with_reducible refine gate_st (ty := 32) (x := .tmp 4) (y := .tmp 20) rfl ?_); refine wpList_store_row rfl 32 (.tmp 4) (.tmp 20) rfl V2.heap.size #[.int .i64 0, .int .i64 2, .slice B1 1 d1, .int .i64 0, .int .i64 0, .int .i64 0, .int .i64 3, .int .i64 0, .string ⟨#[107]⟩, .int .i64 0, .slice B7 0 d7, .slice B8 1 d8] rfl rfl 32 #[.int .i64 0, .int .i64 0, .slice none 0 0, .int .i64 0, .int .i64 0, .int .i64 0, .int .i64 0, .int .i64 0, .string ⟨#[]⟩, .int .i64 0, .slice none 0 0, .slice none 0 0] (HX2.out.box (.cells #[.int .i64 0, .int .i64 0, .slice none 0 0, .int .i64 0, .int .i64 0, .int .i64 0, .int .i64 0, .int .i64 0, .string ⟨#[]⟩, .int .i64 0, .slice none 0 0, .slice none 0 0] 32 (0, 0))).blk z0 rfl (by first | decide | rfl | simp [Value.oneCell']) ?_; have HX3 := mk_ (sp_storeRow (HX2.out.box (.cells #[.int .i64 0, .int .i64 0, .slice none 0 0, .int .i64 0, .int .i64 0, .int .i64 0, .int .i64 0, .int .i64 0, .string ⟨#[]⟩, .int .i64 0, .slice none 0 0, .slice none 0 0] 32 (0, 0))) #[.int .i64 0, .int .i64 2, .slice B1 1 d1, .int .i64 0, .int .i64 0, .int .i64 0, .int .i64 3, .int .i64 0, .string ⟨#[107]⟩, .int .i64 0, .slice B7 0 d7, .slice B8 1 d8]); have ky := blk_cell HX3.out.blk; have kx := blk_cell HX3.out.s5.blk)
  | (go_at_call 13; refine (raddlekeep_Op.calls 100 0 2 (some ⟨w.heap.size, 0, none⟩) 1 [1] 0 0 0 3 0 ⟨#[107]⟩ 0 none 0 [] (some ⟨w.heap.size + 1, 0, none⟩) 1 [⟨0, 1⟩] 0 2 B1 d1 [1] 0 0 0 3 0 ⟨#[107]⟩ 0 B7 d7 [] B8 d8 [⟨0, 1⟩] true _ (hC HX3.out.tail.tail.tail.tail.tail.s2).2.2 (Nat.le_refl _) (hC (sp_nil (d := k84) (e := 84) HX3.out)).2.2 (Nat.le_refl _) (hC HX3.out.tail.tail.tail.tail.tail.s1).2.2 (Nat.le_refl _) (hC HX3.out.s1).2.2 (hC HX3.out.s1).2.1 (hC HX3.out.s2).2.2 (hC HX3.out.s2).2.1 (hC HX3.out.s3).2.2 (hC HX3.out.s3).2.1 HK.out).mono ?_; rintro e V3 ⟨rfl, h7⟩; have HX4 := mk_ (HX3.out.below h7); have kx := blk_cell ((HX4.out.alloc (.cells #[.int .i64 3] 3 (0, 0))).alloc (.cells #[.slice (some ⟨V3.heap.size, 0, none⟩) 1 1] 51 (0, 0))).s5.blk; clear h7 ky)
  | (go_at_call 19; have hF := sp_lit1 (e := 51) (Sp.as (sp_lit1 (e := 3) (sp_el (d := Kd.int .i64) (p := 3) (cs := [.int .i64 3]) (fun _ _ => rfl) HX4.out) z5) (b := El k51 ⟨[3]⟩ [.slice (some ⟨V3.heap.size, 0, none⟩) 1 1]) (fun ok h => ⟨_, rfl, h⟩)) z5; rw [show (V3.alloc (.cells #[.int .i64 3] 3 (0, 0))).heap.size = V3.heap.size + 1 from Array.size_push _] at hF; refine (op_Check.calls 1100 1 (some ⟨V3.heap.size + 1, 0, none⟩) 1 [⟨[3]⟩] 0 2 (some ⟨w.heap.size, 0, none⟩) 1 [1] 0 0 0 3 0 ⟨#[107]⟩ 0 none 0 [] (some ⟨w.heap.size + 1, 0, none⟩) 1 [⟨0, 1⟩] 0 _ (hC hF).2.2 (Nat.le_refl _) (hC hF.tail.tail.tail.tail.tail.tail.s2).2.2 (Nat.le_refl _) (hC (sp_nil (d := k84) (e := 84) hF)).2.2 (Nat.le_refl _) (hC hF.tail.tail.tail.tail.tail.tail.s1).2.2 (Nat.le_refl _) HCK.out).mono ?_; rintro e V4 ⟨rfl, h8⟩; have HX5 := mk_ (hF.below h8); clear h8 hF kx) | (go_at_call 25; refine (op_Key.calls ⟨#[107]⟩ true _ HY.out).mono ?_; rintro e V5 ⟨rfl, h9⟩; have HX6 := mk_ (HX5.out.below h9.below); clear h9))
 go_ret
 exact ⟨rfl, HX6.out.tail.tail.tail.tail.tail.tail.tail.tail.tail.old⟩
end Go.Proofs.Ytjnjfogfpmeacaa.PAll
end
