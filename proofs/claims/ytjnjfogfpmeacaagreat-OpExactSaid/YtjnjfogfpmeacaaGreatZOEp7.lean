-- Put together by a program of this session (wip/slice2.py) out of the seat's texts.
import Derived.Test.YtjnjfogfpmeacaaGreatZOEp6

set_option maxHeartbeats 8000000
set_option maxRecDepth 100000
open Go.Proofs.YtjnjfogfpmeacaaGreatW Go.Proofs.YtjnjfogfpmeacaaGreat
section
namespace Go.Proofs.YtjnjfogfpmeacaaGreat.PAll
open Go.RowKit PAll Ops Plain PrintWords PrintLast PrintMore Go.Proofs.YtjnjfogfpmeacaaGreat.Sep ZipT PrintWords.Kd PrintMore.Kd
set_option linter.unusedVariables false
set_option linter.unusedSimpArgs false
theorem sp_lit1 {α : Type} {d : Kd α} {e : Nat} {p : α} {cs : List Value} {w : World} {F : List Part} (h : Sp w (El d p cs :: F)) (hs : 0 < d.sz) : Sp (w.alloc (.cells cs.toArray e (0, 0))) (Row d e (.slice (some ⟨w.heap.size, 0, none⟩) 1 1) [p] :: F) := by
 obtain ⟨ok, h1, h2, h3⟩ := h.head1
 have hl : cs.length = d.sz := d.K_len (d.K_of_M h2)
 have hz : cs.length = 1 * d.sz := by rw [Nat.one_mul]; exact hl
 refine h3 _ _ ((Moved.refl w ok).alloc _) ⟨fun k hk => ?_, cs, ⟨hz, .inr ⟨w.heap.size, 1, cs.toArray, rfl, Nat.zero_le _, blk_new w _, Nat.le_refl _, by simp only [maxLen]; omega, by rw [List.size_toArray]; exact hz, by show cs.take (1 * d.sz) = cs; rw [← hz, List.take_length]⟩⟩, ?_⟩
 ·
  have hk : w.heap.size = k := Option.some.inj hk
  subst hk
  exact .inr ⟨Nat.le_refl _, by rw [show (w.alloc (.cells cs.toArray e (0, 0))).heap.size = w.heap.size + 1 from Array.size_push _]; omega⟩
 ·
  have hM : d.M (w.alloc (.cells cs.toArray e (0, 0))) 0 (fun k => (ok k ∨ w.heap.size ≤ k ∧ k < (w.alloc (.cells cs.toArray e (0, 0))).heap.size) ∧ some k ≠ (Value.slice (some ⟨w.heap.size, 0, none⟩) 1 1).ownBlock) p cs :=
   d.M_mono (fun k hk => ⟨.inl hk.1, fun e => by have := hk.2; have he : k = w.heap.size := Option.some.inj e; omega⟩) (Kd.M_step (ok := fun k => ok k ∧ k < w.heap.size) (d.M_mono (fun k hk => ⟨hk, h1 k hk⟩) h2) (fun k hk hlt => (Moved.alloc (Moved.refl w (fun _ => False)) _).block k hlt (fun e => e)))
  have := Reps.snoc (Reps.none _ d.sz) hM hl
  simpa using this
def eU.f : Option Bool := some true
theorem wakes7_eq : eU.f = some true := rfl
theorem eU.calls (r : Bool) (w : World) (h : eU.f = some r) :
  Calls Tryz.prog 18 #[] w fun e w' => e = .returned (.bool r) ∧ Below w.heap.size w w' := by
 obtain rfl : true = r := Option.some.inj h
 clear h
 have h1 := sp_lit1 (e := 3) (sp_el (d := Kd.int .i64) (p := 1) (cs := [.int .i64 1]) (fun _ _ => rfl) (Sp.start w)) z5_
 have h2 := sp_lit1 (e := 24) (sp_el (d := k24) (p := ⟨0, 1⟩) (cs := [.int .i64 0, .int .i64 1]) (fun W ok => k24_mkM W 0 ok ⟨0, 1⟩) h1) z5_
 have h3 := h2.box (.cells #[.int .i64 0, .int .i64 0, .slice none 0 0, .int .i64 0, .int .i64 0, .int .i64 0, .int .i64 0, .int .i64 0, .string ⟨#[]⟩, .int .i64 0, .slice none 0 0, .slice none 0 0] 31 (0, 0))
 have e1 : (w.alloc (.cells #[.int .i64 1] 3 (0, 0))).heap.size = w.heap.size + 1 := Array.size_push _
 have e2 : ((w.alloc (.cells #[.int .i64 1] 3 (0, 0))).alloc (.cells #[.int .i64 0, .int .i64 1] 24 (0, 0))).heap.size = w.heap.size + 1 + 1 := by rw [show ((w.alloc (.cells #[.int .i64 1] 3 (0, 0))).alloc (.cells #[.int .i64 0, .int .i64 1] 24 (0, 0))).heap.size = (w.alloc (.cells #[.int .i64 1] 3 (0, 0))).heap.size + 1 from Array.size_push _, e1]
 replace h3 : Sp (((w.alloc (.cells #[.int .i64 1] 3 (0, 0))).alloc (.cells #[.int .i64 0, .int .i64 1] 24 (0, 0))).alloc (.cells #[.int .i64 0, .int .i64 0, .slice none 0 0, .int .i64 0, .int .i64 0, .int .i64 0, .int .i64 0, .int .i64 0, .string ⟨#[]⟩, .int .i64 0, .slice none 0 0, .slice none 0 0] 31 (0, 0))) [Blk (w.heap.size + 1 + 1) (.cells #[.int .i64 0, .int .i64 0, .slice none 0 0, .int .i64 0, .int .i64 0, .int .i64 0, .int .i64 0, .int .i64 0, .string ⟨#[]⟩, .int .i64 0, .slice none 0 0, .slice none 0 0] 31 (0, 0)), Row k24 24 (.slice (some ⟨w.heap.size + 1, 0, none⟩) 1 1) [⟨0, 1⟩], Row (Kd.int .i64) 3 (.slice (some ⟨w.heap.size, 0, none⟩) 1 1) [1], Old w] := by
  rw [← e2, ← e1]; exact h3
 have h4 := cG h3 #[.int .i64 0, .int .i64 2, .slice (some ⟨w.heap.size, 0, none⟩) 1 1, .int .i64 0, .int .i64 0, .int .i64 0, .int .i64 3, .int .i64 0, .string ⟨#[107]⟩, .int .i64 0, .slice none 0 0, .slice (some ⟨w.heap.size + 1, 0, none⟩) 1 1]
 have HX := mk_ h4
 obtain ⟨b, hb⟩ : ∃ b, opB wakeOp = b := ⟨_, rfl⟩
 have hl := (opB_len _ iX).2
 have hbb := opB_bytes iX
 have hrb := read_back iX
 have hQ : ∀ W : World, Kd.C (Kd.int .i64) W (some ⟨w.heap.size, 0, none⟩) 1 [1] → Kd.C k102 W none 0 [] → Kd.C k24 W (some ⟨w.heap.size + 1, 0, none⟩) 1 [⟨0, 1⟩] → Calls Tryz.prog 8 #[.agg #[.int .i64 0, .int .i64 2, .slice (some ⟨w.heap.size, 0, none⟩) 1 1, .int .i64 0, .int .i64 0, .int .i64 0, .int .i64 3, .int .i64 0, .string ⟨#[107]⟩, .int .i64 0, .slice none 0 0, .slice (some ⟨w.heap.size + 1, 0, none⟩) 1 1]] W fun e w' => ∃ v, e = .returned (.tuple #[v, .int .i64 0]) ∧ Sp w' [Row (Kd.int .u8) 5 v b, Old W] := fun W a1 a7 a8 => by
  have := bytes_sp wakeOp (some ⟨w.heap.size, 0, none⟩) none (some ⟨w.heap.size + 1, 0, none⟩) 1 0 1 a1 (Nat.le_refl _) a7 (Nat.le_refl _) a8 (Nat.le_refl _) (opFit_small iX)
  rw [opBytes_eq, if_pos iX, hb] at this
  exact this
 have hR : ∀ (W : World) (A : Option Addr) (c : Nat), Kd.C (Kd.int .u8) W A b.length b → b.length ≤ c → Calls Tryz.prog 19 #[.slice A b.length c, .int .i64 0] W fun e w' => ∃ v1 v7 v8, e = .returned (.tuple #[.agg #[.int .i64 0, .int .i64 2, v1, .int .i64 0, .int .i64 0, .int .i64 0, .int .i64 3, .int .i64 0, .string ⟨#[107]⟩, .int .i64 0, v7, v8], .int .i64 (b.length : Int), .int .i64 0]) ∧
   Sp w' [Row (Kd.int .i64) 3 v1 [1], Row k102 102 v7 [], Row k24 24 v8 [⟨0, 1⟩], Old W] := fun W A c a1 a2 => by
  have := read_sp a1 a2 (by rw [← hb]; exact hbb) (by rw [← hb]; omega) 0
  rw [← hb] at this ⊢
  rw [hrb] at this
  exact this
 have HQ := mk_ hQ
 have HR := mk_ hR
 have HK := mk_ (show eQ.f 100 0 2 [1] 0 0 0 3 0 (⟨#[107]⟩ : ByteArray) 0 ([] : List S102) [⟨0, 1⟩] 0 2 [1] 0 0 0 3 0 (⟨#[107]⟩ : ByteArray) 0 ([] : List S102) [⟨0, 1⟩] = some true from (keepOp_eq 100 wakeOp wakeOp z5_ z5_ z5_ z5_).trans (congrArg some (decide_eq_true rfl)))
 have HCK := mk_ (show hG.f 1100 1 [⟨[3]⟩] 0 2 [1] 0 0 0 3 0 (⟨#[107]⟩ : ByteArray) 0 ([] : List S102) [⟨0, 1⟩] = some 0 from (check_op_eq 1100 1 [⟨[3]⟩] wakeOp z5_ z5_ (Nat.le_refl _)).trans (congrArg some z5_))
 have HY := mk_ (show gP.f (⟨#[107]⟩ : ByteArray) = some true from by rw [key_eq]; rfl)
 have hC : ∀ {α : Type} {d : Kd α} {e n c : Nat} {A : Option Addr} {xs : List α} {W : World} {F : List Part}, Sp W (Row d e (.slice A n c) xs :: F) → n = xs.length ∧ xs.length ≤ c ∧ Kd.C d W A xs.length xs := fun h => by
  obtain ⟨A', c', he, hc, hC⟩ := h.row
  injection he with e1 e2 e3
  subst e1; subst e3
  exact ⟨e2, hc, hC⟩
 clear h1 h2 h4 hl hbb hrb hb hQ hR e1 e2
 go_enter Tryz.func18, Tryz.ntmps18
 go_wp2_with (first
  | ((with_reducible refine fH (ty := 31) (x := .tmp 1) (y := .tmp 11) rfl ?_); refine wpList_store_row rfl 31 (.tmp 1) (.tmp 11) rfl (w.heap.size + 1 + 1) #[.int .i64 0, .int .i64 2, .slice (some ⟨w.heap.size, 0, none⟩) 1 1, .int .i64 0, .int .i64 0, .int .i64 0, .int .i64 3, .int .i64 0, .string ⟨#[107]⟩, .int .i64 0, .slice none 0 0, .slice (some ⟨w.heap.size + 1, 0, none⟩) 1 1] rfl rfl 31 #[.int .i64 0, .int .i64 0, .slice none 0 0, .int .i64 0, .int .i64 0, .int .i64 0, .int .i64 0, .int .i64 0, .string ⟨#[]⟩, .int .i64 0, .slice none 0 0, .slice none 0 0] h3.blk z2_ rfl (by first | decide | rfl | simp [Value.oneCell']) ?_; have kx := aD HX.out.blk)
  | (go_at_call 8; refine (HQ.out _ (hC HX.out.s2).2.2 (hC (fL (d := k102) (e := 102) HX.out)).2.2 (hC HX.out.s1).2.2).mono ?_; rintro e V1 ⟨v, rfl, h5⟩; obtain ⟨Ab, cb, rfl, hcb, hCb⟩ := h5.row; have HX1 := mk_ (Sp.frame HX.out (X := [_]) h5); have HCB := mk_ hCb; have HLB := mk_ hcb; clear h5 hcb hCb kx)
  | (go_at_call 19; refine (HR.out _ Ab cb HCB.out HLB.out).mono ?_; rintro e V2 ⟨v1, v7, v8, rfl, h6⟩; obtain ⟨B1, d1, rfl, _, _⟩ := h6.row; obtain ⟨B7, d7, rfl, _, _⟩ := h6.s1.row; obtain ⟨B8, d8, rfl, _, _⟩ := h6.s2.row; have HX2 := mk_ (Sp.frame HX1.out (X := [_, _, _]) h6); clear h6)
  | ((with_reducible refine fH (ty := 31) (x := .tmp 4) (y := .tmp 20) rfl ?_); refine wpList_store_row rfl 31 (.tmp 4) (.tmp 20) rfl V2.heap.size #[.int .i64 0, .int .i64 2, .slice B1 1 d1, .int .i64 0, .int .i64 0, .int .i64 0, .int .i64 3, .int .i64 0, .string ⟨#[107]⟩, .int .i64 0, .slice B7 0 d7, .slice B8 1 d8] rfl rfl 31 #[.int .i64 0, .int .i64 0, .slice none 0 0, .int .i64 0, .int .i64 0, .int .i64 0, .int .i64 0, .int .i64 0, .string ⟨#[]⟩, .int .i64 0, .slice none 0 0, .slice none 0 0] (HX2.out.box (.cells #[.int .i64 0, .int .i64 0, .slice none 0 0, .int .i64 0, .int .i64 0, .int .i64 0, .int .i64 0, .int .i64 0, .string ⟨#[]⟩, .int .i64 0, .slice none 0 0, .slice none 0 0] 31 (0, 0))).blk z2_ rfl (by first | decide | rfl | simp [Value.oneCell']) ?_; have HX3 := mk_ (cG (HX2.out.box (.cells #[.int .i64 0, .int .i64 0, .slice none 0 0, .int .i64 0, .int .i64 0, .int .i64 0, .int .i64 0, .int .i64 0, .string ⟨#[]⟩, .int .i64 0, .slice none 0 0, .slice none 0 0] 31 (0, 0))) #[.int .i64 0, .int .i64 2, .slice B1 1 d1, .int .i64 0, .int .i64 0, .int .i64 0, .int .i64 3, .int .i64 0, .string ⟨#[107]⟩, .int .i64 0, .slice B7 0 d7, .slice B8 1 d8]); have ky := aD HX3.out.blk; have kx := aD HX3.out.s5.blk)
  | (go_at_call 15; refine (eQ.calls 100 0 2 (some ⟨w.heap.size, 0, none⟩) 1 [1] 0 0 0 3 0 ⟨#[107]⟩ 0 none 0 [] (some ⟨w.heap.size + 1, 0, none⟩) 1 [⟨0, 1⟩] 0 2 B1 d1 [1] 0 0 0 3 0 ⟨#[107]⟩ 0 B7 d7 [] B8 d8 [⟨0, 1⟩] true _ (hC HX3.out.tail.tail.tail.tail.tail.s2).2.2 (Nat.le_refl _) (hC (fL (d := k102) (e := 102) HX3.out)).2.2 (Nat.le_refl _) (hC HX3.out.tail.tail.tail.tail.tail.s1).2.2 (Nat.le_refl _) (hC HX3.out.s1).2.2 (hC HX3.out.s1).2.1 (hC HX3.out.s2).2.2 (hC HX3.out.s2).2.1 (hC HX3.out.s3).2.2 (hC HX3.out.s3).2.1 HK.out).mono ?_; rintro e V3 ⟨rfl, h7⟩; have HX4 := mk_ (HX3.out.below h7); have kx := aD ((HX4.out.alloc (.cells #[.int .i64 3] 3 (0, 0))).alloc (.cells #[.slice (some ⟨V3.heap.size, 0, none⟩) 1 1] 53 (0, 0))).s5.blk; clear h7 ky)
  | (go_at_call 13; have hF := sp_lit1 (e := 53) (Sp.as (sp_lit1 (e := 3) (sp_el (d := Kd.int .i64) (p := 3) (cs := [.int .i64 3]) (fun _ _ => rfl) HX4.out) z5_) (b := El k53 ⟨[3]⟩ [.slice (some ⟨V3.heap.size, 0, none⟩) 1 1]) (fun ok h => ⟨_, rfl, h⟩)) z5_; rw [show (V3.alloc (.cells #[.int .i64 3] 3 (0, 0))).heap.size = V3.heap.size + 1 from Array.size_push _] at hF; refine (hG.calls 1100 1 (some ⟨V3.heap.size + 1, 0, none⟩) 1 [⟨[3]⟩] 0 2 (some ⟨w.heap.size, 0, none⟩) 1 [1] 0 0 0 3 0 ⟨#[107]⟩ 0 none 0 [] (some ⟨w.heap.size + 1, 0, none⟩) 1 [⟨0, 1⟩] 0 _ (hC hF).2.2 (Nat.le_refl _) (hC hF.tail.tail.tail.tail.tail.tail.s2).2.2 (Nat.le_refl _) (hC (fL (d := k102) (e := 102) hF)).2.2 (Nat.le_refl _) (hC hF.tail.tail.tail.tail.tail.tail.s1).2.2 (Nat.le_refl _) HCK.out).mono ?_; rintro e V4 ⟨rfl, h8⟩; have HX5 := mk_ (hF.below h8); clear h8 hF kx) | (go_at_call 11; refine (gP.calls ⟨#[107]⟩ true _ HY.out).mono ?_; rintro e V5 ⟨rfl, h9⟩; have HX6 := mk_ (HX5.out.below h9.below); clear h9))
 go_ret
 exact ⟨rfl, HX6.out.tail.tail.tail.tail.tail.tail.tail.tail.tail.old⟩
end Go.Proofs.YtjnjfogfpmeacaaGreat.PAll
end
section
namespace Go.Proofs.YtjnjfogfpmeacaaGreat.PAll
open Go.RowKit PAll Ops Plain PrintWords PrintLast PrintMore Go.Proofs.YtjnjfogfpmeacaaGreat.Sep ZipT PrintWords.Kd PrintMore.Kd
set_option linter.unusedVariables false
set_option linter.unusedSimpArgs false
theorem C_lit1 {α : Type} {d : Kd α} {e : Nat} {p : α} {cs : List Value} {W : World} (h : d.K W p cs) : Kd.C d (W.alloc (.cells cs.toArray e (0, 0))) (some ⟨W.heap.size, 0, none⟩) 1 [p] := by
 refine ⟨rfl, by omega, fun _ => ⟨_, rfl, fun j q hq => ?_⟩⟩
 cases j with
 | succ j => simp at hq
 | zero =>
  obtain rfl : p = q := by simpa using hq
  refine ⟨cs, d.K_len h, d.K_below (dP (Below.refl _ _) _) h, fun i u hu => ?_⟩
  have := aD (blk_new W (.cells cs.toArray e (0, 0))) i
  rw [show (⟨W.heap.size, 0, none⟩ : Addr).add (0 * d.sz + i) = ⟨W.heap.size, i, none⟩ by rw [add_plain]; congr 1; omega, this]
  simpa using hu
def eJ.f (a0_0 : Int) (a0_1 : Int) (l0_2 : List Int) (a0_3 : Int) (a0_4 : Int) (a0_5 : Int) (a0_6 : Int) (a0_7 : Int) (a0_8 : ByteArray) (a0_9 : Int) (l0_10 : List V) (l0_11 : List Dt) : Option Bool := cE.f 500 [(⟨⟨a0_0, a0_1⟩, l0_2, ⟨a0_3, a0_4, a0_5⟩, a0_6, a0_7, a0_8, a0_9, l0_10, l0_11⟩ : Ox)]
theorem eJ.calls (a0_0 : Int) (a0_1 : Int) (A0_2 : Option Addr) (c0_2 : Nat) (l0_2 : List Int) (a0_3 : Int) (a0_4 : Int) (a0_5 : Int) (a0_6 : Int) (a0_7 : Int) (a0_8 : ByteArray) (a0_9 : Int) (A0_10 : Option Addr) (c0_10 : Nat) (l0_10 : List V) (A0_11 : Option Addr) (c0_11 : Nat) (l0_11 : List Dt) (r : Bool) (W : World) (hr0_2 : Kd.C (Kd.int .i64) W A0_2 l0_2.length l0_2) (hc0_2 : l0_2.length ≤ c0_2) (hr0_10 : Kd.C k102 W A0_10 l0_10.length l0_10) (hc0_10 : l0_10.length ≤ c0_10) (hr0_11 : Kd.C k24 W A0_11 l0_11.length l0_11) (hc0_11 : l0_11.length ≤ c0_11) (h : eJ.f a0_0 a0_1 l0_2 a0_3 a0_4 a0_5 a0_6 a0_7 a0_8 a0_9 l0_10 l0_11 = some r) :
  Calls Tryz.prog 5 #[.slice (some ⟨W.heap.size, 0, none⟩) 1 1] (W.alloc (.cells #[.int .i64 a0_0, .int .i64 a0_1, .slice A0_2 l0_2.length c0_2, .int .i64 a0_3, .int .i64 a0_4, .int .i64 a0_5, .int .i64 a0_6, .int .i64 a0_7, .string a0_8, .int .i64 a0_9, .slice A0_10 l0_10.length c0_10, .slice A0_11 l0_11.length c0_11] 31 (0, 0))) fun e w' => e = .returned (.bool r) ∧ Below W.heap.size W w' :=
 Calls.mono (h := cE.calls 500 (some ⟨W.heap.size, 0, none⟩) 1 [(⟨⟨a0_0, a0_1⟩, l0_2, ⟨a0_3, a0_4, a0_5⟩, a0_6, a0_7, a0_8, a0_9, l0_10, l0_11⟩ : Ox)] r _ (C_lit1 (cs := [.int .i64 a0_0, .int .i64 a0_1, .slice A0_2 l0_2.length c0_2, .int .i64 a0_3, .int .i64 a0_4, .int .i64 a0_5, .int .i64 a0_6, .int .i64 a0_7, .string a0_8, .int .i64 a0_9, .slice A0_10 l0_10.length c0_10, .slice A0_11 l0_11.length c0_11]) (k31_mk W (⟨⟨a0_0, a0_1⟩, l0_2, ⟨a0_3, a0_4, a0_5⟩, a0_6, a0_7, a0_8, a0_9, l0_10, l0_11⟩ : Ox) hc0_2 hr0_2 hc0_10 hr0_10 hc0_11 hr0_11)) (Nat.le_refl _) h) (hr := fun e w' h => ⟨h.1, aC (dP (Below.refl _ _) _) h.2.below⟩)
end Go.Proofs.YtjnjfogfpmeacaaGreat.PAll
end
section
namespace Go.Proofs.YtjnjfogfpmeacaaGreat.PAll
open Go.RowKit PrintWords PrintLast PrintMore ZipT PrintWords.Kd PrintMore.Kd
attribute [local go_sem] eP eN fD fA dS dT eO eK   -- for this text's walks alone
set_option linter.unusedVariables false
set_option linter.unusedSimpArgs false
mutual
def aJ.j0 : Nat → Int → List (S53) → ByteArray → Bool → Int → Int → List Int → Int → Int → Int → Int → Int → ByteArray → Int → List (S102) → List (S24) → Option (Bool)
 | 0, _, _, _, _, _, _, _, _, _, _, _, _, _, _, _, _ => none
 | k + 1, x0, x1, x3, x27, x548000, x548001, x548002, x548003, x548004, x548005, x548006, x548007, x548008, x548009, x548010, x548011 => if x27 = true then (some true) else ((cQ.f x548000 x548001 x548002 x548003 x548004 x548005 x548006 x548007 x548008 x548009 x548010 x548011).bind fun bt550 => ((bY.f k x1).bind fun t568 => ((iB.f bt550.1 bt550.2.1 bt550.2.2.1 bt550.2.2.2.1 bt550.2.2.2.2.1 bt550.2.2.2.2.2.1 bt550.2.2.2.2.2.2.1 bt550.2.2.2.2.2.2.2.1 bt550.2.2.2.2.2.2.2.2.1 bt550.2.2.2.2.2.2.2.2.2.1 bt550.2.2.2.2.2.2.2.2.2.2.1 bt550.2.2.2.2.2.2.2.2.2.2.2).bind fun bt572 => ((dB.f k t568).bind fun t576 => ((aV.f k x1).bind fun t577 => (if t576 = t577 then ((gP.f x3).bind fun t578 => ((eW.f x3).bind fun t579 => (if (t578 != t579) = true then (aJ.j1 k bt572.1 bt572.2 true x548000 x548001 x548002 x548003 x548004 x548005 x548006 x548007 x548008 x548009 x548010 x548011) else ((hG.f k x0 t568 bt550.1 bt550.2.1 bt550.2.2.1 bt550.2.2.2.1 bt550.2.2.2.2.1 bt550.2.2.2.2.2.1 bt550.2.2.2.2.2.2.1 bt550.2.2.2.2.2.2.2.1 bt550.2.2.2.2.2.2.2.2.1 bt550.2.2.2.2.2.2.2.2.2.1 bt550.2.2.2.2.2.2.2.2.2.2.1 bt550.2.2.2.2.2.2.2.2.2.2.2).bind fun t580 => ((fE.f k x0 x1 x548000 x548001 x548002 x548003 x548004 x548005 x548006 x548007 x548008 x548009 x548010 x548011).bind fun t581 => (if t580 = t581 then ((eQ.f k bt550.1 bt550.2.1 bt550.2.2.1 bt550.2.2.2.1 bt550.2.2.2.2.1 bt550.2.2.2.2.2.1 bt550.2.2.2.2.2.2.1 bt550.2.2.2.2.2.2.2.1 bt550.2.2.2.2.2.2.2.2.1 bt550.2.2.2.2.2.2.2.2.2.1 bt550.2.2.2.2.2.2.2.2.2.2.1 bt550.2.2.2.2.2.2.2.2.2.2.2 x548000 x548001 x548002 x548003 x548004 x548005 x548006 x548007 x548008 x548009 x548010 x548011).bind fun t582 => (if t582 = true then ((cT.f k t568 x1).bind fun t583 => (aJ.j1 k bt572.1 bt572.2 (!t583) x548000 x548001 x548002 x548003 x548004 x548005 x548006 x548007 x548008 x548009 x548010 x548011)) else (aJ.j1 k bt572.1 bt572.2 true x548000 x548001 x548002 x548003 x548004 x548005 x548006 x548007 x548008 x548009 x548010 x548011))) else (aJ.j1 k bt572.1 bt572.2 true x548000 x548001 x548002 x548003 x548004 x548005 x548006 x548007 x548008 x548009 x548010 x548011))))))) else (aJ.j1 k bt572.1 bt572.2 true x548000 x548001 x548002 x548003 x548004 x548005 x548006 x548007 x548008 x548009 x548010 x548011)))))))
def aJ.j1 : Nat → List Int → Int → Bool → Int → Int → List Int → Int → Int → Int → Int → Int → ByteArray → Int → List (S102) → List (S24) → Option (Bool)
 | 0, _, _, _, _, _, _, _, _, _, _, _, _, _, _, _ => none
 | k + 1, x11, x12, x71, x548000, x548001, x548002, x548003, x548004, x548005, x548006, x548007, x548008, x548009, x548010, x548011 => if x71 = true then (some false) else ((dV.f x548000 x548001 x548002 x548003 x548004 x548005 x548006 x548007 x548008 x548009 x548010 x548011).bind fun t584 => (if t584 = true then ((iQ.f x11 0).bind fun bt586 => (if x12 = 0 then ((aM.f k x548000 x548001 x548002 x548003 x548004 x548005 x548006 x548007 x548008 x548009 x548010 x548011).bind fun t607 => ((cS.f k x11 t607).bind fun t610 => (if t610 = true then (if bt586.2.2.2.2.2.2.2.2.2.2.2.2.2 = 0 then (if bt586.2.2.2.2.2.2.2.2.2.2.2.2.1 = (x11.length : Int) then ((eQ.f k bt586.1 bt586.2.1 bt586.2.2.1 bt586.2.2.2.1 bt586.2.2.2.2.1 bt586.2.2.2.2.2.1 bt586.2.2.2.2.2.2.1 bt586.2.2.2.2.2.2.2.1 bt586.2.2.2.2.2.2.2.2.1 bt586.2.2.2.2.2.2.2.2.2.1 bt586.2.2.2.2.2.2.2.2.2.2.1 bt586.2.2.2.2.2.2.2.2.2.2.2.1 x548000 x548001 x548002 x548003 x548004 x548005 x548006 x548007 x548008 x548009 x548010 x548011).bind fun t611 => (if t611 = true then ((eU.f).bind fun t612 => (some t612)) else (some false))) else (some false)) else (some false)) else (some false)))) else (some false))) else (if x12 = 1 then (if (x11.length : Int) = 0 then ((eU.f).bind fun t585 => (some t585)) else (some false)) else (some false))))
end
def aJ.f (k : Nat) (a0 : Int) (l1 : List (S53)) (a2_0 : Int) (a2_1 : Int) (l2_2 : List Int) (a2_3 : Int) (a2_4 : Int) (a2_5 : Int) (a2_6 : Int) (a2_7 : Int) (a2_8 : ByteArray) (a2_9 : Int) (l2_10 : List (S102)) (l2_11 : List (S24)) (a3 : ByteArray) : Option (Bool) := (bO.f k l1).bind fun t548 => (if t548 = true then (aJ.j0 k a0 l1 a3 true a2_0 a2_1 l2_2 a2_3 a2_4 a2_5 a2_6 a2_7 a2_8 a2_9 l2_10 l2_11) else ((eJ.f a2_0 a2_1 l2_2 a2_3 a2_4 a2_5 a2_6 a2_7 a2_8 a2_9 l2_10 l2_11).bind fun t549 => (if t549 = true then (aJ.j0 k a0 l1 a3 true a2_0 a2_1 l2_2 a2_3 a2_4 a2_5 a2_6 a2_7 a2_8 a2_9 l2_10 l2_11) else (aJ.j0 k a0 l1 a3 (decide ((a3.size : Int) > 100)) a2_0 a2_1 l2_2 a2_3 a2_4 a2_5 a2_6 a2_7 a2_8 a2_9 l2_10 l2_11))))
def aJ.T5 : Bool × List (List Nat × List Nat) := (true, [([], []), ([0], [0]), ([], []), ([2, 1], [2]), ([1, 3], [1, 3]), ([4, 3], [4]), ([5], [5]), ([6, 5, 5], [5, 6]), ([5], [5]), ([8, 7, 5], [5, 8]), ([7, 9, 5], [5, 7, 9]), ([5, 10], [5, 10]), ([11, 9], [11]), ([12], [12]), ([12], [12]), ([12], [12]), ([13, 14, 15, 12, 12], [12, 13, 14, 15]), ([12], [12]), ([12], [12]), ([12], [12]), ([17, 18, 19, 16, 12], [12, 17, 18, 19]), ([16, 20, 12], [12, 16, 20]), ([12, 21], [12, 21]), ([22, 20], [22]), ([23], [23]), ([23], [23]), ([24, 25, 23, 23], [23, 24, 25]), ([26, 23], [23, 26]), ([23, 27], [23, 27]), ([28, 26], [28]), ([29], [29]), ([29], [29]), ([30, 31, 29, 29], [29, 30, 31]), ([32, 29], [29, 32]), ([29, 33], [29, 33])])
def aJ.B5 : List Nat := [0, 1, 0, 7, 15, 31, 63, 127, 63, 511, 1023, 2047, 4095, 8191, 8191, 8191, 65535, 8191, 8191, 8191, 1048575, 2097151, 4194303, 8388607, 16777215, 16777215, 67108863, 134217727, 268435455, 536870911, 1073741823, 1073741823, 4294967295, 8589934591, 17179869183]
theorem aJ.tab5 : rtab .any (opsOf Tryz.f3 5) = aJ.T5 := by kernel_rfl
theorem aJ.bits5 : waitsOk aJ.T5.2 aJ.B5 = true := by kernel_rfl
theorem aJ.calls (k : Nat) (a0 : Int) (A1 : Option Addr) (c1 : Nat) (l1 : List (S53)) (a2_0 : Int) (a2_1 : Int) (A2_2 : Option Addr) (c2_2 : Nat) (l2_2 : List Int) (a2_3 : Int) (a2_4 : Int) (a2_5 : Int) (a2_6 : Int) (a2_7 : Int) (a2_8 : ByteArray) (a2_9 : Int) (A2_10 : Option Addr) (c2_10 : Nat) (l2_10 : List (S102)) (A2_11 : Option Addr) (c2_11 : Nat) (l2_11 : List (S24)) (a3 : ByteArray) (r : Bool) (w : World) (hr1 : Kd.C k53 w A1 l1.length l1) (hc1 : l1.length ≤ c1) (hr2_2 : Kd.C (Kd.int .i64) w A2_2 l2_2.length l2_2) (hc2_2 : l2_2.length ≤ c2_2) (hr2_10 : Kd.C k102 w A2_10 l2_10.length l2_10) (hc2_10 : l2_10.length ≤ c2_10) (hr2_11 : Kd.C k24 w A2_11 l2_11.length l2_11) (hc2_11 : l2_11.length ≤ c2_11) (hrt : r = true) (h : aJ.f k a0 l1 a2_0 a2_1 l2_2 a2_3 a2_4 a2_5 a2_6 a2_7 a2_8 a2_9 l2_10 l2_11 a3 = some r) :
  Calls Tryz.prog 3 #[.int .i64 a0, .slice A1 l1.length c1, .agg #[.int .i64 a2_0, .int .i64 a2_1, .slice A2_2 l2_2.length c2_2, .int .i64 a2_3, .int .i64 a2_4, .int .i64 a2_5, .int .i64 a2_6, .int .i64 a2_7, .string a2_8, .int .i64 a2_9, .slice A2_10 l2_10.length c2_10, .slice A2_11 l2_11.length c2_11], .string a3] w fun e w' => e = .returned (.bool r) ∧ Below w.heap.size w w' := by
 have hu31 := Tryz.underlying31
 have HR1 := mk_ hr1
 have HC1 := mk_ hc1
 clear hr1 hc1
 have HR2_2 := mk_ hr2_2
 have HC2_2 := mk_ hc2_2
 clear hr2_2 hc2_2
 have HR2_10 := mk_ hr2_10
 have HC2_10 := mk_ hc2_10
 clear hr2_10 hc2_10
 have HR2_11 := mk_ hr2_11
 have HC2_11 := mk_ hc2_11
 clear hr2_11 hc2_11
 have HB := mk_ (Below.refl w.heap.size w)
 have H : ((bO.f k l1).bind fun t548 => (if t548 = true then (aJ.j0 k a0 l1 a3 true a2_0 a2_1 l2_2 a2_3 a2_4 a2_5 a2_6 a2_7 a2_8 a2_9 l2_10 l2_11) else ((eJ.f a2_0 a2_1 l2_2 a2_3 a2_4 a2_5 a2_6 a2_7 a2_8 a2_9 l2_10 l2_11).bind fun t549 => (if t549 = true then (aJ.j0 k a0 l1 a3 true a2_0 a2_1 l2_2 a2_3 a2_4 a2_5 a2_6 a2_7 a2_8 a2_9 l2_10 l2_11) else (aJ.j0 k a0 l1 a3 (decide ((a3.size : Int) > 100)) a2_0 a2_1 l2_2 a2_3 a2_4 a2_5 a2_6 a2_7 a2_8 a2_9 l2_10 l2_11))))) = some r := h
 clear h
 have HC5 := mk_ H
 clear H
 go_enter Tryz.func3, Tryz.ntmps3
 go_upto_region 1 with (first | ((with_reducible refine aQ (N := 6) rfl ?_); refine aN ?hg (N := 6) ?hd (cs := #[.int .i64 a2_0, .int .i64 a2_1, .slice A2_2 l2_2.length c2_2, .int .i64 a2_3, .int .i64 a2_4, .int .i64 a2_5, .int .i64 a2_6, .int .i64 a2_7, .string a2_8, .int .i64 a2_9, .slice A2_10 l2_10.length c2_10, .slice A2_11 l2_11.length c2_11]) (t := 31) ?hr ?_; (case hd => rfl); (case hg => rfl); (case hr => first | (go_simp; done) | (go_simp; rfl)); intro gb547 hg w6 hbox hb; have n0_ := mk_ (aC (Short.hB HB) hb); have n1_ := mk_ (hbox); have n2_ := mk_ ((by rw [hg]; exact (aA (Short.hB HB)) : w.heap.size ≤ gb547)); have n3_ := mk_ ((by rw [hg]; exact (aA (Short.hB HB)) : w.heap.size ≤ gb547)); clear HB; revert n0_ n1_ n2_ n3_; intro HB BK547 GW547 GE547; clear hb hbox hg))
 (try simp only [Act.put, List.setIfInBounds_toArray, List.set_cons_zero, List.set_cons_succ])
 go_cut [27] (fun v27 wc => ∃ (kq : Nat) (x27_4 : Bool), v27 = .bool x27_4 ∧ Aside0 (aJ.j0 kq a0 l1 a3 x27_4 a2_0 a2_1 l2_2 a2_3 a2_4 a2_5 a2_6 a2_7 a2_8 a2_9 l2_10 l2_11 = some r) ∧ Aside0 (kq ≤ k) ∧ Aside0 (wc.heap[gb547]? = some (.cells #[.int .i64 a2_0, .int .i64 a2_1, (.slice A2_2 l2_2.length c2_2), .int .i64 a2_3, .int .i64 a2_4, .int .i64 a2_5, .int .i64 a2_6, .int .i64 a2_7, .string a2_8, .int .i64 a2_9, (.slice A2_10 l2_10.length c2_10), (.slice A2_11 l2_11.length c2_11)] 31 (0, 0))) ∧ Aside0 (Below w.heap.size w wc))
 case first =>
  have H := HC5.out
  clear HC5
  obtain ⟨t548, A7, H⟩ := Option.bind_eq_some_iff.mp H
  replace A7 := mk_ A7
  by_cases c8 : t548 = true
  ·
   subst c8
   rw [if_pos rfl] at H
   have H' := mk_ H
   clear H
   go_wp2_with (first | ((with_reducible refine aE (f := 4) rfl ?_); refine Short.gL (some 17) Tryz.func4 #[.slice A1 l1.length c1] (h := ?_); (with_reducible refine (bO.calls k _ _ l1 true _ ?side1 ?side2 A7.out).mono ?_); (case side1 => exact cX_ (aU HR1.out HB.out)); (case side2 => exact HC1.out); rintro e w' ⟨rfl, ⟨nd, rfl⟩⟩; refine ⟨_, rfl, ?_⟩))
   go_meet
   case rel => exact ⟨_, (true), z4_, H', ⟨by first | omega | exact Nat.le_refl _⟩, ⟨by (with_reducible repeat (first | refine aH ?_ _ | refine aI ?_ | refine aG ?_ _)); exact BK547.out⟩, ⟨Short.hB HB⟩⟩
  replace c8 := Bool.eq_false_iff.mpr c8
  subst c8
  rw [if_neg (show ¬ (false = true) by decide)] at H
  obtain ⟨t549, A9, H⟩ := Option.bind_eq_some_iff.mp H
  replace A9 := mk_ A9
  by_cases c10 : t549 = true
  ·
   subst c10
   rw [if_pos rfl] at H
   have H' := mk_ H
   clear H
   go_wp2_with (first | ((with_reducible refine aE (f := 4) rfl ?_); refine Short.gL (some 17) Tryz.func4 #[.slice A1 l1.length c1] (h := ?_); (with_reducible refine (bO.calls k _ _ l1 false _ ?side1 ?side2 A7.out).mono ?_); (case side1 => exact cX_ (aU HR1.out HB.out)); (case side2 => exact HC1.out); rintro e w' ⟨rfl, ⟨nd, rfl⟩⟩; refine ⟨_, rfl, ?_⟩; have hcz11_0 : w6.cell? ⟨gb547, 0, none⟩ = some (.int .i64 a2_0) := kc_ BK547 0; have hcz11_1 : w6.cell? ⟨gb547, 1, none⟩ = some (.int .i64 a2_1) := kc_ BK547 1; have hcz11_2 : w6.cell? ⟨gb547, 2, none⟩ = some (.slice A2_2 l2_2.length c2_2) := kc_ BK547 2; have hcz11_3 : w6.cell? ⟨gb547, 3, none⟩ = some (.int .i64 a2_3) := kc_ BK547 3; have hcz11_4 : w6.cell? ⟨gb547, 4, none⟩ = some (.int .i64 a2_4) := kc_ BK547 4; have hcz11_5 : w6.cell? ⟨gb547, 5, none⟩ = some (.int .i64 a2_5) := kc_ BK547 5; have hcz11_6 : w6.cell? ⟨gb547, 6, none⟩ = some (.int .i64 a2_6) := kc_ BK547 6; have hcz11_7 : w6.cell? ⟨gb547, 7, none⟩ = some (.int .i64 a2_7) := kc_ BK547 7; have hcz11_8 : w6.cell? ⟨gb547, 8, none⟩ = some (.string a2_8) := kc_ BK547 8; have hcz11_9 : w6.cell? ⟨gb547, 9, none⟩ = some (.int .i64 a2_9) := kc_ BK547 9; have hcz11_10 : w6.cell? ⟨gb547, 10, none⟩ = some (.slice A2_10 l2_10.length c2_10) := kc_ BK547 10; have hcz11_11 : w6.cell? ⟨gb547, 11, none⟩ = some (.slice A2_11 l2_11.length c2_11) := kc_ BK547 11; have hfz11_0 := aX BK547.out) | (go_at_call 5; (refine (eJ.calls a2_0 a2_1 _ _ l2_2 a2_3 a2_4 a2_5 a2_6 a2_7 a2_8 a2_9 _ _ l2_10 _ _ l2_11 true _ ?side1 ?side2 ?side3 ?side4 ?side5 ?side6 A9.out).mono ?_); (case side1 => exact cX_ (aU HR2_2.out (Short.hB HB))); (case side2 => exact HC2_2.out); (case side3 => exact cX_ (aU HR2_10.out (Short.hB HB))); (case side4 => exact HC2_10.out); (case side5 => exact cX_ (aU HR2_11.out (Short.hB HB))); (case side6 => exact HC2_11.out); rintro e w12 ⟨rfl, hb⟩; have n0_ := mk_ (bB_ BK547 hb); have n1_ := mk_ (aC (Short.hB HB) hb); clear BK547 HB; revert n0_ n1_; intro BK547 HB; (try clear hb); (try clear hb2); (try clear hk); (try clear hi)))
   go_meet
   case rel => exact ⟨_, (true), z4_, H', ⟨by first | omega | exact Nat.le_refl _⟩, ⟨by (with_reducible repeat (first | refine aH ?_ _ | refine aI ?_ | refine aG ?_ _)); exact BK547.out⟩, ⟨Short.hB HB⟩⟩
  replace c10 := Bool.eq_false_iff.mpr c10
  subst c10
  rw [if_neg (show ¬ (false = true) by decide)] at H
  have H' := mk_ H
  clear H
  go_wp2_with (first | ((with_reducible refine aE (f := 4) rfl ?_); refine Short.gL (some 17) Tryz.func4 #[.slice A1 l1.length c1] (h := ?_); (with_reducible refine (bO.calls k _ _ l1 false _ ?side1 ?side2 A7.out).mono ?_); (case side1 => exact cX_ (aU HR1.out HB.out)); (case side2 => exact HC1.out); rintro e w' ⟨rfl, ⟨nd, rfl⟩⟩; refine ⟨_, rfl, ?_⟩; have hcz13_0 : w6.cell? ⟨gb547, 0, none⟩ = some (.int .i64 a2_0) := kc_ BK547 0; have hcz13_1 : w6.cell? ⟨gb547, 1, none⟩ = some (.int .i64 a2_1) := kc_ BK547 1; have hcz13_2 : w6.cell? ⟨gb547, 2, none⟩ = some (.slice A2_2 l2_2.length c2_2) := kc_ BK547 2; have hcz13_3 : w6.cell? ⟨gb547, 3, none⟩ = some (.int .i64 a2_3) := kc_ BK547 3; have hcz13_4 : w6.cell? ⟨gb547, 4, none⟩ = some (.int .i64 a2_4) := kc_ BK547 4; have hcz13_5 : w6.cell? ⟨gb547, 5, none⟩ = some (.int .i64 a2_5) := kc_ BK547 5; have hcz13_6 : w6.cell? ⟨gb547, 6, none⟩ = some (.int .i64 a2_6) := kc_ BK547 6; have hcz13_7 : w6.cell? ⟨gb547, 7, none⟩ = some (.int .i64 a2_7) := kc_ BK547 7; have hcz13_8 : w6.cell? ⟨gb547, 8, none⟩ = some (.string a2_8) := kc_ BK547 8; have hcz13_9 : w6.cell? ⟨gb547, 9, none⟩ = some (.int .i64 a2_9) := kc_ BK547 9; have hcz13_10 : w6.cell? ⟨gb547, 10, none⟩ = some (.slice A2_10 l2_10.length c2_10) := kc_ BK547 10; have hcz13_11 : w6.cell? ⟨gb547, 11, none⟩ = some (.slice A2_11 l2_11.length c2_11) := kc_ BK547 11; have hfz13_0 := aX BK547.out) | (go_at_call 5; (refine (eJ.calls a2_0 a2_1 _ _ l2_2 a2_3 a2_4 a2_5 a2_6 a2_7 a2_8 a2_9 _ _ l2_10 _ _ l2_11 false _ ?side1 ?side2 ?side3 ?side4 ?side5 ?side6 A9.out).mono ?_); (case side1 => exact cX_ (aU HR2_2.out (Short.hB HB))); (case side2 => exact HC2_2.out); (case side3 => exact cX_ (aU HR2_10.out (Short.hB HB))); (case side4 => exact HC2_10.out); (case side5 => exact cX_ (aU HR2_11.out (Short.hB HB))); (case side6 => exact HC2_11.out); rintro e w14 ⟨rfl, hb⟩; have n0_ := mk_ (bB_ BK547 hb); have n1_ := mk_ (aC (Short.hB HB) hb); clear BK547 HB; revert n0_ n1_; intro BK547 HB; (try clear hb); (try clear hb2); (try clear hk); (try clear hi)))
  go_meet
  case rel => exact ⟨_, (decide ((a3.size : Int) > 100)), z4_, H', ⟨by first | omega | exact Nat.le_refl _⟩, ⟨by (with_reducible repeat (first | refine aH ?_ _ | refine aI ?_ | refine aG ?_ _)); exact BK547.out⟩, ⟨Short.hB HB⟩⟩
 case rest =>
  clear HC5
  try clear c1
  try clear c2
  try clear p2
  try clear c3
  try clear c4
  try clear c8
  try clear c10
  try clear hcz11_0
  try clear hcz11_1
  try clear hcz11_10
  try clear hcz11_11
  try clear hcz11_2
  try clear hcz11_3
  try clear hcz11_4
  try clear hcz11_5
  try clear hcz11_6
  try clear hcz11_7
  try clear hcz11_8
  try clear hcz11_9
  try clear hcz13_0
  try clear hcz13_1
  try clear hcz13_10
  try clear hcz13_11
  try clear hcz13_2
  try clear hcz13_3
  try clear hcz13_4
  try clear hcz13_5
  try clear hcz13_6
  try clear hcz13_7
  try clear hcz13_8
  try clear hcz13_9
  try clear hfz11_0
  try clear hfz13_0
  obtain ⟨kq, x27_4, rfl, HA, HJ4, BK547, HB⟩ := hcut
  cases kq with
  | zero => exact absurd HA.out (by simp [aJ.j0])
  | succ kj4 =>
   have H := HA.out
   clear HA
   simp only [aJ.j0] at H
   by_cases c15 : x27_4 = true
   ·
    subst c15
    rw [if_pos rfl] at H
    obtain rfl := Option.some.inj H
    go_wp2
    go_ret
    exact ⟨q0, Short.hB HB⟩
   replace c15 := Bool.eq_false_iff.mpr c15
   subst c15
   rw [if_neg (show ¬ (false = true) by decide)] at H
   obtain ⟨⟨t550, t551, t552, t555, t556, t557, t558, t559, t560, t561, t562, t565⟩, A16, H⟩ := Option.bind_eq_some_iff.mp H
   try dsimp only at H
   replace A16 := mk_ A16
   obtain ⟨t568, A17, H⟩ := Option.bind_eq_some_iff.mp H
   replace A17 := mk_ A17
   obtain ⟨⟨t572, t575⟩, A18, H⟩ := Option.bind_eq_some_iff.mp H
   try dsimp only at H
   replace A18 := mk_ A18
   have HC19 := mk_ H
   clear H
   have hcz_0 := aD BK547.out
   have hfz_0 := aX BK547.out
   go_upto_region 5 with (first | ((with_reducible refine aE (f := 6) rfl ?_); refine Short.gL (some 29) Tryz.func6 #[.agg #[.int .i64 a2_0, .int .i64 a2_1, .slice A2_2 l2_2.length c2_2, .int .i64 a2_3, .int .i64 a2_4, .int .i64 a2_5, .int .i64 a2_6, .int .i64 a2_7, .string a2_8, .int .i64 a2_9, .slice A2_10 l2_10.length c2_10, .slice A2_11 l2_11.length c2_11]] (h := ?_); (with_reducible refine (cQ.calls a2_0 a2_1 _ _ l2_2 a2_3 a2_4 a2_5 a2_6 a2_7 a2_8 a2_9 _ _ l2_10 _ _ l2_11 t550 t551 t552 t555 t556 t557 t558 t559 t560 t561 t562 t565 _ ?side1 ?side2 ?side3 ?side4 ?side5 ?side6 A16.out).mono ?_); (case side1 => exact cX_ (aU HR2_2.out HB.out)); (case side2 => exact HC2_2.out); (case side3 => exact cX_ (aU HR2_10.out HB.out)); (case side4 => exact HC2_10.out); (case side5 => exact cX_ (aU HR2_11.out HB.out)); (case side6 => exact HC2_11.out); rintro e w21 ⟨v553, v563, v566, rfl, ho0, ho1, ho2, hb⟩; refine ⟨_, rfl, ?_⟩; have n0_ := mk_ (bW ho0 (aA (Short.hB HB))); have n1_ := mk_ (bW ho1 (aA (Short.hB HB))); have n2_ := mk_ (bW ho2 (aA (Short.hB HB))); have n3_ := mk_ (bB_ BK547 hb); have n4_ := mk_ (aC (Short.hB HB) hb); clear BK547 HB; revert n0_ n1_ n2_ n3_ n4_; intro HO554 HO564 HO567 BK547 HB; (try clear hb ho0); (try clear ho1); (try clear ho2)) | ((with_reducible refine aE (f := 7) rfl ?_); refine Short.gL (some 31) Tryz.func7 #[.slice A1 l1.length c1] (h := ?_); (with_reducible refine (bY.calls kj4 _ _ l1 t568 _ ?side1 ?side2 A17.out).mono ?_); (case side1 => exact cX_ (aU HR1.out HB.out)); (case side2 => exact HC1.out); rintro e w22 ⟨v569, rfl, ho0, hb⟩; refine ⟨_, rfl, ?_⟩; have n0_ := mk_ (bX (ZKR HO554) hb); have n1_ := mk_ (bX (ZKR HO564) hb); have n2_ := mk_ (bX (ZKR HO567) hb); have n3_ := mk_ (S_lower (S_new' ho0 (R_lt (ZKR HO554))) (aA (Short.hB HB))); have n4_ := mk_ (bB_ BK547 hb); have n5_ := mk_ (aC (Short.hB HB) hb); clear HO554 HO564 HO567 BK547 HB; revert n0_ n1_ n2_ n3_ n4_ n5_; intro HO554 HO564 HO567 HO570 BK547 HB; (try clear hb ho0)) | ((with_reducible refine aQ (N := 9) rfl ?_); refine aN ?hg (N := 9) ?hd (cs := #[.int .i64 0, .int .i64 0, .slice none 0 0, .int .i64 0, .int .i64 0, .int .i64 0, .int .i64 0, .int .i64 0, .string (⟨#[]⟩ : ByteArray), .int .i64 0, .slice none 0 0, .slice none 0 0]) (t := 31) ?hr ?_; (case hd => rfl); (case hg => rfl); (case hr => first | (go_simp; done) | (go_simp; rfl)); intro gb571 hg w23 hbox hb; have n0_ := mk_ (bX (ZKR HO554) hb); have n1_ := mk_ (bX (ZKR HO564) hb); have n2_ := mk_ (bX (ZKR HO567) hb); have n3_ := mk_ (hX (by (with_reducible repeat (first | apply gV | apply gW | apply iF)); exact HO570.out) hb); have n4_ := mk_ (bB_ BK547 hb); have n5_ := mk_ (aC (Short.hB HB) hb); have n6_ := mk_ (hbox); have n7_ := mk_ ((by rw [hg]; exact (aA (Short.hB HB)) : w.heap.size ≤ gb571)); have n8_ := mk_ ((by rw [hg]; exact (aA (Short.hB HB)) : w.heap.size ≤ gb571)); have n9_ := mk_ ((by rw [hg]; exact Nat.ne_of_lt (eA (Short.bK BK547)) : gb547 ≠ gb571)); have n10_ := mk_ ((by rw [hg]; exact Nat.ne_of_gt (eA (Short.bK BK547)) : gb571 ≠ gb547)); clear HO554 HO564 HO567 HO570 BK547 HB; revert n0_ n1_ n2_ n3_ n4_ n5_ n6_ n7_ n8_ n9_ n10_; intro HO554 HO564 HO567 HO570 BK547 HB BK571 GW571 GE571 NB547_571 NB571_547; clear hb hbox hg; have hnb24 := NB571_547.out; have hnc24 := NB547_571.out; have hcz25_0 : w23.cell? ⟨gb571, 0, none⟩ = some (.int .i64 0) := kc_ BK571 0; have hcz25_1 : w23.cell? ⟨gb571, 1, none⟩ = some (.int .i64 0) := kc_ BK571 1; have hcz25_2 : w23.cell? ⟨gb571, 2, none⟩ = some (.slice none 0 0) := kc_ BK571 2; have hcz25_3 : w23.cell? ⟨gb571, 3, none⟩ = some (.int .i64 0) := kc_ BK571 3; have hcz25_4 : w23.cell? ⟨gb571, 4, none⟩ = some (.int .i64 0) := kc_ BK571 4; have hcz25_5 : w23.cell? ⟨gb571, 5, none⟩ = some (.int .i64 0) := kc_ BK571 5; have hcz25_6 : w23.cell? ⟨gb571, 6, none⟩ = some (.int .i64 0) := kc_ BK571 6; have hcz25_7 : w23.cell? ⟨gb571, 7, none⟩ = some (.int .i64 0) := kc_ BK571 7; have hcz25_8 : w23.cell? ⟨gb571, 8, none⟩ = some (.string (⟨#[]⟩ : ByteArray)) := kc_ BK571 8; have hcz25_9 : w23.cell? ⟨gb571, 9, none⟩ = some (.int .i64 0) := kc_ BK571 9; have hcz25_10 : w23.cell? ⟨gb571, 10, none⟩ = some (.slice none 0 0) := kc_ BK571 10; have hcz25_11 : w23.cell? ⟨gb571, 11, none⟩ = some (.slice none 0 0) := kc_ BK571 11; have hfz25_0 := aX BK571.out; obtain ⟨Ao26, co26, eo26⟩ := cU HO554.out; subst eo26; obtain ⟨Ao27, co27, eo27⟩ := cU HO564.out; subst eo27; obtain ⟨Ao28, co28, eo28⟩ := cU HO567.out; subst eo28) | ((with_reducible refine aE (f := 8) rfl ?_); refine Short.gL (some 34) Tryz.func8 #[.agg #[.int .i64 t550, .int .i64 t551, .slice Ao26 t552.length co26, .int .i64 t555, .int .i64 t556, .int .i64 t557, .int .i64 t558, .int .i64 t559, .string t560, .int .i64 t561, .slice Ao27 t562.length co27, .slice Ao28 t565.length co28]] (h := ?_); (with_reducible refine (iB.calls t550 t551 _ _ t552 t555 t556 t557 t558 t559 t560 t561 _ _ t562 _ _ t565 t572 t575 _ ?side1 ?side2 ?side3 ?side4 ?side5 ?side6 A18.out).mono ?_); (case side1 => refine (R_reads' (e := 3) (base := w.heap.size) (ok := fun k_ => True) (n := t552.length) (c := co26) ?_).2.2; exact (by (with_reducible repeat (first | apply R_alloc | apply R_drewN | apply R_drew)); exact (R_mono (R_far (p := ⟨gb571, 11, none⟩) (R_far (p := ⟨gb571, 10, none⟩) (R_far (p := ⟨gb571, 9, none⟩) (R_far (p := ⟨gb571, 8, none⟩) (R_far (p := ⟨gb571, 7, none⟩) (R_far (p := ⟨gb571, 6, none⟩) (R_far (p := ⟨gb571, 5, none⟩) (R_far (p := ⟨gb571, 4, none⟩) (R_far (p := ⟨gb571, 3, none⟩) (R_far (p := ⟨gb571, 2, none⟩) (R_far (p := ⟨gb571, 1, none⟩) (R_far (p := ⟨gb571, 0, none⟩) (eS HO554.out BK571.out z5_) (fun _ hk => hk.2) (.int .i64 t550)) (fun _ hk => hk.2) (.int .i64 t551)) (fun _ hk => hk.2) (.slice Ao26 t552.length co26)) (fun _ hk => hk.2) (.int .i64 t555)) (fun _ hk => hk.2) (.int .i64 t556)) (fun _ hk => hk.2) (.int .i64 t557)) (fun _ hk => hk.2) (.int .i64 t558)) (fun _ hk => hk.2) (.int .i64 t559)) (fun _ hk => hk.2) (.string t560)) (fun _ hk => hk.2) (.int .i64 t561)) (fun _ hk => hk.2) (.slice Ao27 t562.length co27)) (fun _ hk => hk.2) (.slice Ao28 t565.length co28)) (fun _ h_ => h_.1)))); (case side2 => exact (R_reads' HO554.out).2.1); (case side3 => refine (R_reads' (e := 102) (base := w.heap.size) (ok := fun k_ => True) (n := t562.length) (c := co27) ?_).2.2; exact (by (with_reducible repeat (first | apply R_alloc | apply R_drewN | apply R_drew)); exact (R_mono (R_far (p := ⟨gb571, 11, none⟩) (R_far (p := ⟨gb571, 10, none⟩) (R_far (p := ⟨gb571, 9, none⟩) (R_far (p := ⟨gb571, 8, none⟩) (R_far (p := ⟨gb571, 7, none⟩) (R_far (p := ⟨gb571, 6, none⟩) (R_far (p := ⟨gb571, 5, none⟩) (R_far (p := ⟨gb571, 4, none⟩) (R_far (p := ⟨gb571, 3, none⟩) (R_far (p := ⟨gb571, 2, none⟩) (R_far (p := ⟨gb571, 1, none⟩) (R_far (p := ⟨gb571, 0, none⟩) (eS HO564.out BK571.out z5_) (fun _ hk => hk.2) (.int .i64 t550)) (fun _ hk => hk.2) (.int .i64 t551)) (fun _ hk => hk.2) (.slice Ao26 t552.length co26)) (fun _ hk => hk.2) (.int .i64 t555)) (fun _ hk => hk.2) (.int .i64 t556)) (fun _ hk => hk.2) (.int .i64 t557)) (fun _ hk => hk.2) (.int .i64 t558)) (fun _ hk => hk.2) (.int .i64 t559)) (fun _ hk => hk.2) (.string t560)) (fun _ hk => hk.2) (.int .i64 t561)) (fun _ hk => hk.2) (.slice Ao27 t562.length co27)) (fun _ hk => hk.2) (.slice Ao28 t565.length co28)) (fun _ h_ => h_.1)))); (case side4 => exact (R_reads' HO564.out).2.1); (case side5 => refine (R_reads' (e := 24) (base := w.heap.size) (ok := fun k_ => True) (n := t565.length) (c := co28) ?_).2.2; exact (by (with_reducible repeat (first | apply R_alloc | apply R_drewN | apply R_drew)); exact (R_mono (R_far (p := ⟨gb571, 11, none⟩) (R_far (p := ⟨gb571, 10, none⟩) (R_far (p := ⟨gb571, 9, none⟩) (R_far (p := ⟨gb571, 8, none⟩) (R_far (p := ⟨gb571, 7, none⟩) (R_far (p := ⟨gb571, 6, none⟩) (R_far (p := ⟨gb571, 5, none⟩) (R_far (p := ⟨gb571, 4, none⟩) (R_far (p := ⟨gb571, 3, none⟩) (R_far (p := ⟨gb571, 2, none⟩) (R_far (p := ⟨gb571, 1, none⟩) (R_far (p := ⟨gb571, 0, none⟩) (eS HO567.out BK571.out z5_) (fun _ hk => hk.2) (.int .i64 t550)) (fun _ hk => hk.2) (.int .i64 t551)) (fun _ hk => hk.2) (.slice Ao26 t552.length co26)) (fun _ hk => hk.2) (.int .i64 t555)) (fun _ hk => hk.2) (.int .i64 t556)) (fun _ hk => hk.2) (.int .i64 t557)) (fun _ hk => hk.2) (.int .i64 t558)) (fun _ hk => hk.2) (.int .i64 t559)) (fun _ hk => hk.2) (.string t560)) (fun _ hk => hk.2) (.int .i64 t561)) (fun _ hk => hk.2) (.slice Ao27 t562.length co27)) (fun _ hk => hk.2) (.slice Ao28 t565.length co28)) (fun _ h_ => h_.1)))); (case side6 => exact (R_reads' HO567.out).2.1); rintro e w29 ⟨v573, rfl, ho0, hb⟩; refine ⟨_, rfl, ?_⟩; have n0_ := mk_ (bX (by (with_reducible repeat (first | apply R_alloc | apply R_drewN | apply R_drew)); exact (R_mono (R_far (p := ⟨gb571, 11, none⟩) (R_far (p := ⟨gb571, 10, none⟩) (R_far (p := ⟨gb571, 9, none⟩) (R_far (p := ⟨gb571, 8, none⟩) (R_far (p := ⟨gb571, 7, none⟩) (R_far (p := ⟨gb571, 6, none⟩) (R_far (p := ⟨gb571, 5, none⟩) (R_far (p := ⟨gb571, 4, none⟩) (R_far (p := ⟨gb571, 3, none⟩) (R_far (p := ⟨gb571, 2, none⟩) (R_far (p := ⟨gb571, 1, none⟩) (R_far (p := ⟨gb571, 0, none⟩) (eS HO554.out BK571.out z5_) (fun _ hk => hk.2) (.int .i64 t550)) (fun _ hk => hk.2) (.int .i64 t551)) (fun _ hk => hk.2) (.slice Ao26 t552.length co26)) (fun _ hk => hk.2) (.int .i64 t555)) (fun _ hk => hk.2) (.int .i64 t556)) (fun _ hk => hk.2) (.int .i64 t557)) (fun _ hk => hk.2) (.int .i64 t558)) (fun _ hk => hk.2) (.int .i64 t559)) (fun _ hk => hk.2) (.string t560)) (fun _ hk => hk.2) (.int .i64 t561)) (fun _ hk => hk.2) (.slice Ao27 t562.length co27)) (fun _ hk => hk.2) (.slice Ao28 t565.length co28)) (fun _ h_ => h_.1))) hb); have n1_ := mk_ (bX (by (with_reducible repeat (first | apply R_alloc | apply R_drewN | apply R_drew)); exact (R_mono (R_far (p := ⟨gb571, 11, none⟩) (R_far (p := ⟨gb571, 10, none⟩) (R_far (p := ⟨gb571, 9, none⟩) (R_far (p := ⟨gb571, 8, none⟩) (R_far (p := ⟨gb571, 7, none⟩) (R_far (p := ⟨gb571, 6, none⟩) (R_far (p := ⟨gb571, 5, none⟩) (R_far (p := ⟨gb571, 4, none⟩) (R_far (p := ⟨gb571, 3, none⟩) (R_far (p := ⟨gb571, 2, none⟩) (R_far (p := ⟨gb571, 1, none⟩) (R_far (p := ⟨gb571, 0, none⟩) (eS HO564.out BK571.out z5_) (fun _ hk => hk.2) (.int .i64 t550)) (fun _ hk => hk.2) (.int .i64 t551)) (fun _ hk => hk.2) (.slice Ao26 t552.length co26)) (fun _ hk => hk.2) (.int .i64 t555)) (fun _ hk => hk.2) (.int .i64 t556)) (fun _ hk => hk.2) (.int .i64 t557)) (fun _ hk => hk.2) (.int .i64 t558)) (fun _ hk => hk.2) (.int .i64 t559)) (fun _ hk => hk.2) (.string t560)) (fun _ hk => hk.2) (.int .i64 t561)) (fun _ hk => hk.2) (.slice Ao27 t562.length co27)) (fun _ hk => hk.2) (.slice Ao28 t565.length co28)) (fun _ h_ => h_.1))) hb); have n2_ := mk_ (bX (by (with_reducible repeat (first | apply R_alloc | apply R_drewN | apply R_drew)); exact (R_mono (R_far (p := ⟨gb571, 11, none⟩) (R_far (p := ⟨gb571, 10, none⟩) (R_far (p := ⟨gb571, 9, none⟩) (R_far (p := ⟨gb571, 8, none⟩) (R_far (p := ⟨gb571, 7, none⟩) (R_far (p := ⟨gb571, 6, none⟩) (R_far (p := ⟨gb571, 5, none⟩) (R_far (p := ⟨gb571, 4, none⟩) (R_far (p := ⟨gb571, 3, none⟩) (R_far (p := ⟨gb571, 2, none⟩) (R_far (p := ⟨gb571, 1, none⟩) (R_far (p := ⟨gb571, 0, none⟩) (eS HO567.out BK571.out z5_) (fun _ hk => hk.2) (.int .i64 t550)) (fun _ hk => hk.2) (.int .i64 t551)) (fun _ hk => hk.2) (.slice Ao26 t552.length co26)) (fun _ hk => hk.2) (.int .i64 t555)) (fun _ hk => hk.2) (.int .i64 t556)) (fun _ hk => hk.2) (.int .i64 t557)) (fun _ hk => hk.2) (.int .i64 t558)) (fun _ hk => hk.2) (.int .i64 t559)) (fun _ hk => hk.2) (.string t560)) (fun _ hk => hk.2) (.int .i64 t561)) (fun _ hk => hk.2) (.slice Ao27 t562.length co27)) (fun _ hk => hk.2) (.slice Ao28 t565.length co28)) (fun _ h_ => h_.1))) hb); have n3_ := mk_ (hX (by (with_reducible repeat (first | apply gV | apply gW | apply iF)); exact (S_mono (S_far (p := ⟨gb571, 11, none⟩) (S_far (p := ⟨gb571, 10, none⟩) (S_far (p := ⟨gb571, 9, none⟩) (S_far (p := ⟨gb571, 8, none⟩) (S_far (p := ⟨gb571, 7, none⟩) (S_far (p := ⟨gb571, 6, none⟩) (S_far (p := ⟨gb571, 5, none⟩) (S_far (p := ⟨gb571, 4, none⟩) (S_far (p := ⟨gb571, 3, none⟩) (S_far (p := ⟨gb571, 2, none⟩) (S_far (p := ⟨gb571, 1, none⟩) (S_far (p := ⟨gb571, 0, none⟩) (S_types HO570.out BK571.out z5_) (fun _ hk => hk.2) (.int .i64 t550)) (fun _ hk => hk.2) (.int .i64 t551)) (fun _ hk => hk.2) (.slice Ao26 t552.length co26)) (fun _ hk => hk.2) (.int .i64 t555)) (fun _ hk => hk.2) (.int .i64 t556)) (fun _ hk => hk.2) (.int .i64 t557)) (fun _ hk => hk.2) (.int .i64 t558)) (fun _ hk => hk.2) (.int .i64 t559)) (fun _ hk => hk.2) (.string t560)) (fun _ hk => hk.2) (.int .i64 t561)) (fun _ hk => hk.2) (.slice Ao27 t562.length co27)) (fun _ hk => hk.2) (.slice Ao28 t565.length co28)) (fun _ h_ => h_.1))) hb); have n4_ := mk_ (bW ho0 (aA (Short.hB HB))); have n5_ := mk_ (bE (g := gb547) (o := .cells #[.int .i64 a2_0, .int .i64 a2_1, .slice A2_2 l2_2.length c2_2, .int .i64 a2_3, .int .i64 a2_4, .int .i64 a2_5, .int .i64 a2_6, .int .i64 a2_7, .string a2_8, .int .i64 a2_9, .slice A2_10 l2_10.length c2_10, .slice A2_11 l2_11.length c2_11] 31 (0, 0)) (by (with_reducible repeat (first | refine aH ?_ _ | refine aI ?_ | refine aG ?_ _)); refine dA ?_ NB547_571.out _; (with_reducible repeat (first | refine aH ?_ _ | refine aI ?_ | refine aG ?_ _)); refine dA ?_ NB547_571.out _; (with_reducible repeat (first | refine aH ?_ _ | refine aI ?_ | refine aG ?_ _)); refine dA ?_ NB547_571.out _; (with_reducible repeat (first | refine aH ?_ _ | refine aI ?_ | refine aG ?_ _)); refine dA ?_ NB547_571.out _; (with_reducible repeat (first | refine aH ?_ _ | refine aI ?_ | refine aG ?_ _)); refine dA ?_ NB547_571.out _; (with_reducible repeat (first | refine aH ?_ _ | refine aI ?_ | refine aG ?_ _)); refine dA ?_ NB547_571.out _; (with_reducible repeat (first | refine aH ?_ _ | refine aI ?_ | refine aG ?_ _)); refine dA ?_ NB547_571.out _; (with_reducible repeat (first | refine aH ?_ _ | refine aI ?_ | refine aG ?_ _)); refine dA ?_ NB547_571.out _; (with_reducible repeat (first | refine aH ?_ _ | refine aI ?_ | refine aG ?_ _)); refine dA ?_ NB547_571.out _; (with_reducible repeat (first | refine aH ?_ _ | refine aI ?_ | refine aG ?_ _)); refine dA ?_ NB547_571.out _; (with_reducible repeat (first | refine aH ?_ _ | refine aI ?_ | refine aG ?_ _)); refine dA ?_ NB547_571.out _; (with_reducible repeat (first | refine aH ?_ _ | refine aI ?_ | refine aG ?_ _)); refine dA ?_ NB547_571.out _; (with_reducible repeat (first | refine aH ?_ _ | refine aI ?_ | refine aG ?_ _)); exact BK547.out) hb); have n6_ := mk_ (bE (g := gb571) (o := .cells #[.int .i64 t550, .int .i64 t551, .slice Ao26 t552.length co26, .int .i64 t555, .int .i64 t556, .int .i64 t557, .int .i64 t558, .int .i64 t559, .string t560, .int .i64 t561, .slice Ao27 t562.length co27, .slice Ao28 t565.length co28] 31 (0, 0)) (by (with_reducible repeat (first | refine aH ?_ _ | refine aI ?_ | refine aG ?_ _)); refine bA (cs := #[.int .i64 t550, .int .i64 t551, .slice Ao26 t552.length co26, .int .i64 t555, .int .i64 t556, .int .i64 t557, .int .i64 t558, .int .i64 t559, .string t560, .int .i64 t561, .slice Ao27 t562.length co27, .slice none 0 0]) ?_ 11 _ rfl; (with_reducible repeat (first | refine aH ?_ _ | refine aI ?_ | refine aG ?_ _)); refine bA (cs := #[.int .i64 t550, .int .i64 t551, .slice Ao26 t552.length co26, .int .i64 t555, .int .i64 t556, .int .i64 t557, .int .i64 t558, .int .i64 t559, .string t560, .int .i64 t561, .slice none 0 0, .slice none 0 0]) ?_ 10 _ rfl; (with_reducible repeat (first | refine aH ?_ _ | refine aI ?_ | refine aG ?_ _)); refine bA (cs := #[.int .i64 t550, .int .i64 t551, .slice Ao26 t552.length co26, .int .i64 t555, .int .i64 t556, .int .i64 t557, .int .i64 t558, .int .i64 t559, .string t560, .int .i64 0, .slice none 0 0, .slice none 0 0]) ?_ 9 _ rfl; (with_reducible repeat (first | refine aH ?_ _ | refine aI ?_ | refine aG ?_ _)); refine bA (cs := #[.int .i64 t550, .int .i64 t551, .slice Ao26 t552.length co26, .int .i64 t555, .int .i64 t556, .int .i64 t557, .int .i64 t558, .int .i64 t559, .string (⟨#[]⟩ : ByteArray), .int .i64 0, .slice none 0 0, .slice none 0 0]) ?_ 8 _ rfl; (with_reducible repeat (first | refine aH ?_ _ | refine aI ?_ | refine aG ?_ _)); refine bA (cs := #[.int .i64 t550, .int .i64 t551, .slice Ao26 t552.length co26, .int .i64 t555, .int .i64 t556, .int .i64 t557, .int .i64 t558, .int .i64 0, .string (⟨#[]⟩ : ByteArray), .int .i64 0, .slice none 0 0, .slice none 0 0]) ?_ 7 _ rfl; (with_reducible repeat (first | refine aH ?_ _ | refine aI ?_ | refine aG ?_ _)); refine bA (cs := #[.int .i64 t550, .int .i64 t551, .slice Ao26 t552.length co26, .int .i64 t555, .int .i64 t556, .int .i64 t557, .int .i64 0, .int .i64 0, .string (⟨#[]⟩ : ByteArray), .int .i64 0, .slice none 0 0, .slice none 0 0]) ?_ 6 _ rfl; (with_reducible repeat (first | refine aH ?_ _ | refine aI ?_ | refine aG ?_ _)); refine bA (cs := #[.int .i64 t550, .int .i64 t551, .slice Ao26 t552.length co26, .int .i64 t555, .int .i64 t556, .int .i64 0, .int .i64 0, .int .i64 0, .string (⟨#[]⟩ : ByteArray), .int .i64 0, .slice none 0 0, .slice none 0 0]) ?_ 5 _ rfl; (with_reducible repeat (first | refine aH ?_ _ | refine aI ?_ | refine aG ?_ _)); refine bA (cs := #[.int .i64 t550, .int .i64 t551, .slice Ao26 t552.length co26, .int .i64 t555, .int .i64 0, .int .i64 0, .int .i64 0, .int .i64 0, .string (⟨#[]⟩ : ByteArray), .int .i64 0, .slice none 0 0, .slice none 0 0]) ?_ 4 _ rfl; (with_reducible repeat (first | refine aH ?_ _ | refine aI ?_ | refine aG ?_ _)); refine bA (cs := #[.int .i64 t550, .int .i64 t551, .slice Ao26 t552.length co26, .int .i64 0, .int .i64 0, .int .i64 0, .int .i64 0, .int .i64 0, .string (⟨#[]⟩ : ByteArray), .int .i64 0, .slice none 0 0, .slice none 0 0]) ?_ 3 _ rfl; (with_reducible repeat (first | refine aH ?_ _ | refine aI ?_ | refine aG ?_ _)); refine bA (cs := #[.int .i64 t550, .int .i64 t551, .slice none 0 0, .int .i64 0, .int .i64 0, .int .i64 0, .int .i64 0, .int .i64 0, .string (⟨#[]⟩ : ByteArray), .int .i64 0, .slice none 0 0, .slice none 0 0]) ?_ 2 _ rfl; (with_reducible repeat (first | refine aH ?_ _ | refine aI ?_ | refine aG ?_ _)); refine bA (cs := #[.int .i64 t550, .int .i64 0, .slice none 0 0, .int .i64 0, .int .i64 0, .int .i64 0, .int .i64 0, .int .i64 0, .string (⟨#[]⟩ : ByteArray), .int .i64 0, .slice none 0 0, .slice none 0 0]) ?_ 1 _ rfl; (with_reducible repeat (first | refine aH ?_ _ | refine aI ?_ | refine aG ?_ _)); refine bA (cs := #[.int .i64 0, .int .i64 0, .slice none 0 0, .int .i64 0, .int .i64 0, .int .i64 0, .int .i64 0, .int .i64 0, .string (⟨#[]⟩ : ByteArray), .int .i64 0, .slice none 0 0, .slice none 0 0]) ?_ 0 _ rfl; (with_reducible repeat (first | refine aH ?_ _ | refine aI ?_ | refine aG ?_ _)); exact BK571.out) hb); have n7_ := mk_ (aC (Short.hB HB) hb); clear HO554 HO564 HO567 HO570 BK547 BK571 HB; revert n0_ n1_ n2_ n3_ n4_ n5_ n6_ n7_; intro HO554 HO564 HO567 HO570 HO574 BK547 BK571 HB; (try clear hb ho0)))
   (try simp only [Act.put, List.setIfInBounds_toArray, List.set_cons_zero, List.set_cons_succ])
   go_cut [71] (fun v71 wc => ∃ (kq : Nat) (x71_18 : Bool), v71 = .bool x71_18 ∧ Aside0 (aJ.j1 kq t572 t575 x71_18 a2_0 a2_1 l2_2 a2_3 a2_4 a2_5 a2_6 a2_7 a2_8 a2_9 l2_10 l2_11 = some r) ∧ Aside0 (kq ≤ kj4) ∧ Aside0 (Kd.R (Kd.int .u8) 5 wc w.heap.size (fun _ => True) v573 t572) ∧ Aside0 (Kd.R (Kd.int .i64) 3 wc w.heap.size (fun _ => True) (.slice Ao26 t552.length co26) t552) ∧ Aside0 (Kd.R k102 102 wc w.heap.size (fun _ => True) (.slice Ao27 t562.length co27) t562) ∧ Aside0 (Kd.R k24 24 wc w.heap.size (fun _ => True) (.slice Ao28 t565.length co28) t565) ∧ Aside0 (wc.heap[gb547]? = some (.cells #[.int .i64 a2_0, .int .i64 a2_1, (.slice A2_2 l2_2.length c2_2), .int .i64 a2_3, .int .i64 a2_4, .int .i64 a2_5, .int .i64 a2_6, .int .i64 a2_7, .string a2_8, .int .i64 a2_9, (.slice A2_10 l2_10.length c2_10), (.slice A2_11 l2_11.length c2_11)] 31 (0, 0))) ∧ Aside0 (wc.heap[gb571]? = some (.cells #[.int .i64 t550, .int .i64 t551, (.slice Ao26 t552.length co26), .int .i64 t555, .int .i64 t556, .int .i64 t557, .int .i64 t558, .int .i64 t559, .string t560, .int .i64 t561, (.slice Ao27 t562.length co27), (.slice Ao28 t565.length co28)] 31 (0, 0))) ∧ Aside0 (Below w.heap.size w wc))
   case first =>
    have H := HC19.out
    clear HC19
    obtain ⟨t576, A30, H⟩ := Option.bind_eq_some_iff.mp H
    replace A30 := mk_ A30
    obtain ⟨t577, A31, H⟩ := Option.bind_eq_some_iff.mp H
    replace A31 := mk_ A31
    by_cases c32 : t576 = t577
    rotate_left
    ·
     rw [if_neg c32] at H
     have c32b0 : (t576 == t577) = false := beq_eq_false_iff_ne.mpr c32
     have c32b1 : (t576 != t577) = true := bne_iff_ne.mpr c32
     (first | rw [c32b0] | (simp only [i64_w, i32_w]; rw [c32b0]) | skip)
     exact absurd H (by rw [hrt]; cases kj4 <;> simp [aJ.j1])
    rw [if_pos c32] at H
    have c32b0 : (t576 == t577) = true := beq_iff_eq.mpr c32
    have c32b1 : (t576 != t577) = false := bne_eq_false_iff_eq.mpr c32
    clear c32
    (first | rw [c32b0] | (simp only [i64_w, i32_w]; rw [c32b0]) | skip)
    obtain ⟨t578, A33, H⟩ := Option.bind_eq_some_iff.mp H
    replace A33 := mk_ A33
    obtain ⟨t579, A34, H⟩ := Option.bind_eq_some_iff.mp H
    replace A34 := mk_ A34
    by_cases c35 : (t578 != t579) = true
    ·
     rw [if_pos c35] at H
     have c35b0 : (t578 != t579) = true := c35
     (try (have c35b1 : decide (t578 = t579) = false := by simpa using c35))
     (try (have c35b2 : (t578 == t579) = false := by simpa using c35))
     (try (have c35b3 : ¬ (t578 = t579) := by simpa using c35))
     clear c35
     exact absurd H (by rw [hrt]; cases kj4 <;> simp [aJ.j1])
    rw [if_neg c35] at H
    have c35b0 : (t578 != t579) = false := by simpa using c35
    (try (have c35b1 : decide (t578 = t579) = true := by simpa using c35))
    (try (have c35b2 : (t578 == t579) = true := by simpa using c35))
    clear c35
    obtain ⟨t580, A36, H⟩ := Option.bind_eq_some_iff.mp H
    replace A36 := mk_ A36
    obtain ⟨t581, A37, H⟩ := Option.bind_eq_some_iff.mp H
    replace A37 := mk_ A37
    by_cases c38 : t580 = t581
    rotate_left
    ·
     rw [if_neg c38] at H
     have c38b0 : (t580 == t581) = false := beq_eq_false_iff_ne.mpr c38
     have c38b1 : (t580 != t581) = true := bne_iff_ne.mpr c38
     exact absurd H (by rw [hrt]; cases kj4 <;> simp [aJ.j1])
    rw [if_pos c38] at H
    have c38b0 : (t580 == t581) = true := beq_iff_eq.mpr c38
    have c38b1 : (t580 != t581) = false := bne_eq_false_iff_eq.mpr c38
    clear c38
    obtain ⟨t582, A39, H⟩ := Option.bind_eq_some_iff.mp H
    replace A39 := mk_ A39
    by_cases c40 : t582 = true
    rotate_left
    ·
     replace c40 := Bool.eq_false_iff.mpr c40
     subst c40
     rw [if_neg (show ¬ (false = true) by decide)] at H
     exact absurd H (by rw [hrt]; cases kj4 <;> simp [aJ.j1])
    subst c40
    rw [if_pos rfl] at H
    obtain ⟨t583, A41, H⟩ := Option.bind_eq_some_iff.mp H
    replace A41 := mk_ A41
    have H' := mk_ H
    clear H
    try go_wp2
    have n0_ := mk_ (R_drew HO554.out)
    have n1_ := mk_ (R_drew HO564.out)
    have n2_ := mk_ (R_drew HO567.out)
    have n3_ := mk_ (iF HO570.out)
    have n4_ := mk_ (R_drew HO574.out)
    have n5_ := mk_ (aI BK547.out)
    have n6_ := mk_ (aI BK571.out)
    have n7_ := mk_ (dE HB.out)
    clear HO554 HO564 HO567 HO570 HO574 BK547 BK571 HB
    revert n0_ n1_ n2_ n3_ n4_ n5_ n6_ n7_
    intro HO554 HO564 HO567 HO570 HO574 BK547 BK571 HB
    obtain ⟨Ao43, co43, eo43⟩ := S_slice HO570.out
    (first | subst eo43 | (injection eo43 with f1_ f2_ f3_; have f4_ := f1_.symm; have f5_ := f3_.symm; clear f1_ f2_ f3_; subst f4_; subst f5_))
    refine fM (n := 35) (S := fun w' => w'.cell? ⟨gb571, 0, none⟩ = some (.int .i64 t550) ∧ w'.cell? ⟨gb571, 1, none⟩ = some (.int .i64 t551) ∧ w'.cell? ⟨gb571, 2, none⟩ = some (.slice Ao26 t552.length co26) ∧ w'.cell? ⟨gb571, 3, none⟩ = some (.int .i64 t555) ∧ w'.cell? ⟨gb571, 4, none⟩ = some (.int .i64 t556) ∧ w'.cell? ⟨gb571, 5, none⟩ = some (.int .i64 t557) ∧ w'.cell? ⟨gb571, 6, none⟩ = some (.int .i64 t558) ∧ w'.cell? ⟨gb571, 7, none⟩ = some (.int .i64 t559) ∧ w'.cell? ⟨gb571, 8, none⟩ = some (.string t560) ∧ w'.cell? ⟨gb571, 9, none⟩ = some (.int .i64 t561) ∧ w'.cell? ⟨gb571, 10, none⟩ = some (.slice Ao27 t562.length co27) ∧ w'.cell? ⟨gb571, 11, none⟩ = some (.slice Ao28 t565.length co28) ∧ w'.cell? ⟨gb547, 0, none⟩ = some (.int .i64 a2_0) ∧ w'.cell? ⟨gb547, 1, none⟩ = some (.int .i64 a2_1) ∧ w'.cell? ⟨gb547, 2, none⟩ = some (.slice A2_2 l2_2.length c2_2) ∧ w'.cell? ⟨gb547, 3, none⟩ = some (.int .i64 a2_3) ∧ w'.cell? ⟨gb547, 4, none⟩ = some (.int .i64 a2_4) ∧ w'.cell? ⟨gb547, 5, none⟩ = some (.int .i64 a2_5) ∧ w'.cell? ⟨gb547, 6, none⟩ = some (.int .i64 a2_6) ∧ w'.cell? ⟨gb547, 7, none⟩ = some (.int .i64 a2_7) ∧ w'.cell? ⟨gb547, 8, none⟩ = some (.string a2_8) ∧ w'.cell? ⟨gb547, 9, none⟩ = some (.int .i64 a2_9) ∧ w'.cell? ⟨gb547, 10, none⟩ = some (.slice A2_10 l2_10.length c2_10) ∧ w'.cell? ⟨gb547, 11, none⟩ = some (.slice A2_11 l2_11.length c2_11)) (ds := []) (Steps.Bs 35 0) z2_ rfl rfl (k12_ BK571 (k12e_ BK547)) (fun hHeld => ?_); refine cZ aJ.tab5 aJ.bits5 (fun HT_ HW_ => ?_)
    generalize w29.drew = w42 at HO554 HO564 HO567 HO570 HO574 BK547 BK571 HB hHeld ⊢
    refine tI HT_ 0 37 35 1 ?_
    refine tI HT_ 2 39 35 5 ?_
    refine one_ (i := 1) (N := some 38) (Steps.Bs 35 7) rfl rfl (cB HT_.out z2_) z5_ (fun K hK => ?_)
    refine goes_ Tryz.func9 z2_ rfl #[.slice Ao43 t568.length co43] (by rfl) rfl rfl z0_ ?_
    with_reducible refine (dB.calls kj4 _ _ t568 t576 _ ?side1 ?side2 A30.out).mono ?_
    (case side1 => exact cX_ (S_reads' HO570.out).2.2)
    (case side2 => exact (S_reads' HO570.out).2.1)
    rintro e w44 ⟨rfl, hb⟩
    refine ⟨_, rfl, ?_⟩
    have n0_ := mk_ (bX (ZKR HO554) hb)
    have n1_ := mk_ (bX (ZKR HO564) hb)
    have n2_ := mk_ (bX (ZKR HO567) hb)
    have n3_ := mk_ (hX (by (with_reducible repeat (first | apply gV | apply gW | apply iF)); exact HO570.out) hb)
    have n4_ := mk_ (bX (ZKR HO574) hb)
    have n5_ := mk_ (bB_ BK547 hb)
    have n6_ := mk_ (bB_ BK571 hb)
    have n7_ := mk_ (aC (Short.hB HB) hb)
    clear HO554 HO564 HO567 HO570 HO574 BK547 BK571 HB
    revert n0_ n1_ n2_ n3_ n4_ n5_ n6_ n7_
    intro HO554 HO564 HO567 HO570 HO574 BK547 BK571 HB
    (try clear hb)
    (try clear hb2)
    (try clear hk)
    (try clear hi)
    refine hK.out _ _ (k12_ BK571 (k12e_ BK547)) (fun hHeld => ?_)
    clear hK K
    refine nrm 38 ?_
    refine one_ (i := 3) (N := some 40) (Steps.Bs 35 15) rfl rfl (cB HT_.out z2_) z5_ (fun K hK => ?_)
    refine goes_ Tryz.func10 z2_ rfl #[.slice A1 l1.length c1] (by rfl) rfl rfl z0_ ?_
    with_reducible refine (aV.calls kj4 _ _ l1 t577 _ ?side1 ?side2 A31.out).mono ?_
    (case side1 => exact cX_ (aU HR1.out HB.out))
    (case side2 => exact HC1.out)
    rintro e w' ⟨rfl, ⟨nd, rfl⟩⟩
    refine ⟨_, rfl, ?_⟩
    refine hK.out _ _ (k12_ BK571 (k12e_ BK547)) (fun hHeld => ?_)
    clear hK K
    refine nrm 40 ?_
    refine tI HT_ 4 41 35 31 ?_
    refine tI HT_ 5 42 35 63 ?_
    refine tI HT_ 6 43 35 127 ?_
    refine tI HT_ 8 45 35 383 ?_
    refine one_ (i := 7) (N := some 44) (Steps.Bs 35 511) rfl rfl (cB HT_.out z2_) z5_ (fun K hK => ?_)
    refine goes_ Tryz.func11 z2_ rfl #[.string a3] (by rfl) rfl rfl z0_ ?_
    with_reducible refine (gP.calls a3 t578 _ A33.out).mono ?_
    rintro e w' ⟨rfl, ⟨nd, rfl⟩⟩
    refine ⟨_, rfl, ?_⟩
    refine hK.out _ _ (k12_ BK571 (k12e_ BK547)) (fun hHeld => ?_)
    clear hK K
    refine nrm 44 ?_
    refine one_ (i := 9) (N := some 46) (Steps.Bs 35 1023) rfl rfl (cB HT_.out z2_) z5_ (fun K hK => ?_)
    refine goes_ Tryz.func12 z2_ rfl #[.string a3] (by rfl) rfl rfl z0_ ?_
    with_reducible refine (eW.calls a3 t579 _ A34.out).mono ?_
    rintro e w' ⟨rfl, ⟨nd, rfl⟩⟩
    refine ⟨_, rfl, ?_⟩
    refine hK.out _ _ (k12_ BK571 (k12e_ BK547)) (fun hHeld => ?_)
    clear hK K
    refine nrm 46 ?_
    refine tI HT_ 10 47 35 2047 ?_
    refine tI HT_ 11 48 35 4095 ?_
    refine tI HT_ 12 49 35 8191 ?_
    refine tI HT_ 13 50 35 16383 ?_
    refine tI HT_ 14 51 35 32767 ?_
    refine tI HT_ 17 54 35 163839 ?_
    refine tI HT_ 18 55 35 425983 ?_
    refine tT HT_ HW_ hHeld 15 52 35 458751 ?_
    refine tT HT_ HW_ hHeld 19 56 35 983039 ?_
    refine one_ (i := 16) (N := some 53) (Steps.Bs 35 1048575) rfl rfl (cB HT_.out z2_) z5_ (fun K hK => ?_)
    refine goes_ Tryz.func13 z2_ rfl #[.int .i64 a0, .slice Ao43 t568.length co43, .agg #[.int .i64 t550, .int .i64 t551, .slice Ao26 t552.length co26, .int .i64 t555, .int .i64 t556, .int .i64 t557, .int .i64 t558, .int .i64 t559, .string t560, .int .i64 t561, .slice Ao27 t562.length co27, .slice Ao28 t565.length co28]] (by rfl) rfl rfl z0_ ?_
    with_reducible refine (hG.calls kj4 a0 _ _ t568 t550 t551 _ _ t552 t555 t556 t557 t558 t559 t560 t561 _ _ t562 _ _ t565 t580 _ ?side1 ?side2 ?side3 ?side4 ?side5 ?side6 ?side7 ?side8 A36.out).mono ?_
    (case side1 => exact cX_ (S_reads' HO570.out).2.2)
    (case side2 => exact (S_reads' HO570.out).2.1)
    (case side3 => exact cX_ (R_reads' HO554.out).2.2)
    (case side4 => exact (R_reads' HO554.out).2.1)
    (case side5 => exact cX_ (R_reads' HO564.out).2.2)
    (case side6 => exact (R_reads' HO564.out).2.1)
    (case side7 => exact cX_ (R_reads' HO567.out).2.2)
    (case side8 => exact (R_reads' HO567.out).2.1)
    rintro e w45 ⟨rfl, hb⟩
    refine ⟨_, rfl, ?_⟩
    have n0_ := mk_ (bX (ZKR HO554) hb)
    have n1_ := mk_ (bX (ZKR HO564) hb)
    have n2_ := mk_ (bX (ZKR HO567) hb)
    have n3_ := mk_ (hX (by (with_reducible repeat (first | apply gV | apply gW | apply iF)); exact HO570.out) hb)
    have n4_ := mk_ (bX (ZKR HO574) hb)
    have n5_ := mk_ (bB_ BK547 hb)
    have n6_ := mk_ (bB_ BK571 hb)
    have n7_ := mk_ (aC (Short.hB HB) hb)
    clear HO554 HO564 HO567 HO570 HO574 BK547 BK571 HB
    revert n0_ n1_ n2_ n3_ n4_ n5_ n6_ n7_
    intro HO554 HO564 HO567 HO570 HO574 BK547 BK571 HB
    (try clear hb)
    (try clear hb2)
    (try clear hk)
    (try clear hi)
    refine hK.out _ _ (k12_ BK571 (k12e_ BK547)) (fun hHeld => ?_)
    clear hK K
    refine nrm 53 ?_
    refine one_ (i := 20) (N := some 57) (Steps.Bs 35 2097151) rfl rfl (cB HT_.out z2_) z5_ (fun K hK => ?_)
    refine goes_ Tryz.func14 z2_ rfl #[.int .i64 a0, .slice A1 l1.length c1, .agg #[.int .i64 a2_0, .int .i64 a2_1, .slice A2_2 l2_2.length c2_2, .int .i64 a2_3, .int .i64 a2_4, .int .i64 a2_5, .int .i64 a2_6, .int .i64 a2_7, .string a2_8, .int .i64 a2_9, .slice A2_10 l2_10.length c2_10, .slice A2_11 l2_11.length c2_11]] (by rfl) rfl rfl z0_ ?_
    with_reducible refine (fE.calls kj4 a0 _ _ l1 a2_0 a2_1 _ _ l2_2 a2_3 a2_4 a2_5 a2_6 a2_7 a2_8 a2_9 _ _ l2_10 _ _ l2_11 t581 _ ?side1 ?side2 ?side3 ?side4 ?side5 ?side6 ?side7 ?side8 A37.out).mono ?_
    (case side1 => exact cX_ (aU HR1.out HB.out))
    (case side2 => exact HC1.out)
    (case side3 => exact cX_ (aU HR2_2.out HB.out))
    (case side4 => exact HC2_2.out)
    (case side5 => exact cX_ (aU HR2_10.out HB.out))
    (case side6 => exact HC2_10.out)
    (case side7 => exact cX_ (aU HR2_11.out HB.out))
    (case side8 => exact HC2_11.out)
    rintro e w46 ⟨rfl, hb⟩
    refine ⟨_, rfl, ?_⟩
    have n0_ := mk_ (bX (ZKR HO554) hb)
    have n1_ := mk_ (bX (ZKR HO564) hb)
    have n2_ := mk_ (bX (ZKR HO567) hb)
    have n3_ := mk_ (hX (by (with_reducible repeat (first | apply gV | apply gW | apply iF)); exact HO570.out) hb)
    have n4_ := mk_ (bX (ZKR HO574) hb)
    have n5_ := mk_ (bB_ BK547 hb)
    have n6_ := mk_ (bB_ BK571 hb)
    have n7_ := mk_ (aC (Short.hB HB) hb)
    clear HO554 HO564 HO567 HO570 HO574 BK547 BK571 HB
    revert n0_ n1_ n2_ n3_ n4_ n5_ n6_ n7_
    intro HO554 HO564 HO567 HO570 HO574 BK547 BK571 HB
    (try clear hb)
    (try clear hb2)
    (try clear hk)
    (try clear hi)
    refine hK.out _ _ (k12_ BK571 (k12e_ BK547)) (fun hHeld => ?_)
    clear hK K
    refine nrm 57 ?_
    refine tI HT_ 21 58 35 4194303 ?_
    refine tI HT_ 22 59 35 8388607 ?_
    refine tI HT_ 23 60 35 16777215 ?_
    refine tT HT_ HW_ hHeld 24 61 35 33554431 ?_
    refine tT HT_ HW_ hHeld 25 62 35 67108863 ?_
    refine one_ (i := 26) (N := some 63) (Steps.Bs 35 134217727) rfl rfl (cB HT_.out z2_) z5_ (fun K hK => ?_)
    refine goes_ Tryz.func15 z2_ rfl #[.agg #[.int .i64 t550, .int .i64 t551, .slice Ao26 t552.length co26, .int .i64 t555, .int .i64 t556, .int .i64 t557, .int .i64 t558, .int .i64 t559, .string t560, .int .i64 t561, .slice Ao27 t562.length co27, .slice Ao28 t565.length co28], .agg #[.int .i64 a2_0, .int .i64 a2_1, .slice A2_2 l2_2.length c2_2, .int .i64 a2_3, .int .i64 a2_4, .int .i64 a2_5, .int .i64 a2_6, .int .i64 a2_7, .string a2_8, .int .i64 a2_9, .slice A2_10 l2_10.length c2_10, .slice A2_11 l2_11.length c2_11]] (by rfl) rfl rfl z0_ ?_
    with_reducible refine (eQ.calls kj4 t550 t551 _ _ t552 t555 t556 t557 t558 t559 t560 t561 _ _ t562 _ _ t565 a2_0 a2_1 _ _ l2_2 a2_3 a2_4 a2_5 a2_6 a2_7 a2_8 a2_9 _ _ l2_10 _ _ l2_11 true _ ?side1 ?side2 ?side3 ?side4 ?side5 ?side6 ?side7 ?side8 ?side9 ?side10 ?side11 ?side12 A39.out).mono ?_
    (case side1 => exact cX_ (R_reads' HO554.out).2.2)
    (case side2 => exact (R_reads' HO554.out).2.1)
    (case side3 => exact cX_ (R_reads' HO564.out).2.2)
    (case side4 => exact (R_reads' HO564.out).2.1)
    (case side5 => exact cX_ (R_reads' HO567.out).2.2)
    (case side6 => exact (R_reads' HO567.out).2.1)
    (case side7 => exact cX_ (aU HR2_2.out HB.out))
    (case side8 => exact HC2_2.out)
    (case side9 => exact cX_ (aU HR2_10.out HB.out))
    (case side10 => exact HC2_10.out)
    (case side11 => exact cX_ (aU HR2_11.out HB.out))
    (case side12 => exact HC2_11.out)
    rintro e w47 ⟨rfl, hb⟩
    refine ⟨_, rfl, ?_⟩
    have n0_ := mk_ (bX (ZKR HO554) hb)
    have n1_ := mk_ (bX (ZKR HO564) hb)
    have n2_ := mk_ (bX (ZKR HO567) hb)
    have n3_ := mk_ (hX (by (with_reducible repeat (first | apply gV | apply gW | apply iF)); exact HO570.out) hb)
    have n4_ := mk_ (bX (ZKR HO574) hb)
    have n5_ := mk_ (bB_ BK547 hb)
    have n6_ := mk_ (bB_ BK571 hb)
    have n7_ := mk_ (aC (Short.hB HB) hb)
    clear HO554 HO564 HO567 HO570 HO574 BK547 BK571 HB
    revert n0_ n1_ n2_ n3_ n4_ n5_ n6_ n7_
    intro HO554 HO564 HO567 HO570 HO574 BK547 BK571 HB
    (try clear hb)
    (try clear hb2)
    (try clear hk)
    (try clear hi)
    refine hK.out _ _ (k12_ BK571 (k12e_ BK547)) (fun hHeld => ?_)
    clear hK K
    refine nrm 63 ?_
    refine tI HT_ 27 64 35 268435455 ?_
    refine tI HT_ 28 65 35 536870911 ?_
    refine tI HT_ 29 66 35 1073741823 ?_
    refine tI HT_ 30 67 35 2147483647 ?_
    refine tI HT_ 31 68 35 4294967295 ?_
    refine one_ (i := 32) (N := some 69) (Steps.Bs 35 8589934591) rfl rfl (cB HT_.out z2_) z5_ (fun K hK => ?_)
    refine goes_ Tryz.func16 z2_ rfl #[.slice Ao43 t568.length co43, .slice A1 l1.length c1] (by rfl) rfl rfl z0_ ?_
    with_reducible refine (cT.calls kj4 _ _ t568 _ _ l1 t583 _ ?side1 ?side2 ?side3 ?side4 A41.out).mono ?_
    (case side1 => exact cX_ (S_reads' HO570.out).2.2)
    (case side2 => exact (S_reads' HO570.out).2.1)
    (case side3 => exact cX_ (aU HR1.out HB.out))
    (case side4 => exact HC1.out)
    rintro e w' ⟨rfl, ⟨nd, rfl⟩⟩
    refine ⟨_, rfl, ?_⟩
    refine hK.out _ _ (k12_ BK571 (k12e_ BK547)) (fun hHeld => ?_)
    clear hK K
    refine nrm 69 ?_
    refine tI HT_ 33 70 35 17179869183 ?_
    refine tI HT_ 34 71 35 34359738367 ?_
    refine done_ (cC HT_.out z2_) ?_
    try go_wp2
    go_meet
    case rel => exact ⟨_, (!t583), z4_, H', ⟨by have := HJ4.out; first | omega | exact Nat.le_refl _⟩, ⟨by (with_reducible repeat (first | apply R_alloc | apply R_drewN | apply R_drew)); exact HO574.out⟩, ⟨by (with_reducible repeat (first | apply R_alloc | apply R_drewN | apply R_drew)); exact HO554.out⟩, ⟨by (with_reducible repeat (first | apply R_alloc | apply R_drewN | apply R_drew)); exact HO564.out⟩, ⟨by (with_reducible repeat (first | apply R_alloc | apply R_drewN | apply R_drew)); exact HO567.out⟩, ⟨by (with_reducible repeat (first | refine aH ?_ _ | refine aI ?_ | refine aG ?_ _)); exact BK547.out⟩, ⟨by (with_reducible repeat (first | refine aH ?_ _ | refine aI ?_ | refine aG ?_ _)); exact BK571.out⟩, ⟨Short.hB HB⟩⟩
   case rest =>
    clear HC19
    try clear c1
    try clear c2
    try clear p2
    try clear c3
    try clear c4
    try clear c6
    try clear c7
    try clear c8
    try clear c9
    try clear c10
    try clear c11
    try clear c12
    try clear c13
    try clear c14
    try clear c15
    try clear c16
    try clear c24
    try clear c32
    try clear c32b0
    try clear c32b1
    try clear c35
    try clear c35b0
    try clear c35b1
    try clear c35b2
    try clear c38
    try clear c38b0
    try clear c38b1
    try clear c40
    try clear hcz25_0
    try clear hcz25_1
    try clear hcz25_10
    try clear hcz25_11
    try clear hcz25_2
    try clear hcz25_3
    try clear hcz25_4
    try clear hcz25_5
    try clear hcz25_6
    try clear hcz25_7
    try clear hcz25_8
    try clear hcz25_9
    try clear hfz25_0
    obtain ⟨kq, x71_18, rfl, HA, HJ18, HO_11, HO_572002, HO_572010, HO_572011, BK547, BK571, HB⟩ := hcut
    cases kq with
    | zero => exact absurd HA.out (by simp [aJ.j1])
    | succ kj18 =>
     have H := HA.out
     clear HA
     simp only [aJ.j1] at H
     by_cases c48 : x71_18 = true
     ·
      subst c48
      rw [if_pos rfl] at H
      exact absurd H (by rw [hrt]; simp)
     replace c48 := Bool.eq_false_iff.mpr c48
     subst c48
     rw [if_neg (show ¬ (false = true) by decide)] at H
     obtain ⟨t584, A49, H⟩ := Option.bind_eq_some_iff.mp H
     replace A49 := mk_ A49
     by_cases c50 : t584 = true
     rotate_left
     ·
      replace c50 := Bool.eq_false_iff.mpr c50
      subst c50
      rw [if_neg (show ¬ (false = true) by decide)] at H
      by_cases c80 : t575 = 1
      rotate_left
      ·
       rw [if_neg c80] at H
       have c80b0 : (t575 == 1) = false := beq_eq_false_iff_ne.mpr c80
       have c80b1 : (t575 != 1) = true := bne_iff_ne.mpr c80
       exact absurd H (by rw [hrt]; simp)
      rw [if_pos c80] at H
      have c80b0 : (t575 == 1) = true := beq_iff_eq.mpr c80
      have c80b1 : (t575 != 1) = false := bne_eq_false_iff_eq.mpr c80
      clear c80
      by_cases c81 : (t572.length : Int) = 0
      rotate_left
      ·
       rw [if_neg c81] at H
       have c81b0 : ((t572.length : Int) == 0) = false := beq_eq_false_iff_ne.mpr c81
       have c81b1 : ((t572.length : Int) != 0) = true := bne_iff_ne.mpr c81
       have c81b2 : ¬ (t572 = []) := fun h_ => c81 (by rw [h_]; rfl)
       exact absurd H (by rw [hrt]; simp)
      rw [if_pos c81] at H
      have c81b0 : ((t572.length : Int) == 0) = true := beq_iff_eq.mpr c81
      have c81b1 : ((t572.length : Int) != 0) = false := bne_eq_false_iff_eq.mpr c81
      clear c81
      obtain ⟨t585, A82, H⟩ := Option.bind_eq_some_iff.mp H
      replace A82 := mk_ A82
      obtain rfl := Option.some.inj H
      have hnb83 := NB547_571.out
      have hnc83 := NB571_547.out
      have hcz_0 := aD BK547.out
      have hfz_0 := aX BK547.out
      go_wp2_with (first | ((with_reducible refine aE (f := 17) rfl ?_); refine Short.gL (some 73) Tryz.func17 #[.agg #[.int .i64 a2_0, .int .i64 a2_1, .slice A2_2 l2_2.length c2_2, .int .i64 a2_3, .int .i64 a2_4, .int .i64 a2_5, .int .i64 a2_6, .int .i64 a2_7, .string a2_8, .int .i64 a2_9, .slice A2_10 l2_10.length c2_10, .slice A2_11 l2_11.length c2_11]] (h := ?_); (with_reducible refine (dV.calls a2_0 a2_1 _ _ l2_2 a2_3 a2_4 a2_5 a2_6 a2_7 a2_8 a2_9 _ _ l2_10 _ _ l2_11 false _ ?side1 ?side2 ?side3 ?side4 ?side5 ?side6 A49.out).mono ?_); (case side1 => exact cX_ (aU HR2_2.out HB.out)); (case side2 => exact HC2_2.out); (case side3 => exact cX_ (aU HR2_10.out HB.out)); (case side4 => exact HC2_10.out); (case side5 => exact cX_ (aU HR2_11.out HB.out)); (case side6 => exact HC2_11.out); rintro e w85 ⟨rfl, hb⟩; refine ⟨_, rfl, ?_⟩; have n0_ := mk_ (bX (ZKR HO_11) hb); have n1_ := mk_ (bX (ZKR HO_572002) hb); have n2_ := mk_ (bX (ZKR HO_572010) hb); have n3_ := mk_ (bX (ZKR HO_572011) hb); have n4_ := mk_ (bB_ BK547 hb); have n5_ := mk_ (bB_ BK571 hb); have n6_ := mk_ (aC (Short.hB HB) hb); clear HO_11 HO_572002 HO_572010 HO_572011 BK547 BK571 HB; revert n0_ n1_ n2_ n3_ n4_ n5_ n6_; intro HO_11 HO_572002 HO_572010 HO_572011 BK547 BK571 HB; (try clear hb); obtain ⟨Ao86, co86, eo86⟩ := cU HO_11.out; subst eo86) | (go_at_call 18; (with_reducible refine (eU.calls  t585 _ A82.out).mono ?_); rintro e w87 ⟨rfl, hb⟩; have n8_ := mk_ (aC (Short.hB HB) hb); clear HB; have HB := n8_; clear n8_ hb))
      go_ret
      exact ⟨q0, Short.hB HB⟩
     subst c50
     rw [if_pos rfl] at H
     obtain ⟨⟨t586, t587, t588, t591, t592, t593, t594, t595, t596, t597, t598, t601, t604, t605⟩, A51, H⟩ := Option.bind_eq_some_iff.mp H
     try dsimp only at H
     replace A51 := mk_ A51
     by_cases c52 : t575 = 0
     rotate_left
     ·
      rw [if_neg c52] at H
      have c52b0 : (t575 == 0) = false := beq_eq_false_iff_ne.mpr c52
      have c52b1 : (t575 != 0) = true := bne_iff_ne.mpr c52
      exact absurd H (by rw [hrt]; simp)
     rw [if_pos c52] at H
     have c52b0 : (t575 == 0) = true := beq_iff_eq.mpr c52
     have c52b1 : (t575 != 0) = false := bne_eq_false_iff_eq.mpr c52
     clear c52
     obtain ⟨t607, A53, H⟩ := Option.bind_eq_some_iff.mp H
     replace A53 := mk_ A53
     obtain ⟨t610, A54, H⟩ := Option.bind_eq_some_iff.mp H
     replace A54 := mk_ A54
     by_cases c55 : t610 = true
     rotate_left
     ·
      replace c55 := Bool.eq_false_iff.mpr c55
      subst c55
      rw [if_neg (show ¬ (false = true) by decide)] at H
      exact absurd H (by rw [hrt]; simp)
     subst c55
     rw [if_pos rfl] at H
     by_cases c56 : t605 = 0
     rotate_left
     ·
      rw [if_neg c56] at H
      have c56b0 : (t605 == 0) = false := beq_eq_false_iff_ne.mpr c56
      have c56b1 : (t605 != 0) = true := bne_iff_ne.mpr c56
      exact absurd H (by rw [hrt]; simp)
     rw [if_pos c56] at H
     have c56b0 : (t605 == 0) = true := beq_iff_eq.mpr c56
     have c56b1 : (t605 != 0) = false := bne_eq_false_iff_eq.mpr c56
     clear c56
     by_cases c57 : t604 = (t572.length : Int)
     rotate_left
     ·
      rw [if_neg c57] at H
      have c57b0 : (t604 == (t572.length : Int)) = false := beq_eq_false_iff_ne.mpr c57
      have c57b1 : (t604 != (t572.length : Int)) = true := bne_iff_ne.mpr c57
      exact absurd H (by rw [hrt]; simp)
     rw [if_pos c57] at H
     have c57b0 : (t604 == (t572.length : Int)) = true := beq_iff_eq.mpr c57
     have c57b1 : (t604 != (t572.length : Int)) = false := bne_eq_false_iff_eq.mpr c57
     clear c57
     obtain ⟨t611, A58, H⟩ := Option.bind_eq_some_iff.mp H
     replace A58 := mk_ A58
     by_cases c59 : t611 = true
     rotate_left
     ·
      replace c59 := Bool.eq_false_iff.mpr c59
      subst c59
      rw [if_neg (show ¬ (false = true) by decide)] at H
      exact absurd H (by rw [hrt]; simp)
     subst c59
     rw [if_pos rfl] at H
     obtain ⟨t612, A60, H⟩ := Option.bind_eq_some_iff.mp H
     replace A60 := mk_ A60
     obtain rfl := Option.some.inj H
     have hnb61 := NB547_571.out
     have hnc61 := NB571_547.out
     have hcz_0 := aD BK547.out
     have hfz_0 := aX BK547.out
     go_wp2_with (first | ((with_reducible refine aE (f := 17) rfl ?_); refine Short.gL (some 73) Tryz.func17 #[.agg #[.int .i64 a2_0, .int .i64 a2_1, .slice A2_2 l2_2.length c2_2, .int .i64 a2_3, .int .i64 a2_4, .int .i64 a2_5, .int .i64 a2_6, .int .i64 a2_7, .string a2_8, .int .i64 a2_9, .slice A2_10 l2_10.length c2_10, .slice A2_11 l2_11.length c2_11]] (h := ?_); (with_reducible refine (dV.calls a2_0 a2_1 _ _ l2_2 a2_3 a2_4 a2_5 a2_6 a2_7 a2_8 a2_9 _ _ l2_10 _ _ l2_11 true _ ?side1 ?side2 ?side3 ?side4 ?side5 ?side6 A49.out).mono ?_); (case side1 => exact cX_ (aU HR2_2.out HB.out)); (case side2 => exact HC2_2.out); (case side3 => exact cX_ (aU HR2_10.out HB.out)); (case side4 => exact HC2_10.out); (case side5 => exact cX_ (aU HR2_11.out HB.out)); (case side6 => exact HC2_11.out); rintro e w63 ⟨rfl, hb⟩; refine ⟨_, rfl, ?_⟩; have n0_ := mk_ (bX (ZKR HO_11) hb); have n1_ := mk_ (bX (ZKR HO_572002) hb); have n2_ := mk_ (bX (ZKR HO_572010) hb); have n3_ := mk_ (bX (ZKR HO_572011) hb); have n4_ := mk_ (bB_ BK547 hb); have n5_ := mk_ (bB_ BK571 hb); have n6_ := mk_ (aC (Short.hB HB) hb); clear HO_11 HO_572002 HO_572010 HO_572011 BK547 BK571 HB; revert n0_ n1_ n2_ n3_ n4_ n5_ n6_; intro HO_11 HO_572002 HO_572010 HO_572011 BK547 BK571 HB; (try clear hb); obtain ⟨Ao64, co64, eo64⟩ := cU HO_11.out; subst eo64) | ((with_reducible refine aE (f := 19) rfl ?_); refine Short.gL (some 87) Tryz.func19 #[.slice Ao64 t572.length co64, .int .i64 0] (h := ?_); (with_reducible refine (iQ.calls _ _ t572 0 t586 t587 t588 t591 t592 t593 t594 t595 t596 t597 t598 t601 t604 t605 _ ?side1 ?side2 A51.out).mono ?_); (case side1 => exact cX_ (R_reads' HO_11.out).2.2); (case side2 => exact (R_reads' HO_11.out).2.1); rintro e w65 ⟨v589, v599, v602, rfl, ho0, ho1, ho2, hb⟩; refine ⟨_, rfl, ?_⟩; have n0_ := mk_ (bX (ZKR HO_11) hb); have n1_ := mk_ (R_elder' (ZKR HO_572002) (R_base ho0) hb); have n2_ := mk_ (R_elder' (ZKR HO_572010) (R_base ho1) hb); have n3_ := mk_ (R_elder' (ZKR HO_572011) (R_base ho2) hb); have n4_ := mk_ (bW (R_new' ho0 (R_lt (ZKR HO_572002))) (aA (Short.hB HB))); have n5_ := mk_ (bW (R_new' ho1 (R_lt (ZKR HO_572010))) (aA (Short.hB HB))); have n6_ := mk_ (bW (R_new' ho2 (R_lt (ZKR HO_572011))) (aA (Short.hB HB))); have n7_ := mk_ (bB_ BK547 hb); have n8_ := mk_ (bB_ BK571 hb); have n9_ := mk_ (aC (Short.hB HB) hb); clear HO_11 HO_572002 HO_572010 HO_572011 BK547 BK571 HB; revert n0_ n1_ n2_ n3_ n4_ n5_ n6_ n7_ n8_ n9_; intro HO_11 HO_572002 HO_572010 HO_572011 HO590 HO600 HO603 BK547 BK571 HB; (try clear hb ho0); (try clear ho1); (try clear ho2)) | ((with_reducible refine aQ (N := 13) rfl ?_); refine aN ?hg (N := 13) ?hd (cs := #[.int .i64 0, .int .i64 0, .slice none 0 0, .int .i64 0, .int .i64 0, .int .i64 0, .int .i64 0, .int .i64 0, .string (⟨#[]⟩ : ByteArray), .int .i64 0, .slice none 0 0, .slice none 0 0]) (t := 31) ?hr ?_; (case hd => rfl); (case hg => rfl); (case hr => first | (go_simp; done) | (go_simp; rfl)); intro gb606 hg w66 hbox hb; have n0_ := mk_ (bX (ZKR HO_11) hb); have n1_ := mk_ (bX (ZKR HO_572002) hb); have n2_ := mk_ (bX (ZKR HO_572010) hb); have n3_ := mk_ (bX (ZKR HO_572011) hb); have n4_ := mk_ (bX (ZKR HO590) hb); have n5_ := mk_ (bX (ZKR HO600) hb); have n6_ := mk_ (bX (ZKR HO603) hb); have n7_ := mk_ (bB_ BK547 hb); have n8_ := mk_ (bB_ BK571 hb); have n9_ := mk_ (aC (Short.hB HB) hb); have n10_ := mk_ (hbox); have n11_ := mk_ ((by rw [hg]; exact (aA (Short.hB HB)) : w.heap.size ≤ gb606)); have n12_ := mk_ ((by rw [hg]; exact (aA (Short.hB HB)) : w.heap.size ≤ gb606)); have n13_ := mk_ ((by rw [hg]; exact Nat.ne_of_lt (eA (Short.bK BK547)) : gb547 ≠ gb606)); have n14_ := mk_ ((by rw [hg]; exact Nat.ne_of_gt (eA (Short.bK BK547)) : gb606 ≠ gb547)); have n15_ := mk_ ((by rw [hg]; exact Nat.ne_of_lt (eA (Short.bK BK571)) : gb571 ≠ gb606)); have n16_ := mk_ ((by rw [hg]; exact Nat.ne_of_gt (eA (Short.bK BK571)) : gb606 ≠ gb571)); clear HO_11 HO_572002 HO_572010 HO_572011 HO590 HO600 HO603 BK547 BK571 HB; revert n0_ n1_ n2_ n3_ n4_ n5_ n6_ n7_ n8_ n9_ n10_ n11_ n12_ n13_ n14_ n15_ n16_; intro HO_11 HO_572002 HO_572010 HO_572011 HO590 HO600 HO603 BK547 BK571 HB BK606 GW606 GE606 NB547_606 NB606_547 NB571_606 NB606_571; clear hb hbox hg; have hnb67 := NB606_547.out; have hnc67 := NB547_606.out; have hnb68 := NB606_571.out; have hnc68 := NB571_606.out; have hcz_0 := aD BK606.out; have hfz_0 := aX BK606.out; obtain ⟨Ao70, co70, eo70⟩ := cU HO590.out; subst eo70; obtain ⟨Ao71, co71, eo71⟩ := cU HO600.out; subst eo71; obtain ⟨Ao72, co72, eo72⟩ := cU HO603.out; subst eo72; have hcz_0 := aD BK547.out; have hfz_0 := aX BK547.out) | (go_at_call 21; (with_reducible refine (aM.calls kj18 a2_0 a2_1 _ _ l2_2 a2_3 a2_4 a2_5 a2_6 a2_7 a2_8 a2_9 _ _ l2_10 _ _ l2_11 t607 _ ?side1 ?side2 ?side3 ?side4 ?side5 ?side6 A53.out).mono ?_); (case side1 => exact aU HR2_2.out (Short.hB HB)); (case side2 => exact HC2_2.out); (case side3 => exact aU HR2_10.out (Short.hB HB)); (case side4 => exact HC2_10.out); (case side5 => exact aU HR2_11.out (Short.hB HB)); (case side6 => exact HC2_11.out); rintro e w74 ⟨v608, rfl, ho0, hb⟩; have n0_ := mk_ (R_elder' (by (with_reducible repeat (first | apply R_alloc | apply R_drewN | apply R_drew)); exact (R_mono (R_far (p := ⟨gb606, 11, none⟩) (R_far (p := ⟨gb606, 10, none⟩) (R_far (p := ⟨gb606, 9, none⟩) (R_far (p := ⟨gb606, 8, none⟩) (R_far (p := ⟨gb606, 7, none⟩) (R_far (p := ⟨gb606, 6, none⟩) (R_far (p := ⟨gb606, 5, none⟩) (R_far (p := ⟨gb606, 4, none⟩) (R_far (p := ⟨gb606, 3, none⟩) (R_far (p := ⟨gb606, 2, none⟩) (R_far (p := ⟨gb606, 1, none⟩) (R_far (p := ⟨gb606, 0, none⟩) (eS HO_11.out BK606.out z5_) (fun _ hk => hk.2) (.int .i64 t586)) (fun _ hk => hk.2) (.int .i64 t587)) (fun _ hk => hk.2) (.slice Ao70 t588.length co70)) (fun _ hk => hk.2) (.int .i64 t591)) (fun _ hk => hk.2) (.int .i64 t592)) (fun _ hk => hk.2) (.int .i64 t593)) (fun _ hk => hk.2) (.int .i64 t594)) (fun _ hk => hk.2) (.int .i64 t595)) (fun _ hk => hk.2) (.string t596)) (fun _ hk => hk.2) (.int .i64 t597)) (fun _ hk => hk.2) (.slice Ao71 t598.length co71)) (fun _ hk => hk.2) (.slice Ao72 t601.length co72)) (fun _ h_ => h_.1))) (R_base ho0) hb); have n1_ := mk_ (bX (by (with_reducible repeat (first | apply R_alloc | apply R_drewN | apply R_drew)); exact (R_mono (R_far (p := ⟨gb606, 11, none⟩) (R_far (p := ⟨gb606, 10, none⟩) (R_far (p := ⟨gb606, 9, none⟩) (R_far (p := ⟨gb606, 8, none⟩) (R_far (p := ⟨gb606, 7, none⟩) (R_far (p := ⟨gb606, 6, none⟩) (R_far (p := ⟨gb606, 5, none⟩) (R_far (p := ⟨gb606, 4, none⟩) (R_far (p := ⟨gb606, 3, none⟩) (R_far (p := ⟨gb606, 2, none⟩) (R_far (p := ⟨gb606, 1, none⟩) (R_far (p := ⟨gb606, 0, none⟩) (eS HO_572002.out BK606.out z5_) (fun _ hk => hk.2) (.int .i64 t586)) (fun _ hk => hk.2) (.int .i64 t587)) (fun _ hk => hk.2) (.slice Ao70 t588.length co70)) (fun _ hk => hk.2) (.int .i64 t591)) (fun _ hk => hk.2) (.int .i64 t592)) (fun _ hk => hk.2) (.int .i64 t593)) (fun _ hk => hk.2) (.int .i64 t594)) (fun _ hk => hk.2) (.int .i64 t595)) (fun _ hk => hk.2) (.string t596)) (fun _ hk => hk.2) (.int .i64 t597)) (fun _ hk => hk.2) (.slice Ao71 t598.length co71)) (fun _ hk => hk.2) (.slice Ao72 t601.length co72)) (fun _ h_ => h_.1))) hb); have n2_ := mk_ (bX (by (with_reducible repeat (first | apply R_alloc | apply R_drewN | apply R_drew)); exact (R_mono (R_far (p := ⟨gb606, 11, none⟩) (R_far (p := ⟨gb606, 10, none⟩) (R_far (p := ⟨gb606, 9, none⟩) (R_far (p := ⟨gb606, 8, none⟩) (R_far (p := ⟨gb606, 7, none⟩) (R_far (p := ⟨gb606, 6, none⟩) (R_far (p := ⟨gb606, 5, none⟩) (R_far (p := ⟨gb606, 4, none⟩) (R_far (p := ⟨gb606, 3, none⟩) (R_far (p := ⟨gb606, 2, none⟩) (R_far (p := ⟨gb606, 1, none⟩) (R_far (p := ⟨gb606, 0, none⟩) (eS HO_572010.out BK606.out z5_) (fun _ hk => hk.2) (.int .i64 t586)) (fun _ hk => hk.2) (.int .i64 t587)) (fun _ hk => hk.2) (.slice Ao70 t588.length co70)) (fun _ hk => hk.2) (.int .i64 t591)) (fun _ hk => hk.2) (.int .i64 t592)) (fun _ hk => hk.2) (.int .i64 t593)) (fun _ hk => hk.2) (.int .i64 t594)) (fun _ hk => hk.2) (.int .i64 t595)) (fun _ hk => hk.2) (.string t596)) (fun _ hk => hk.2) (.int .i64 t597)) (fun _ hk => hk.2) (.slice Ao71 t598.length co71)) (fun _ hk => hk.2) (.slice Ao72 t601.length co72)) (fun _ h_ => h_.1))) hb); have n3_ := mk_ (bX (by (with_reducible repeat (first | apply R_alloc | apply R_drewN | apply R_drew)); exact (R_mono (R_far (p := ⟨gb606, 11, none⟩) (R_far (p := ⟨gb606, 10, none⟩) (R_far (p := ⟨gb606, 9, none⟩) (R_far (p := ⟨gb606, 8, none⟩) (R_far (p := ⟨gb606, 7, none⟩) (R_far (p := ⟨gb606, 6, none⟩) (R_far (p := ⟨gb606, 5, none⟩) (R_far (p := ⟨gb606, 4, none⟩) (R_far (p := ⟨gb606, 3, none⟩) (R_far (p := ⟨gb606, 2, none⟩) (R_far (p := ⟨gb606, 1, none⟩) (R_far (p := ⟨gb606, 0, none⟩) (eS HO_572011.out BK606.out z5_) (fun _ hk => hk.2) (.int .i64 t586)) (fun _ hk => hk.2) (.int .i64 t587)) (fun _ hk => hk.2) (.slice Ao70 t588.length co70)) (fun _ hk => hk.2) (.int .i64 t591)) (fun _ hk => hk.2) (.int .i64 t592)) (fun _ hk => hk.2) (.int .i64 t593)) (fun _ hk => hk.2) (.int .i64 t594)) (fun _ hk => hk.2) (.int .i64 t595)) (fun _ hk => hk.2) (.string t596)) (fun _ hk => hk.2) (.int .i64 t597)) (fun _ hk => hk.2) (.slice Ao71 t598.length co71)) (fun _ hk => hk.2) (.slice Ao72 t601.length co72)) (fun _ h_ => h_.1))) hb); have n4_ := mk_ (bX (by (with_reducible repeat (first | apply R_alloc | apply R_drewN | apply R_drew)); exact (R_mono (R_far (p := ⟨gb606, 11, none⟩) (R_far (p := ⟨gb606, 10, none⟩) (R_far (p := ⟨gb606, 9, none⟩) (R_far (p := ⟨gb606, 8, none⟩) (R_far (p := ⟨gb606, 7, none⟩) (R_far (p := ⟨gb606, 6, none⟩) (R_far (p := ⟨gb606, 5, none⟩) (R_far (p := ⟨gb606, 4, none⟩) (R_far (p := ⟨gb606, 3, none⟩) (R_far (p := ⟨gb606, 2, none⟩) (R_far (p := ⟨gb606, 1, none⟩) (R_far (p := ⟨gb606, 0, none⟩) (eS HO590.out BK606.out z5_) (fun _ hk => hk.2) (.int .i64 t586)) (fun _ hk => hk.2) (.int .i64 t587)) (fun _ hk => hk.2) (.slice Ao70 t588.length co70)) (fun _ hk => hk.2) (.int .i64 t591)) (fun _ hk => hk.2) (.int .i64 t592)) (fun _ hk => hk.2) (.int .i64 t593)) (fun _ hk => hk.2) (.int .i64 t594)) (fun _ hk => hk.2) (.int .i64 t595)) (fun _ hk => hk.2) (.string t596)) (fun _ hk => hk.2) (.int .i64 t597)) (fun _ hk => hk.2) (.slice Ao71 t598.length co71)) (fun _ hk => hk.2) (.slice Ao72 t601.length co72)) (fun _ h_ => h_.1))) hb); have n5_ := mk_ (bX (by (with_reducible repeat (first | apply R_alloc | apply R_drewN | apply R_drew)); exact (R_mono (R_far (p := ⟨gb606, 11, none⟩) (R_far (p := ⟨gb606, 10, none⟩) (R_far (p := ⟨gb606, 9, none⟩) (R_far (p := ⟨gb606, 8, none⟩) (R_far (p := ⟨gb606, 7, none⟩) (R_far (p := ⟨gb606, 6, none⟩) (R_far (p := ⟨gb606, 5, none⟩) (R_far (p := ⟨gb606, 4, none⟩) (R_far (p := ⟨gb606, 3, none⟩) (R_far (p := ⟨gb606, 2, none⟩) (R_far (p := ⟨gb606, 1, none⟩) (R_far (p := ⟨gb606, 0, none⟩) (eS HO600.out BK606.out z5_) (fun _ hk => hk.2) (.int .i64 t586)) (fun _ hk => hk.2) (.int .i64 t587)) (fun _ hk => hk.2) (.slice Ao70 t588.length co70)) (fun _ hk => hk.2) (.int .i64 t591)) (fun _ hk => hk.2) (.int .i64 t592)) (fun _ hk => hk.2) (.int .i64 t593)) (fun _ hk => hk.2) (.int .i64 t594)) (fun _ hk => hk.2) (.int .i64 t595)) (fun _ hk => hk.2) (.string t596)) (fun _ hk => hk.2) (.int .i64 t597)) (fun _ hk => hk.2) (.slice Ao71 t598.length co71)) (fun _ hk => hk.2) (.slice Ao72 t601.length co72)) (fun _ h_ => h_.1))) hb); have n6_ := mk_ (bX (by (with_reducible repeat (first | apply R_alloc | apply R_drewN | apply R_drew)); exact (R_mono (R_far (p := ⟨gb606, 11, none⟩) (R_far (p := ⟨gb606, 10, none⟩) (R_far (p := ⟨gb606, 9, none⟩) (R_far (p := ⟨gb606, 8, none⟩) (R_far (p := ⟨gb606, 7, none⟩) (R_far (p := ⟨gb606, 6, none⟩) (R_far (p := ⟨gb606, 5, none⟩) (R_far (p := ⟨gb606, 4, none⟩) (R_far (p := ⟨gb606, 3, none⟩) (R_far (p := ⟨gb606, 2, none⟩) (R_far (p := ⟨gb606, 1, none⟩) (R_far (p := ⟨gb606, 0, none⟩) (eS HO603.out BK606.out z5_) (fun _ hk => hk.2) (.int .i64 t586)) (fun _ hk => hk.2) (.int .i64 t587)) (fun _ hk => hk.2) (.slice Ao70 t588.length co70)) (fun _ hk => hk.2) (.int .i64 t591)) (fun _ hk => hk.2) (.int .i64 t592)) (fun _ hk => hk.2) (.int .i64 t593)) (fun _ hk => hk.2) (.int .i64 t594)) (fun _ hk => hk.2) (.int .i64 t595)) (fun _ hk => hk.2) (.string t596)) (fun _ hk => hk.2) (.int .i64 t597)) (fun _ hk => hk.2) (.slice Ao71 t598.length co71)) (fun _ hk => hk.2) (.slice Ao72 t601.length co72)) (fun _ h_ => h_.1))) hb); have n7_ := mk_ (bW (R_new' ho0 (R_lt (by (with_reducible repeat (first | apply R_alloc | apply R_drewN | apply R_drew)); exact (R_mono (R_far (p := ⟨gb606, 11, none⟩) (R_far (p := ⟨gb606, 10, none⟩) (R_far (p := ⟨gb606, 9, none⟩) (R_far (p := ⟨gb606, 8, none⟩) (R_far (p := ⟨gb606, 7, none⟩) (R_far (p := ⟨gb606, 6, none⟩) (R_far (p := ⟨gb606, 5, none⟩) (R_far (p := ⟨gb606, 4, none⟩) (R_far (p := ⟨gb606, 3, none⟩) (R_far (p := ⟨gb606, 2, none⟩) (R_far (p := ⟨gb606, 1, none⟩) (R_far (p := ⟨gb606, 0, none⟩) (eS HO_11.out BK606.out z5_) (fun _ hk => hk.2) (.int .i64 t586)) (fun _ hk => hk.2) (.int .i64 t587)) (fun _ hk => hk.2) (.slice Ao70 t588.length co70)) (fun _ hk => hk.2) (.int .i64 t591)) (fun _ hk => hk.2) (.int .i64 t592)) (fun _ hk => hk.2) (.int .i64 t593)) (fun _ hk => hk.2) (.int .i64 t594)) (fun _ hk => hk.2) (.int .i64 t595)) (fun _ hk => hk.2) (.string t596)) (fun _ hk => hk.2) (.int .i64 t597)) (fun _ hk => hk.2) (.slice Ao71 t598.length co71)) (fun _ hk => hk.2) (.slice Ao72 t601.length co72)) (fun _ h_ => h_.1))))) (aA (Short.hB HB))); have n8_ := mk_ (bE (g := gb547) (o := .cells #[.int .i64 a2_0, .int .i64 a2_1, .slice A2_2 l2_2.length c2_2, .int .i64 a2_3, .int .i64 a2_4, .int .i64 a2_5, .int .i64 a2_6, .int .i64 a2_7, .string a2_8, .int .i64 a2_9, .slice A2_10 l2_10.length c2_10, .slice A2_11 l2_11.length c2_11] 31 (0, 0)) (by (with_reducible repeat (first | refine aH ?_ _ | refine aI ?_ | refine aG ?_ _)); refine dA ?_ NB547_606.out _; (with_reducible repeat (first | refine aH ?_ _ | refine aI ?_ | refine aG ?_ _)); refine dA ?_ NB547_606.out _; (with_reducible repeat (first | refine aH ?_ _ | refine aI ?_ | refine aG ?_ _)); refine dA ?_ NB547_606.out _; (with_reducible repeat (first | refine aH ?_ _ | refine aI ?_ | refine aG ?_ _)); refine dA ?_ NB547_606.out _; (with_reducible repeat (first | refine aH ?_ _ | refine aI ?_ | refine aG ?_ _)); refine dA ?_ NB547_606.out _; (with_reducible repeat (first | refine aH ?_ _ | refine aI ?_ | refine aG ?_ _)); refine dA ?_ NB547_606.out _; (with_reducible repeat (first | refine aH ?_ _ | refine aI ?_ | refine aG ?_ _)); refine dA ?_ NB547_606.out _; (with_reducible repeat (first | refine aH ?_ _ | refine aI ?_ | refine aG ?_ _)); refine dA ?_ NB547_606.out _; (with_reducible repeat (first | refine aH ?_ _ | refine aI ?_ | refine aG ?_ _)); refine dA ?_ NB547_606.out _; (with_reducible repeat (first | refine aH ?_ _ | refine aI ?_ | refine aG ?_ _)); refine dA ?_ NB547_606.out _; (with_reducible repeat (first | refine aH ?_ _ | refine aI ?_ | refine aG ?_ _)); refine dA ?_ NB547_606.out _; (with_reducible repeat (first | refine aH ?_ _ | refine aI ?_ | refine aG ?_ _)); refine dA ?_ NB547_606.out _; (with_reducible repeat (first | refine aH ?_ _ | refine aI ?_ | refine aG ?_ _)); exact BK547.out) hb); have n9_ := mk_ (bE (g := gb571) (o := .cells #[.int .i64 t550, .int .i64 t551, .slice Ao26 t552.length co26, .int .i64 t555, .int .i64 t556, .int .i64 t557, .int .i64 t558, .int .i64 t559, .string t560, .int .i64 t561, .slice Ao27 t562.length co27, .slice Ao28 t565.length co28] 31 (0, 0)) (by (with_reducible repeat (first | refine aH ?_ _ | refine aI ?_ | refine aG ?_ _)); refine dA ?_ NB571_606.out _; (with_reducible repeat (first | refine aH ?_ _ | refine aI ?_ | refine aG ?_ _)); refine dA ?_ NB571_606.out _; (with_reducible repeat (first | refine aH ?_ _ | refine aI ?_ | refine aG ?_ _)); refine dA ?_ NB571_606.out _; (with_reducible repeat (first | refine aH ?_ _ | refine aI ?_ | refine aG ?_ _)); refine dA ?_ NB571_606.out _; (with_reducible repeat (first | refine aH ?_ _ | refine aI ?_ | refine aG ?_ _)); refine dA ?_ NB571_606.out _; (with_reducible repeat (first | refine aH ?_ _ | refine aI ?_ | refine aG ?_ _)); refine dA ?_ NB571_606.out _; (with_reducible repeat (first | refine aH ?_ _ | refine aI ?_ | refine aG ?_ _)); refine dA ?_ NB571_606.out _; (with_reducible repeat (first | refine aH ?_ _ | refine aI ?_ | refine aG ?_ _)); refine dA ?_ NB571_606.out _; (with_reducible repeat (first | refine aH ?_ _ | refine aI ?_ | refine aG ?_ _)); refine dA ?_ NB571_606.out _; (with_reducible repeat (first | refine aH ?_ _ | refine aI ?_ | refine aG ?_ _)); refine dA ?_ NB571_606.out _; (with_reducible repeat (first | refine aH ?_ _ | refine aI ?_ | refine aG ?_ _)); refine dA ?_ NB571_606.out _; (with_reducible repeat (first | refine aH ?_ _ | refine aI ?_ | refine aG ?_ _)); refine dA ?_ NB571_606.out _; (with_reducible repeat (first | refine aH ?_ _ | refine aI ?_ | refine aG ?_ _)); exact BK571.out) hb); have n10_ := mk_ (bE (g := gb606) (o := .cells #[.int .i64 t586, .int .i64 t587, .slice Ao70 t588.length co70, .int .i64 t591, .int .i64 t592, .int .i64 t593, .int .i64 t594, .int .i64 t595, .string t596, .int .i64 t597, .slice Ao71 t598.length co71, .slice Ao72 t601.length co72] 31 (0, 0)) (by (with_reducible repeat (first | refine aH ?_ _ | refine aI ?_ | refine aG ?_ _)); refine bA (cs := #[.int .i64 t586, .int .i64 t587, .slice Ao70 t588.length co70, .int .i64 t591, .int .i64 t592, .int .i64 t593, .int .i64 t594, .int .i64 t595, .string t596, .int .i64 t597, .slice Ao71 t598.length co71, .slice none 0 0]) ?_ 11 _ rfl; (with_reducible repeat (first | refine aH ?_ _ | refine aI ?_ | refine aG ?_ _)); refine bA (cs := #[.int .i64 t586, .int .i64 t587, .slice Ao70 t588.length co70, .int .i64 t591, .int .i64 t592, .int .i64 t593, .int .i64 t594, .int .i64 t595, .string t596, .int .i64 t597, .slice none 0 0, .slice none 0 0]) ?_ 10 _ rfl; (with_reducible repeat (first | refine aH ?_ _ | refine aI ?_ | refine aG ?_ _)); refine bA (cs := #[.int .i64 t586, .int .i64 t587, .slice Ao70 t588.length co70, .int .i64 t591, .int .i64 t592, .int .i64 t593, .int .i64 t594, .int .i64 t595, .string t596, .int .i64 0, .slice none 0 0, .slice none 0 0]) ?_ 9 _ rfl; (with_reducible repeat (first | refine aH ?_ _ | refine aI ?_ | refine aG ?_ _)); refine bA (cs := #[.int .i64 t586, .int .i64 t587, .slice Ao70 t588.length co70, .int .i64 t591, .int .i64 t592, .int .i64 t593, .int .i64 t594, .int .i64 t595, .string (⟨#[]⟩ : ByteArray), .int .i64 0, .slice none 0 0, .slice none 0 0]) ?_ 8 _ rfl; (with_reducible repeat (first | refine aH ?_ _ | refine aI ?_ | refine aG ?_ _)); refine bA (cs := #[.int .i64 t586, .int .i64 t587, .slice Ao70 t588.length co70, .int .i64 t591, .int .i64 t592, .int .i64 t593, .int .i64 t594, .int .i64 0, .string (⟨#[]⟩ : ByteArray), .int .i64 0, .slice none 0 0, .slice none 0 0]) ?_ 7 _ rfl; (with_reducible repeat (first | refine aH ?_ _ | refine aI ?_ | refine aG ?_ _)); refine bA (cs := #[.int .i64 t586, .int .i64 t587, .slice Ao70 t588.length co70, .int .i64 t591, .int .i64 t592, .int .i64 t593, .int .i64 0, .int .i64 0, .string (⟨#[]⟩ : ByteArray), .int .i64 0, .slice none 0 0, .slice none 0 0]) ?_ 6 _ rfl; (with_reducible repeat (first | refine aH ?_ _ | refine aI ?_ | refine aG ?_ _)); refine bA (cs := #[.int .i64 t586, .int .i64 t587, .slice Ao70 t588.length co70, .int .i64 t591, .int .i64 t592, .int .i64 0, .int .i64 0, .int .i64 0, .string (⟨#[]⟩ : ByteArray), .int .i64 0, .slice none 0 0, .slice none 0 0]) ?_ 5 _ rfl; (with_reducible repeat (first | refine aH ?_ _ | refine aI ?_ | refine aG ?_ _)); refine bA (cs := #[.int .i64 t586, .int .i64 t587, .slice Ao70 t588.length co70, .int .i64 t591, .int .i64 0, .int .i64 0, .int .i64 0, .int .i64 0, .string (⟨#[]⟩ : ByteArray), .int .i64 0, .slice none 0 0, .slice none 0 0]) ?_ 4 _ rfl; (with_reducible repeat (first | refine aH ?_ _ | refine aI ?_ | refine aG ?_ _)); refine bA (cs := #[.int .i64 t586, .int .i64 t587, .slice Ao70 t588.length co70, .int .i64 0, .int .i64 0, .int .i64 0, .int .i64 0, .int .i64 0, .string (⟨#[]⟩ : ByteArray), .int .i64 0, .slice none 0 0, .slice none 0 0]) ?_ 3 _ rfl; (with_reducible repeat (first | refine aH ?_ _ | refine aI ?_ | refine aG ?_ _)); refine bA (cs := #[.int .i64 t586, .int .i64 t587, .slice none 0 0, .int .i64 0, .int .i64 0, .int .i64 0, .int .i64 0, .int .i64 0, .string (⟨#[]⟩ : ByteArray), .int .i64 0, .slice none 0 0, .slice none 0 0]) ?_ 2 _ rfl; (with_reducible repeat (first | refine aH ?_ _ | refine aI ?_ | refine aG ?_ _)); refine bA (cs := #[.int .i64 t586, .int .i64 0, .slice none 0 0, .int .i64 0, .int .i64 0, .int .i64 0, .int .i64 0, .int .i64 0, .string (⟨#[]⟩ : ByteArray), .int .i64 0, .slice none 0 0, .slice none 0 0]) ?_ 1 _ rfl; (with_reducible repeat (first | refine aH ?_ _ | refine aI ?_ | refine aG ?_ _)); refine bA (cs := #[.int .i64 0, .int .i64 0, .slice none 0 0, .int .i64 0, .int .i64 0, .int .i64 0, .int .i64 0, .int .i64 0, .string (⟨#[]⟩ : ByteArray), .int .i64 0, .slice none 0 0, .slice none 0 0]) ?_ 0 _ rfl; (with_reducible repeat (first | refine aH ?_ _ | refine aI ?_ | refine aG ?_ _)); exact BK606.out) hb); have n11_ := mk_ (aC (Short.hB HB) hb); clear HO_11 HO_572002 HO_572010 HO_572011 HO590 HO600 HO603 BK547 BK571 BK606 HB; revert n0_ n1_ n2_ n3_ n4_ n5_ n6_ n7_ n8_ n9_ n10_ n11_; intro HO_11 HO_572002 HO_572010 HO_572011 HO590 HO600 HO603 HO609 BK547 BK571 BK606 HB; (try clear hb); (try clear hb2); (try clear hk); (try clear hi); (try clear ho0); obtain ⟨Ao75, co75, eo75⟩ := cU HO609.out; subst eo75) | (go_at_call 20; (with_reducible refine (cS.calls kj18 _ _ t572 _ _ t607 true _ ?side1 ?side2 ?side3 ?side4 A54.out).mono ?_); (case side1 => exact cX_ (R_reads' HO_11.out).2.2); (case side2 => exact (R_reads' HO_11.out).2.1); (case side3 => exact cX_ (R_reads' HO609.out).2.2); (case side4 => exact (R_reads' HO609.out).2.1); rintro e w' ⟨rfl, ⟨nd, rfl⟩⟩; have hcz_0 := aD BK606.out; have hfz_0 := aX BK606.out; have hcz_0 := aD BK547.out; have hfz_0 := aX BK547.out) | (go_at_call 15; (with_reducible refine (eQ.calls kj18 t586 t587 _ _ t588 t591 t592 t593 t594 t595 t596 t597 _ _ t598 _ _ t601 a2_0 a2_1 _ _ l2_2 a2_3 a2_4 a2_5 a2_6 a2_7 a2_8 a2_9 _ _ l2_10 _ _ l2_11 true _ ?side1 ?side2 ?side3 ?side4 ?side5 ?side6 ?side7 ?side8 ?side9 ?side10 ?side11 ?side12 A58.out).mono ?_); (case side1 => exact cX_ (R_reads' HO590.out).2.2); (case side2 => exact (R_reads' HO590.out).2.1); (case side3 => exact cX_ (R_reads' HO600.out).2.2); (case side4 => exact (R_reads' HO600.out).2.1); (case side5 => exact cX_ (R_reads' HO603.out).2.2); (case side6 => exact (R_reads' HO603.out).2.1); (case side7 => exact cX_ (aU HR2_2.out (Short.hB HB))); (case side8 => exact HC2_2.out); (case side9 => exact cX_ (aU HR2_10.out (Short.hB HB))); (case side10 => exact HC2_10.out); (case side11 => exact cX_ (aU HR2_11.out (Short.hB HB))); (case side12 => exact HC2_11.out); rintro e w78 ⟨rfl, hb⟩; have n0_ := mk_ (bX (ZKR HO_11) hb); have n1_ := mk_ (bX (ZKR HO_572002) hb); have n2_ := mk_ (bX (ZKR HO_572010) hb); have n3_ := mk_ (bX (ZKR HO_572011) hb); have n4_ := mk_ (bX (ZKR HO590) hb); have n5_ := mk_ (bX (ZKR HO600) hb); have n6_ := mk_ (bX (ZKR HO603) hb); have n7_ := mk_ (bX (ZKR HO609) hb); have n8_ := mk_ (bB_ BK547 hb); have n9_ := mk_ (bB_ BK571 hb); have n10_ := mk_ (bB_ BK606 hb); have n11_ := mk_ (aC (Short.hB HB) hb); clear HO_11 HO_572002 HO_572010 HO_572011 HO590 HO600 HO603 HO609 BK547 BK571 BK606 HB; revert n0_ n1_ n2_ n3_ n4_ n5_ n6_ n7_ n8_ n9_ n10_ n11_; intro HO_11 HO_572002 HO_572010 HO_572011 HO590 HO600 HO603 HO609 BK547 BK571 BK606 HB; (try clear hb); (try clear hb2); (try clear hk); (try clear hi)) | (go_at_call 18; (with_reducible refine (eU.calls  t612 _ A60.out).mono ?_); rintro e w79 ⟨rfl, hb⟩; have n8_ := mk_ (aC (Short.hB HB) hb); clear HB; have HB := n8_; clear n8_ hb))
     go_ret
     exact ⟨q0, Short.hB HB⟩
def aJ.WF53 (x : S53) : Prop := (x.f0.length ≤ maxLen ∧ ∀ x0_ ∈ x.f0, (Lit.int .i64 x0_).wf = true)
def aJ.WF24 (x : S24) : Prop := (Lit.int .i64 x.f0).wf = true ∧ (Lit.int .i64 x.f1).wf = true
def aJ.WF27 (x : S27) : Prop := (Lit.int .i64 x.f0).wf = true ∧ (Lit.int .i64 x.f1).wf = true ∧ (Lit.int .i64 x.f2).wf = true
def aJ.WF102 (x : S102) : Prop := (Lit.int .i64 x.f0).wf = true ∧ (Lit.int .i64 x.f1).wf = true ∧ x.f2.size ≤ maxLen
def aJ.WF31 (x : S31) : Prop := aJ.WF24 x.f0 ∧ (x.f1.length ≤ maxLen ∧ ∀ x0_ ∈ x.f1, (Lit.int .i64 x0_).wf = true) ∧ aJ.WF27 x.f2 ∧ (Lit.int .i64 x.f3).wf = true ∧ (Lit.int .i64 x.f4).wf = true ∧ x.f5.size ≤ maxLen ∧ (Lit.int .i64 x.f6).wf = true ∧ (x.f7.length ≤ maxLen ∧ ∀ x0_ ∈ x.f7, aJ.WF102 x0_) ∧ (x.f8.length ≤ maxLen ∧ ∀ x0_ ∈ x.f8, aJ.WF24 x0_)
def aJ.Pure : Prop := ∀ (x0 : Int) (x1 : List (S53)) (x2 : S31) (x3 : ByteArray), (Lit.int .i64 x0).wf = true → (x1.length ≤ maxLen ∧ ∀ x0_ ∈ x1, aJ.WF53 x0_) → aJ.WF31 x2 → x3.size ≤ maxLen → ∃ k, aJ.f k x0 x1 x2.f0.f0 x2.f0.f1 x2.f1 x2.f2.f0 x2.f2.f1 x2.f2.f2 x2.f3 x2.f4 x2.f5 x2.f6 x2.f7 x2.f8 x3 = some true
end Go.Proofs.YtjnjfogfpmeacaaGreat.PAll
end
section
namespace Go.Proofs.YtjnjfogfpmeacaaGreat.Ops
open Go.RowKit PAll Plain PrintWords PrintMore ZipT PrintWords.Kd PrintMore.Kd
set_option linter.unusedVariables false
set_option linter.unusedSimpArgs false
def heavyOp (x : Ox) : Bool := decide ((x.f1.length : Int) > 30) || decide ((x.f5.size : Int) > 100) || heavy x.f7 || decide ((x.f8.length : Int) > 100)
theorem heavy_step (k : Nat) (l : List Ox) (i : Int) (x : Ox) (hi : 0 ≤ i) (hl : i < (l.length : Int)) (hx : dF l i = x) (hk : 60 ≤ k) :
  cE.l0 (k + 1) l i = if heavyOp x = true then some true else cE.l0 k l (wrap64 (i + 1)) := by
 rw [cE.l0]
 rw [if_pos hl, if_pos hi, hx]
 unfold heavyOp
 by_cases h1 : (x.f1.length : Int) > 30
 ·
  rw [if_pos h1, decide_eq_true h1]; simp
 rw [if_neg h1, decide_eq_false h1, Bool.false_or]
 by_cases h2 : (x.f5.size : Int) > 100
 ·
  rw [if_pos h2, decide_eq_true h2]; simp
 rw [if_neg h2, decide_eq_false h2, Bool.false_or, heavy_eq _ _ hk, Option.bind_some]
 cases heavy x.f7
 ·
  rw [if_neg z5_, Bool.false_or]
  by_cases h3 : (x.f8.length : Int) > 100
  ·
   rw [if_pos h3, decide_eq_true h3, if_pos rfl]
  rw [if_neg h3, decide_eq_false h3, if_neg z5_]
 ·
  rw [if_pos rfl]; simp
theorem heavy1_eq (x : Ox) : eJ.f x.f0.f0 x.f0.f1 x.f1 x.f2.f0 x.f2.f1 x.f2.f2 x.f3 x.f4 x.f5 x.f6 x.f7 x.f8 = some (heavyOp x) := by
 show cE.f 500 [x] = _
 unfold cE.f
 rw [if_neg z6_, heavy_step 499 [x] 0 x z3_ z6_ rfl z3_]
 cases h : heavyOp x
 ·
  rw [if_neg z5_, w64 z3_ z3_, show (499 : Nat) = 498 + 1 from rfl, cE.l0, if_neg z6_]
 ·
  rw [if_pos rfl]
theorem light_small {x : Ox} (h : heavyOp x = false) : x.f1.length ≤ 30 ∧ x.f7.length ≤ 40 ∧ x.f8.length ≤ 100 ∧ x.f5.size ≤ 100 := by
 unfold heavyOp at h
 simp only [Bool.or_eq_false_iff, decide_eq_false_iff_not] at h
 have := heavy_len (show ¬ heavy x.f7 = true by rw [h.1.2]; decide)
 omega
theorem jF {x : Ox} (h : heavyOp x = false) : opSmall x := by
 have := light_small h
 exact ⟨by omega, by omega, by omega⟩
theorem jL {α : Type} {f : α → List Int} {n : Nat} (h : ∀ x, (f x).length = n) : ∀ l : List α, (l.flatMap f).length = n * l.length
 | [] => rfl
 | x :: l => by rw [List.flatMap_cons, List.length_append, h, jL h l, List.length_cons, Nat.mul_succ]; omega
theorem opB_length (x : Ox) : (opB x).length = 20 + 4 * x.f1.length + x.f5.size + (rowB x.f7).length + 1 + 5 * x.f8.length := by
 have h1 : (x.f1.flatMap fun n => big n 4).length = 4 * x.f1.length := jL (fun n => cD _ _) _
 have h2 : (x.f8.flatMap dotB).length = 5 * x.f8.length := jL (fun d => by simp [dotB, cD]) _
 simp only [opB, dotB, numsB, stampB, dotsB, encT, List.length_append, cD, h1, h2, List.length_cons, dN]
 omega
end Go.Proofs.YtjnjfogfpmeacaaGreat.Ops
end
section
namespace Go.Proofs.YtjnjfogfpmeacaaGreat.Ops
open Go.RowKit PAll Plain PrintWords PrintMore ZipT PrintWords.Kd PrintMore.Kd
set_option linter.unusedVariables false
set_option linter.unusedSimpArgs false
def hvFo (f : List Tb) : Bool := decide (f.length > 30) || f.any fun t => decide (t.f0.length > 30)
theorem hvFo_l0 (f : List Tb) (hl : f.length ≤ 30) (m : List Tb) : ∀ (k i : Nat), f.drop i = m → m.length < k →
  bO.l0 k f (i : Int) = some (m.any fun t => decide (t.f0.length > 30)) := by
 induction m with
 | nil =>
  intro k i h hk
  obtain ⟨k, rfl⟩ : ∃ j, k = j + 1 := ⟨k - 1, by omega⟩
  have := List.drop_eq_nil_iff.1 h
  simp only [bO.l0]
  rw [if_neg z3_]; rfl
 | cons v m ih =>
  intro k i h hk
  obtain ⟨k, rfl⟩ : ∃ j, k = j + 1 := ⟨k - 1, by omega⟩
  have h2 := dO h
  rw [List.length_cons] at hk
  simp only [bO.l0]
  rw [if_pos z3_, if_pos z3_, iV h, List.any_cons]
  by_cases c : v.f0.length > 30
  ·
   rw [if_pos z3_, decide_eq_true c]; rfl
  rw [if_neg z3_, decide_eq_false c, Bool.false_or, w64 z3_ z3_]
  exact ih k (i + 1) (cM h) z3_
theorem hvFo_eq (k : Nat) (f : List Tb) (hk : 40 ≤ k) : bO.f k f = some (hvFo f) := by
 unfold bO.f hvFo
 by_cases c : f.length > 30
 ·
  rw [if_pos z3_, decide_eq_true c]; rfl
 rw [if_neg z3_, decide_eq_false c, Bool.false_or]
 exact hvFo_l0 f z3_ f k 0 rfl z3_
theorem hvFo_len {f : List Tb} (h : hvFo f = false) : f.length ≤ 30 ∧ ∀ t ∈ f, t.f0.length ≤ 30 := by
 unfold hvFo at h
 rw [Bool.or_eq_false_iff, decide_eq_false_iff_not, List.any_eq_false] at h
 exact ⟨by omega, fun t ht => by have := h.2 t ht; rw [decide_eq_true_eq] at this; omega⟩
end Go.Proofs.YtjnjfogfpmeacaaGreat.Ops
end
section
namespace Go.Proofs.YtjnjfogfpmeacaaGreat.Pure
open Go.RowKit PAll PrintWords PrintLast Plain Ops ZipT PrintWords.Kd PrintMore.Kd
set_option linter.unusedVariables false
set_option linter.unusedSimpArgs false
theorem rcheck_eq (k : Nat) (n : Int) (f : List Tb) (x : Ox) (hx : x.f1.length ≤ 1000 ∧ x.f7.length ≤ 1000 ∧ x.f8.length ≤ 1000) (hl : f.length ≤ 30) (hf : f.length ≤ 1000 ∧ ∀ t ∈ f, t.f0.length ≤ 1000) (hk : 1100 ≤ k) :
  fE.f k n f x.f0.f0 x.f0.f1 x.f1 x.f2.f0 x.f2.f1 x.f2.f2 x.f3 x.f4 x.f5 x.f6 x.f7 x.f8 = some (checkE n f x) := by
 unfold fE.f checkE
 rw [rforms_eq k f z3_ z3_, Option.bind_some]
 by_cases h0 : formsE f = 0
 rotate_left
 ·
  rw [if_neg h0, if_pos (show formsE f ≠ 0 from h0)]
 rw [if_pos h0, if_neg (show ¬ formsE f ≠ 0 from fun e => e h0)]
 by_cases h1 : n < 1
 ·
  rw [if_pos h1, if_pos (.inl h1)]
 rw [if_neg h1]
 by_cases h2 : n > 5
 ·
  rw [if_pos h2, if_pos (.inr h2)]
 rw [if_neg h2, if_neg z3_]
 have : eT.f n f x.f0.f0 x.f0.f1 x.f1 x.f2.f0 x.f2.f1 x.f2.f2 x.f3 x.f4 x.f5 x.f6 x.f7 x.f8 = some (rightB n f x) := by
  unfold eT.f
  exact if_pos ⟨⟨by omega, by omega⟩, hx, hf⟩
 rw [this, Option.bind_some]
 cases rightB n f x
 ·
  rfl
 ·
  rfl
theorem twin_ints (l : List Int) (h : l.length ≤ 1000) : dK.f l = some l := by unfold dK.f; rw [if_pos (by show 0 + _ < _; omega)]; rfl
theorem twin_op (x : Ox) (hx : x.f1.length ≤ 1000 ∧ x.f7.length ≤ 1000 ∧ x.f8.length ≤ 1000) : cQ.f x.f0.f0 x.f0.f1 x.f1 x.f2.f0 x.f2.f1 x.f2.f2 x.f3 x.f4 x.f5 x.f6 x.f7 x.f8 = some (x.f0.f0, x.f0.f1, x.f1, x.f2.f0, x.f2.f1, x.f2.f2, x.f3, x.f4, x.f5, x.f6, x.f7, x.f8) := by
 have h2 : eH.f x.f7 = some x.f7 := by unfold eH.f; rw [if_pos (by show 0 + _ < _; omega)]; rfl
 unfold cQ.f
 rw [twin_ints _ z3_, Option.bind_some, h2, Option.bind_some, if_pos (by show 0 + _ < _; omega)]; rfl
theorem rdF_drop {l : List Tb} {i : Nat} {v : Tb} {m : List Tb} (h : l.drop i = v :: m) : cP l (i : Int) = v := by
 show l.getD ((i : Int).toNat) _ = v
 rw [Int.toNat_natCast, List.getD_eq_getElem?_getD]
 have : l[i]? = (l.drop i)[0]? := by rw [List.getElem?_drop]; simp
 rw [this, h]; rfl
theorem twinF_l0 (f : List Tb) (hf : f.length ≤ 1000 ∧ ∀ t ∈ f, t.f0.length ≤ 1000) (m : List Tb) : ∀ (k i : Nat) (acc : List Tb), f.drop i = m → acc.length ≤ i → m.length < k →
  bY.l0 k f acc (i : Int) = some (acc ++ m) := by
 induction m with
 | nil =>
  intro k i acc h ha hk
  obtain ⟨k, rfl⟩ : ∃ j, k = j + 1 := ⟨k - 1, by omega⟩
  have := List.drop_eq_nil_iff.1 h
  simp only [bY.l0]
  rw [if_neg z3_, List.append_nil]
 | cons v m ih =>
  intro k i acc h ha hk
  obtain ⟨k, rfl⟩ : ∃ j, k = j + 1 := ⟨k - 1, by omega⟩
  have hi := dO h
  rw [List.length_cons] at hk
  have hv : v ∈ f := List.mem_of_mem_drop (by rw [h]; exact List.mem_cons_self ..)
  simp only [bY.l0]
  rw [if_pos z3_, if_pos z3_, rdF_drop h, twin_ints _ (hf.2 v hv), Option.bind_some, if_pos z3_, w64 z3_ z3_]
  have := ih k (i + 1) (acc ++ [v]) (cM h) (by rw [List.length_append, List.length_singleton]; omega) z3_
  rw [List.append_assoc] at this
  exact this
theorem twinF_eq (k : Nat) (f : List Tb) (hf : f.length ≤ 1000 ∧ ∀ t ∈ f, t.f0.length ≤ 1000) (hk : 1100 ≤ k) : bY.f k f = some f := by
 unfold bY.f
 exact twinF_l0 f hf f k 0 [] rfl (Nat.le_refl _) z3_
theorem ints_l0 (l : List Int) (hl : l.length ≤ 1000) (m : List Int) : ∀ (k i : Nat), l.drop i = m → m.length < k → bR.l0 k l l (i : Int) = some true := by
 induction m with
 | nil =>
  intro k i h hk
  obtain ⟨k, rfl⟩ : ∃ j, k = j + 1 := ⟨k - 1, by omega⟩
  have := List.drop_eq_nil_iff.1 h
  simp only [bR.l0]
  rw [if_neg z3_]
 | cons v m ih =>
  intro k i h hk
  obtain ⟨k, rfl⟩ : ∃ j, k = j + 1 := ⟨k - 1, by omega⟩
  have hi := dO h
  rw [List.length_cons] at hk
  simp only [bR.l0]
  rw [if_pos z3_, if_pos z3_, if_pos z3_, if_pos trivial, w64 z3_ z3_]
  exact ih k (i + 1) (cM h) z3_
theorem ints_same (k : Nat) (l : List Int) (hl : l.length ≤ 1000) (hk : 1001 ≤ k) : bR.f k l l = some true := by
 unfold bR.f
 rw [if_pos rfl]
 exact ints_l0 l hl l k 0 rfl z3_
theorem keepF_l0 (f : List Tb) (hf : f.length ≤ 100 ∧ ∀ t ∈ f, t.f0.length ≤ 1000) (m : List Tb) : ∀ (k i : Nat), f.drop i = m → m.length + 1001 < k → cT.l0 k f f (i : Int) = some true := by
 induction m with
 | nil =>
  intro k i h hk
  obtain ⟨k, rfl⟩ : ∃ j, k = j + 1 := ⟨k - 1, by omega⟩
  have := List.drop_eq_nil_iff.1 h
  simp only [cT.l0]
  rw [if_neg z3_]
 | cons v m ih =>
  intro k i h hk
  obtain ⟨k, rfl⟩ : ∃ j, k = j + 1 := ⟨k - 1, by omega⟩
  have hi := dO h
  rw [List.length_cons] at hk
  have hv : v ∈ f := List.mem_of_mem_drop (by rw [h]; exact List.mem_cons_self ..)
  simp only [cT.l0]
  rw [if_pos z3_, if_pos z3_, if_pos z3_, rdF_drop h, ints_same k _ (hf.2 v hv) z3_, Option.bind_some, if_pos rfl, w64 z3_ z3_]
  exact ih k (i + 1) (cM h) z3_
theorem keepF_eq (k : Nat) (f : List Tb) (hf : f.length ≤ 100 ∧ ∀ t ∈ f, t.f0.length ≤ 1000) (hk : 1200 ≤ k) : cT.f k f f = some true := by
 unfold cT.f
 rw [if_pos rfl]
 exact keepF_l0 f hf f k 0 rfl z3_
theorem big1 (n : Int) : big n 1 = [n % 256] := by simp [big]
theorem dotBytes_eq (k : Nat) (d : Dt) (hk : 10 ≤ k) : bS.f k d.f0 d.f1 = some (dotB d) := by
 unfold bS.f dotB
 have b4 : bB.f k d.f1 4 = some (big d.f1 4) := be_eq k d.f1 4 z3_ hk
 rw [Option.bind_some, b4, Option.bind_some, if_pos (by rw [cD]; simp), big1]
theorem vecB_l0 (l : List Int) (hl : l.length ≤ 1000) (m : List Int) : ∀ (k i : Nat) (acc : List Int), l.drop i = m → acc.length ≤ 4 * i + 1 → m.length + 12 ≤ k →
  bJ.l0 k l acc (i : Int) = some (acc ++ m.flatMap fun n => big n 4) := by
 induction m with
 | nil =>
  intro k i acc h ha hk
  obtain ⟨k, rfl⟩ : ∃ j, k = j + 1 := ⟨k - 1, by omega⟩
  have := dI h
  simp only [bJ.l0]
  rw [if_neg z3_]; simp
 | cons v m ih =>
  intro k i acc h ha hk
  obtain ⟨k, rfl⟩ : ∃ j, k = j + 1 := ⟨k - 1, by omega⟩
  have hi := dO h
  rw [List.length_cons] at hk
  have b4 : bB.f k v 4 = some (big v 4) := be_eq k v 4 z3_ z3_
  simp only [bJ.l0]
  rw [if_pos z3_, if_pos z3_, gB h, b4, Option.bind_some, if_pos (by rw [cD]; omega), w64 z3_ z3_]
  have := ih k (i + 1) (acc ++ big v 4) (cM h) (by rw [List.length_append, cD]; omega) z3_
  rw [List.append_assoc] at this
  rw [List.flatMap_cons]
  exact this
theorem vecB_eq (k : Nat) (l : List Int) (hl : l.length ≤ 1000) (hk : 1100 ≤ k) : bJ.f k l = some (numsB l) := by
 unfold bJ.f numsB
 rw [big1]
 exact vecB_l0 l hl l k 0 _ rfl z6_ z3_
theorem stampB_eq (k : Nat) (t : St) (hk : 10 ≤ k) : bP.f k t.f0 t.f1 t.f2 = some (stampB t) := by
 unfold bP.f stampB
 have b6 : bB.f k t.f0 6 = some (big t.f0 6) := be_eq k t.f0 6 z3_ hk
 have b3 : bB.f k t.f1 3 = some (big t.f1 3) := be_eq k t.f1 3 z3_ hk
 rw [b6, Option.bind_some, b3, Option.bind_some, if_pos (by rw [cD, cD]; omega), Option.bind_some, Option.bind_some, if_pos (by rw [List.length_append, cD, cD]; simp), big1]
theorem opBytes_l0 (x : Ox) (hl : x.f8.length ≤ 100) (m : List Dt) : ∀ (k i : Nat) (acc : List Int), x.f8.drop i = m → acc.length ≤ 5 * i + 3000 → m.length + 12 ≤ k →
  aM.l0 k acc (i : Int) x.f0.f0 x.f0.f1 x.f1 x.f2.f0 x.f2.f1 x.f2.f2 x.f3 x.f4 x.f5 x.f6 x.f7 x.f8 = some (acc ++ m.flatMap dotB) := by
 induction m with
 | nil =>
  intro k i acc h ha hk
  obtain ⟨k, rfl⟩ : ∃ j, k = j + 1 := ⟨k - 1, by omega⟩
  have := List.drop_eq_nil_iff.1 h
  simp only [aM.l0]
  rw [if_neg z3_]; simp
 | cons v m ih =>
  intro k i acc h ha hk
  obtain ⟨k, rfl⟩ : ∃ j, k = j + 1 := ⟨k - 1, by omega⟩
  have hi := dO h
  rw [List.length_cons] at hk
  have hd : (dotB v).length = 5 := by unfold dotB; rw [List.length_append, cD, cD]
  simp only [aM.l0]
  rw [if_pos z3_, if_pos z3_, iN h, dotBytes_eq k v z3_, Option.bind_some, if_pos z3_, w64 z3_ z3_]
  have := ih k (i + 1) (acc ++ dotB v) (cM h) (by rw [List.length_append]; omega) z3_
  rw [List.append_assoc] at this
  rw [List.flatMap_cons]
  exact this
theorem opBytes_f (k : Nat) (x : Ox) (h : opFit x) (hk : 1200 ≤ k) : aM.f k x.f0.f0 x.f0.f1 x.f1 x.f2.f0 x.f2.f1 x.f2.f2 x.f3 x.f4 x.f5 x.f6 x.f7 x.f8 = some (opB x) := by
 obtain ⟨⟨⟨⟨⟨⟨⟨⟨q0, q1⟩, q2⟩, q3⟩, q4⟩, q5⟩, q6⟩, q7⟩, q8⟩ := id h
 have l8 := q8.1
 have l2 := q2.1
 have hd : (dotB x.f0).length = 5 := by unfold dotB; rw [List.length_append, cD, cD]
 have hs : (stampB x.f2).length = 10 := by unfold stampB; rw [List.length_append, List.length_append, cD, cD, cD]
 have hv : (numsB x.f1).length ≤ 1000 := by unfold numsB; rw [List.length_append, cD, jL (fun n => cD _ _)]; omega
 have hr : (rowB x.f7).length ≤ 1000 := by have := (opB_len x h).2; rw [opB_length] at this; omega
 have hb : (bytesOf x.f5).length = x.f5.size := dN _
 have hz : ((x.f5.size : Int)) % 256 = x.f5.size := Int.emod_eq_of_lt z3_ z3_
 unfold aM.f
 rw [Option.bind_some, dotBytes_eq k x.f0 z3_, Option.bind_some, if_pos (by simp only [List.length_cons, List.length_nil]; omega), Option.bind_some, vecB_eq k _ z3_ z3_, Option.bind_some,
  if_pos (by simp only [List.length_append, List.length_cons, List.length_nil]; omega), Option.bind_some, stampB_eq k _ z3_, Option.bind_some, if_pos (by simp only [List.length_append, List.length_cons, List.length_nil]; omega), Option.bind_some, Option.bind_some,
  if_pos (by simp only [List.length_append, List.length_cons, List.length_nil]; omega), Option.bind_some, if_pos (by simp only [List.length_append, List.length_cons, List.length_nil]; omega), Option.bind_some,
  if_pos (by simp only [List.length_append, List.length_cons, List.length_nil]; omega), Option.bind_some, rrowBytes_eq k _ q7 z3_, Option.bind_some, if_pos (by simp only [List.length_append, List.length_cons, List.length_nil]; omega), Option.bind_some,
  if_pos (by simp only [List.length_append, List.length_cons, List.length_nil]; omega)]
 refine (opBytes_l0 x z3_ x.f8 k 0 _ rfl (by simp only [List.length_append, List.length_cons, List.length_nil]; omega) z3_).trans ?_
 congr 1
 unfold opB dotsB encT
 rw [big1, big1, big1, big1, hz]
 simp only [List.append_assoc, List.cons_append, List.nil_append]
set_option maxHeartbeats 1000000 in
theorem OpExact : aJ.Pure := by
 intro n f x s hn hf hx hs
 refine ⟨1305, ?_⟩
 have hT : aJ.j0 (1304 + 1) n f s true x.f0.f0 x.f0.f1 x.f1 x.f2.f0 x.f2.f1 x.f2.f2 x.f3 x.f4 x.f5 x.f6 x.f7 x.f8 = some true := by simp only [aJ.j0, if_true]
 unfold aJ.f
 rw [hvFo_eq _ _ z3_, Option.bind_some]
 cases hv : hvFo f
 rotate_left
 ·
  rw [if_pos rfl]; exact hT
 rw [if_neg z5_, heavy1_eq, Option.bind_some]
 cases hh : heavyOp x
 rotate_left
 ·
  rw [if_pos rfl]; exact hT
 rw [if_neg z5_]
 have hlf := hvFo_len hv
 have hxs := light_small hh
 have hbx := bytes_f x (jF hh)
 have hof := opFits_eq x (jF hh)
 have hfs : f.length ≤ 1000 ∧ ∀ t ∈ f, t.f0.length ≤ 1000 := ⟨by omega, fun t ht => by have := hlf.2 t ht; omega⟩
 by_cases h0 : (s.size : Int) > 100
 ·
  rw [decide_eq_true h0]; exact hT
 rw [decide_eq_false h0]
 have hw := wakes7_eq
 show aJ.j0 (1304 + 1) _ _ _ _ _ _ _ _ _ _ _ _ _ _ _ _ = _
 simp only [aJ.j0]
 rw [if_neg z5_, twin_op x z3_, Option.bind_some, twinF_eq _ f hfs z3_, Option.bind_some]
 dsimp only
 rw [hbx, Option.bind_some, forms_eq _ _ hfs.1 z3_, Option.bind_some, rforms_eq _ _ z3_ z3_, Option.bind_some, if_pos rfl, key_eq, Option.bind_some, rkey_eq, Option.bind_some, if_neg z6_,
  check_op_eq _ n f x z3_ hfs z3_, Option.bind_some, rcheck_eq _ n f x z3_ hlf.1 hfs z3_, Option.bind_some, if_pos rfl, keepOp_eq _ x x z3_ z3_ z3_ z3_, Option.bind_some, if_pos (decide_eq_true rfl),
  keepF_eq _ f ⟨by omega, hfs.2⟩ z3_, Option.bind_some]
 show aJ.j1 (1303 + 1) _ _ _ _ _ _ _ _ _ _ _ _ _ _ _ = _
 simp only [aJ.j1]
 rw [if_neg z5_, hof, Option.bind_some, opBytes_eq]
 by_cases fx : opFit x
 rotate_left
 ·
  rw [decide_eq_false fx, if_neg z5_, if_neg fx]
  dsimp only
  rw [if_pos rfl, if_pos z6_, hw]
  rfl
 rw [decide_eq_true fx, if_pos rfl, if_pos fx]
 have hl := opB_len _ fx
 dsimp only
 rw [read_f _ _ (opB_bytes fx) z3_, Option.bind_some, if_pos rfl, opBytes_f _ x fx z3_, Option.bind_some, same_eq _ _ _ z3_ z3_, Option.bind_some, if_pos (decide_eq_true rfl), read_back fx]
 dsimp only
 rw [if_pos rfl, if_pos rfl, keepOp_eq _ x x z3_ z3_ z3_ z3_, Option.bind_some, if_pos (decide_eq_true rfl), hw]
 rfl
end Go.Proofs.YtjnjfogfpmeacaaGreat.Pure
end
