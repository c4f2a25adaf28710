-- Put together by a program of this session (wip/slice2.py) out of the seat's texts.
import Derived.Test.YtimbbaoodjhdoaaZPEp6
import Derived.Test.YtimbbaoodjhdoaaZPEq4

set_option maxHeartbeats 8000000
set_option maxRecDepth 100000
open Go.Proofs.YtimbbaoodjhdoaaW Go.Proofs.Ytimbbaoodjhdoaa
section
namespace Go.Proofs.Ytimbbaoodjhdoaa.Plan
open Go.RowKit PAll Plain PrintWords PrintLast PrintMore ZipT PrintWords.Kd PrintMore.Kd
set_option linter.unusedVariables false
set_option linter.unusedSimpArgs false
set_option maxHeartbeats 4000000 in
theorem store14 {w0 W : World} {r : Nat} {x0 x1 x2 x3 x4 x5 x6 x7 x8 x9 x10 x11 x12 x13 : Value} {t : TypeId} (hb : Below w0.heap.size w0 W) (hr : w0.heap.size ≤ r) (h : W.heap[r]? = some (.cells #[x0, x1, x2, x3, x4, x5, x6, x7, x8, x9, x10, x11, x12, x13] t (0, 0))) (y0 y1 y2 y3 y4 y5 y6 y7 y8 y9 y10 y11 y12 y13 : Value) :
  ∃ V, V = ((((((((((((((W.setCell ⟨r, 0, none⟩ y0).setCell ⟨r, 1, none⟩ y1).setCell ⟨r, 2, none⟩ y2).setCell ⟨r, 3, none⟩ y3).setCell ⟨r, 4, none⟩ y4).setCell ⟨r, 5, none⟩ y5).setCell ⟨r, 6, none⟩ y6).setCell ⟨r, 7, none⟩ y7).setCell ⟨r, 8, none⟩ y8).setCell ⟨r, 9, none⟩ y9).setCell ⟨r, 10, none⟩ y10).setCell ⟨r, 11, none⟩ y11).setCell ⟨r, 12, none⟩ y12).setCell ⟨r, 13, none⟩ y13) ∧ Below w0.heap.size w0 V ∧ V.heap[r]? = some (.cells #[y0, y1, y2, y3, y4, y5, y6, y7, y8, y9, y10, y11, y12, y13] t (0, 0)) ∧ ∀ k, k ≠ r → V.heap[k]? = W.heap[k]? :=
 ⟨_, rfl, (aJ (aJ (aJ (aJ (aJ (aJ (aJ (aJ (aJ (aJ (aJ (aJ (aJ (aJ hb hr) hr) hr) hr) hr) hr) hr) hr) hr) hr) hr) hr) hr) hr), by have h2 := (bE (j := 13) (bE (j := 12) (bE (j := 11) (bE (j := 10) (bE (j := 9) (bE (j := 8) (bE (j := 7) (bE (j := 6) (bE (j := 5) (bE (j := 4) (bE (j := 3) (bE (j := 2) (bE (j := 1) (bE (j := 0) h y0) y1) y2) y3) y4) y5) y6) y7) y8) y9) y10) y11) y12) y13); simpa only [List.setIfInBounds_toArray, List.set_cons_zero, List.set_cons_succ] using h2, fun k hk => ((Below.heap_setCell _ _ _ k hk).trans ((Below.heap_setCell _ _ _ k hk).trans ((Below.heap_setCell _ _ _ k hk).trans ((Below.heap_setCell _ _ _ k hk).trans ((Below.heap_setCell _ _ _ k hk).trans ((Below.heap_setCell _ _ _ k hk).trans ((Below.heap_setCell _ _ _ k hk).trans ((Below.heap_setCell _ _ _ k hk).trans ((Below.heap_setCell _ _ _ k hk).trans ((Below.heap_setCell _ _ _ k hk).trans ((Below.heap_setCell _ _ _ k hk).trans ((Below.heap_setCell _ _ _ k hk).trans ((Below.heap_setCell _ _ _ k hk).trans ((Below.heap_setCell _ _ _ k hk).trans rfl))))))))))))))⟩
theorem ints_same_l0 (l : List Int) (hl : l.length ≤ 1000000) (j : Nat) : ∀ (k i : Nat), i + j = l.length → j < k → raddlekeep_Ints.l0 k l l (i : Int) = some true := by
 induction j with
 | zero =>
  intro k i h hk
  obtain ⟨k, rfl⟩ : ∃ q, k = q + 1 := ⟨k - 1, by omega⟩
  simp only [raddlekeep_Ints.l0]
  rw [if_neg z5_]
 | succ j ih =>
  intro k i h hk
  obtain ⟨k, rfl⟩ : ∃ q, k = q + 1 := ⟨k - 1, by omega⟩
  simp only [raddlekeep_Ints.l0]
  rw [if_pos z5_, if_pos z5_, if_pos z5_, if_pos trivial, show wrap64 ((i : Int) + 1) = ((i + 1 : Nat) : Int) by unfold wrap64; omega]
  exact ih k (i + 1) z5_ z5_
theorem ints_same (k : Nat) (l : List Int) (hk : l.length < k) (hl : l.length ≤ 1000000) : raddlekeep_Ints.f k l l = some true := by
 unfold raddlekeep_Ints.f
 rw [if_pos rfl]
 exact ints_same_l0 l hl l.length k 0 z5_ hk
theorem nodes_same (A : Option Addr) (c : Nat) (B : Option Addr) (d : Nat) (l : List No) (w : World) (hr : Kd.C k34 w A l.length l) (hs : Kd.C k34 w B l.length l) (hl : l.length ≤ 1000) (hln : ∀ x ∈ l, x.f5.length ≤ 1000 ∧ x.f6.length ≤ 1000) :
  Calls Try.prog 22 #[.slice A l.length c, .slice B l.length d] w fun e w' => e = .returned (.bool true) ∧ Below w.heap.size w w' := by
 have HR := mk_ hr
 have HS := mk_ hs
 have HL := mk_ hl
 have HLN := mk_ hln
 clear hr hs hl hln
 go_enter Try.func22, Try.ntmps22
 go_wp2
 go_loopg [5] (l.length + 1) (fun kq v5 W' => ∃ (i : Nat), v5 = .int .i64 (i : Int) ∧ Aside0 (kq + i = l.length + 1 ∧ i ≤ l.length) ∧ Aside0 (Below w.heap.size w W'))
 case atStart => exact ⟨0, rfl, ⟨by omega⟩, ⟨by repeat (first | exact Below.refl _ _ | refine bF ?_ | refine aX ?_ _)⟩⟩
 case round =>
  obtain ⟨i, rfl, HK, HB⟩ := hrel
  obtain ⟨k1, rfl⟩ : ∃ k1, gk = k1 + 1 := ⟨gk - 1, by have := HK.out; omega⟩
  by_cases hi : i < l.length
  rotate_left
  ·
   have hie : i = l.length := by have := HK.out; omega
   subst hie
   have hb2' : decide ((l.length : Int) < (l.length : Int)) = false := decide_eq_false z5_
   have hb3' : decide (l.length < l.length) = false := decide_eq_false z5_
   clear hi
   go_wp2
   go_ret
   exact ⟨rfl, HB.out⟩
  obtain ⟨ad, A5, c5, A6, c6, hAA, hx0, hx1, hx2, hx3, hx4, hx5, hx6, hx7, hx8, hx9, hx10, hx11, hx12, hx13, hl5A, hC5A, hl6A, hC6A⟩ := eE HR.out (i : Int) z5_ z5_
  subst hAA
  simp only [Int.toNat_natCast] at hx0 hx1 hx2 hx3 hx4 hx5 hx6 hx7 hx8 hx9 hx10 hx11 hx12 hx13
  obtain ⟨ae, B5, d5, B6, d6, hAB, hy0, hy1, hy2, hy3, hy4, hy5, hy6, hy7, hy8, hy9, hy10, hy11, hy12, hy13, hl5B, hC5B, hl6B, hC6B⟩ := eE HS.out (i : Int) z5_ z5_
  subst hAB
  simp only [Int.toNat_natCast] at hy0 hy1 hy2 hy3 hy4 hy5 hy6 hy7 hy8 hy9 hy10 hy11 hy12 hy13
  have hxm : aH l (i : Int) ∈ l := fG (by rw [Int.toNat_natCast]; exact hi)
  have HSM := mk_ (HLN.out _ hxm)
  have hb0' : (0 ≤ (i : Int)) = True := eq_true z5_
  have hb1' : ((i : Int) < (l.length : Int)) = True := eq_true z5_
  have hb2' : decide ((i : Int) < (l.length : Int)) = true := decide_eq_true z5_
  have hb3' : decide (i < l.length) = true := decide_eq_true hi
  have HI2 := mk_ hi
  have HCX5 := mk_ hC5A
  have HCX6 := mk_ hC6A
  have HLX5 := mk_ hl5A
  have HLX6 := mk_ hl6A
  have HCY5 := mk_ hC5B
  have HCY6 := mk_ hC6B
  have HLY5 := mk_ hl5B
  have HLY6 := mk_ hl6B
  clear hi hxm hC5A hC6A hl5A hl6A hC5B hC6B hl5B hl6B
  generalize aH l (i : Int) = x at *
  go_wp2
  refine cH (n := 12) (S := fun w' => w'.cell? (ad.add (i * 14)) = some (.int .i64 x.f0) ∧ w'.cell? ⟨(ad.add (i * 14)).block, (ad.add (i * 14)).off + 1, none⟩ = some (.int .i64 x.f1) ∧ w'.cell? ⟨(ad.add (i * 14)).block, (ad.add (i * 14)).off + 2, none⟩ = some (.int .i64 x.f2) ∧ w'.cell? ⟨(ad.add (i * 14)).block, (ad.add (i * 14)).off + 3, none⟩ = some (.int .i64 x.f3) ∧ w'.cell? ⟨(ad.add (i * 14)).block, (ad.add (i * 14)).off + 4, none⟩ = some (.int .i64 x.f4.f0) ∧ w'.cell? ⟨(ad.add (i * 14)).block, (ad.add (i * 14)).off + 5, none⟩ = some (.int .i64 x.f4.f1) ∧ w'.cell? ⟨(ad.add (i * 14)).block, (ad.add (i * 14)).off + 6, none⟩ = some (.int .i64 x.f4.f2) ∧ w'.cell? ⟨(ad.add (i * 14)).block, (ad.add (i * 14)).off + 7, none⟩ = some (.int .i64 x.f4.f3.f0) ∧ w'.cell? ⟨(ad.add (i * 14)).block, (ad.add (i * 14)).off + 8, none⟩ = some (.int .i64 x.f4.f3.f1) ∧ w'.cell? ⟨(ad.add (i * 14)).block, (ad.add (i * 14)).off + 9, none⟩ = some (.string x.f4.f3.f2) ∧ w'.cell? ⟨(ad.add (i * 14)).block, (ad.add (i * 14)).off + 10, none⟩ = some (.slice A5 x.f5.length c5) ∧ w'.cell? ⟨(ad.add (i * 14)).block, (ad.add (i * 14)).off + 11, none⟩ = some (.slice A6 x.f6.length c6) ∧ w'.cell? ⟨(ad.add (i * 14)).block, (ad.add (i * 14)).off + 12, none⟩ = some (.int .i64 x.f7) ∧ w'.cell? ⟨(ad.add (i * 14)).block, (ad.add (i * 14)).off + 13, none⟩ = some (.int .i64 x.f8) ∧ w'.cell? (ae.add (i * 14)) = some (.int .i64 x.f0) ∧ w'.cell? ⟨(ae.add (i * 14)).block, (ae.add (i * 14)).off + 1, none⟩ = some (.int .i64 x.f1) ∧ w'.cell? ⟨(ae.add (i * 14)).block, (ae.add (i * 14)).off + 2, none⟩ = some (.int .i64 x.f2) ∧ w'.cell? ⟨(ae.add (i * 14)).block, (ae.add (i * 14)).off + 3, none⟩ = some (.int .i64 x.f3) ∧ w'.cell? ⟨(ae.add (i * 14)).block, (ae.add (i * 14)).off + 4, none⟩ = some (.int .i64 x.f4.f0) ∧ w'.cell? ⟨(ae.add (i * 14)).block, (ae.add (i * 14)).off + 5, none⟩ = some (.int .i64 x.f4.f1) ∧ w'.cell? ⟨(ae.add (i * 14)).block, (ae.add (i * 14)).off + 6, none⟩ = some (.int .i64 x.f4.f2) ∧ w'.cell? ⟨(ae.add (i * 14)).block, (ae.add (i * 14)).off + 7, none⟩ = some (.int .i64 x.f4.f3.f0) ∧ w'.cell? ⟨(ae.add (i * 14)).block, (ae.add (i * 14)).off + 8, none⟩ = some (.int .i64 x.f4.f3.f1) ∧ w'.cell? ⟨(ae.add (i * 14)).block, (ae.add (i * 14)).off + 9, none⟩ = some (.string x.f4.f3.f2) ∧ w'.cell? ⟨(ae.add (i * 14)).block, (ae.add (i * 14)).off + 10, none⟩ = some (.slice B5 x.f5.length d5) ∧ w'.cell? ⟨(ae.add (i * 14)).block, (ae.add (i * 14)).off + 11, none⟩ = some (.slice B6 x.f6.length d6) ∧ w'.cell? ⟨(ae.add (i * 14)).block, (ae.add (i * 14)).off + 12, none⟩ = some (.int .i64 x.f7) ∧ w'.cell? ⟨(ae.add (i * 14)).block, (ae.add (i * 14)).off + 13, none⟩ = some (.int .i64 x.f8) ∧ True) (ds := [11]) (fun W => Below w.heap.size w W) (Steps.Bs 12 0) z1_ rfl rfl (bF (by repeat (first | exact HB.out | exact Below.refl _ _))) (fun W hJ => ?_) (fun W0 hJ => ?_)
  ·
   have hb0 := hJ
   exact ⟨aC hb0 hx0, aC hb0 hx1, aC hb0 hx2, aC hb0 hx3, aC hb0 hx4, aC hb0 hx5, aC hb0 hx6, aC hb0 hx7, aC hb0 hx8, aC hb0 hx9, aC hb0 hx10, aC hb0 hx11, aC hb0 hx12, aC hb0 hx13, aC hb0 hy0, aC hb0 hy1, aC hb0 hy2, aC hb0 hy3, aC hb0 hy4, aC hb0 hy5, aC hb0 hy6, aC hb0 hy7, aC hb0 hy8, aC hb0 hy9, aC hb0 hy10, aC hb0 hy11, aC hb0 hy12, aC hb0 hy13, trivial⟩
  have hb0 := hJ
  have hHeld0 : W0.cell? (ad.add (i * 14)) = some (.int .i64 x.f0) ∧ W0.cell? ⟨(ad.add (i * 14)).block, (ad.add (i * 14)).off + 1, none⟩ = some (.int .i64 x.f1) ∧ W0.cell? ⟨(ad.add (i * 14)).block, (ad.add (i * 14)).off + 2, none⟩ = some (.int .i64 x.f2) ∧ W0.cell? ⟨(ad.add (i * 14)).block, (ad.add (i * 14)).off + 3, none⟩ = some (.int .i64 x.f3) ∧ W0.cell? ⟨(ad.add (i * 14)).block, (ad.add (i * 14)).off + 4, none⟩ = some (.int .i64 x.f4.f0) ∧ W0.cell? ⟨(ad.add (i * 14)).block, (ad.add (i * 14)).off + 5, none⟩ = some (.int .i64 x.f4.f1) ∧ W0.cell? ⟨(ad.add (i * 14)).block, (ad.add (i * 14)).off + 6, none⟩ = some (.int .i64 x.f4.f2) ∧ W0.cell? ⟨(ad.add (i * 14)).block, (ad.add (i * 14)).off + 7, none⟩ = some (.int .i64 x.f4.f3.f0) ∧ W0.cell? ⟨(ad.add (i * 14)).block, (ad.add (i * 14)).off + 8, none⟩ = some (.int .i64 x.f4.f3.f1) ∧ W0.cell? ⟨(ad.add (i * 14)).block, (ad.add (i * 14)).off + 9, none⟩ = some (.string x.f4.f3.f2) ∧ W0.cell? ⟨(ad.add (i * 14)).block, (ad.add (i * 14)).off + 10, none⟩ = some (.slice A5 x.f5.length c5) ∧ W0.cell? ⟨(ad.add (i * 14)).block, (ad.add (i * 14)).off + 11, none⟩ = some (.slice A6 x.f6.length c6) ∧ W0.cell? ⟨(ad.add (i * 14)).block, (ad.add (i * 14)).off + 12, none⟩ = some (.int .i64 x.f7) ∧ W0.cell? ⟨(ad.add (i * 14)).block, (ad.add (i * 14)).off + 13, none⟩ = some (.int .i64 x.f8) ∧ W0.cell? (ae.add (i * 14)) = some (.int .i64 x.f0) ∧ W0.cell? ⟨(ae.add (i * 14)).block, (ae.add (i * 14)).off + 1, none⟩ = some (.int .i64 x.f1) ∧ W0.cell? ⟨(ae.add (i * 14)).block, (ae.add (i * 14)).off + 2, none⟩ = some (.int .i64 x.f2) ∧ W0.cell? ⟨(ae.add (i * 14)).block, (ae.add (i * 14)).off + 3, none⟩ = some (.int .i64 x.f3) ∧ W0.cell? ⟨(ae.add (i * 14)).block, (ae.add (i * 14)).off + 4, none⟩ = some (.int .i64 x.f4.f0) ∧ W0.cell? ⟨(ae.add (i * 14)).block, (ae.add (i * 14)).off + 5, none⟩ = some (.int .i64 x.f4.f1) ∧ W0.cell? ⟨(ae.add (i * 14)).block, (ae.add (i * 14)).off + 6, none⟩ = some (.int .i64 x.f4.f2) ∧ W0.cell? ⟨(ae.add (i * 14)).block, (ae.add (i * 14)).off + 7, none⟩ = some (.int .i64 x.f4.f3.f0) ∧ W0.cell? ⟨(ae.add (i * 14)).block, (ae.add (i * 14)).off + 8, none⟩ = some (.int .i64 x.f4.f3.f1) ∧ W0.cell? ⟨(ae.add (i * 14)).block, (ae.add (i * 14)).off + 9, none⟩ = some (.string x.f4.f3.f2) ∧ W0.cell? ⟨(ae.add (i * 14)).block, (ae.add (i * 14)).off + 10, none⟩ = some (.slice B5 x.f5.length d5) ∧ W0.cell? ⟨(ae.add (i * 14)).block, (ae.add (i * 14)).off + 11, none⟩ = some (.slice B6 x.f6.length d6) ∧ W0.cell? ⟨(ae.add (i * 14)).block, (ae.add (i * 14)).off + 12, none⟩ = some (.int .i64 x.f7) ∧ W0.cell? ⟨(ae.add (i * 14)).block, (ae.add (i * 14)).off + 13, none⟩ = some (.int .i64 x.f8) ∧ True := ⟨aC hb0 hx0, aC hb0 hx1, aC hb0 hx2, aC hb0 hx3, aC hb0 hx4, aC hb0 hx5, aC hb0 hx6, aC hb0 hx7, aC hb0 hx8, aC hb0 hx9, aC hb0 hx10, aC hb0 hx11, aC hb0 hx12, aC hb0 hx13, aC hb0 hy0, aC hb0 hy1, aC hb0 hy2, aC hb0 hy3, aC hb0 hy4, aC hb0 hy5, aC hb0 hy6, aC hb0 hy7, aC hb0 hy8, aC hb0 hy9, aC hb0 hy10, aC hb0 hy11, aC hb0 hy12, aC hb0 hy13, trivial⟩
  have hl0 := hb0.size
  refine sI 0 19 12 1 ?_
  refine sI 1 20 12 3 ?_
  refine sI 2 21 12 7 ?_
  refine sT hHeld0 3 22 12 15 ?_
  refine sI 4 23 12 31 ?_
  refine sI 5 24 12 63 ?_
  refine sI 6 25 12 127 ?_
  refine sT hHeld0 7 26 12 255 ?_
  refine join_ (σ := Nat × Nat) 2 (Steps.Bs 12 1023) (fun s_ => [(6, .pointer (some ⟨s_.1, 0, none⟩)), (7, .pointer (some ⟨s_.2, 0, none⟩))]) (fun s_ w' => Below w.heap.size w w' ∧ w'.heap[s_.1]? = some (.cells #[.int .i64 0, .int .i64 0, .int .i64 0, .int .i64 0, .int .i64 0, .int .i64 0, .int .i64 0, .int .i64 0, .int .i64 0, .string ⟨#[]⟩, .slice none 0 0, .slice none 0 0, .int .i64 0, .int .i64 0] 34 (0, 0)) ∧ w'.heap[s_.2]? = some (.cells #[.int .i64 0, .int .i64 0, .int .i64 0, .int .i64 0, .int .i64 0, .int .i64 0, .int .i64 0, .int .i64 0, .int .i64 0, .string ⟨#[]⟩, .slice none 0 0, .slice none 0 0, .int .i64 0, .int .i64 0] 34 (0, 0)) ∧ s_.1 ≠ s_.2 ∧ w.heap.size ≤ s_.1 ∧ w.heap.size ≤ s_.2) ?_ ?_
  rotate_left
  ·
   intro hCont
   refine two_ (i := 8) (j := 9) (Ni := some 6) (Nj := some 7) (Steps.Bs 12 511) (Steps.Bs 12 767) rfl rfl rfl rfl z1_ z11_ z11_ (fun K hK => ?_) (fun K hK => ?_)
   ·
    refine cI z12_ (N := 6) rfl (cs := #[.int .i64 0, .int .i64 0, .int .i64 0, .int .i64 0, .int .i64 0, .int .i64 0, .int .i64 0, .int .i64 0, .int .i64 0, .string ⟨#[]⟩, .slice none 0 0, .slice none 0 0, .int .i64 0, .int .i64 0]) (t := 34) z10_ ?_
    intro gx hgx W1 bgx1 hq
    have hb1 := aG hb0 hq
    have hHeld1 : W1.cell? (ad.add (i * 14)) = some (.int .i64 x.f0) ∧ W1.cell? ⟨(ad.add (i * 14)).block, (ad.add (i * 14)).off + 1, none⟩ = some (.int .i64 x.f1) ∧ W1.cell? ⟨(ad.add (i * 14)).block, (ad.add (i * 14)).off + 2, none⟩ = some (.int .i64 x.f2) ∧ W1.cell? ⟨(ad.add (i * 14)).block, (ad.add (i * 14)).off + 3, none⟩ = some (.int .i64 x.f3) ∧ W1.cell? ⟨(ad.add (i * 14)).block, (ad.add (i * 14)).off + 4, none⟩ = some (.int .i64 x.f4.f0) ∧ W1.cell? ⟨(ad.add (i * 14)).block, (ad.add (i * 14)).off + 5, none⟩ = some (.int .i64 x.f4.f1) ∧ W1.cell? ⟨(ad.add (i * 14)).block, (ad.add (i * 14)).off + 6, none⟩ = some (.int .i64 x.f4.f2) ∧ W1.cell? ⟨(ad.add (i * 14)).block, (ad.add (i * 14)).off + 7, none⟩ = some (.int .i64 x.f4.f3.f0) ∧ W1.cell? ⟨(ad.add (i * 14)).block, (ad.add (i * 14)).off + 8, none⟩ = some (.int .i64 x.f4.f3.f1) ∧ W1.cell? ⟨(ad.add (i * 14)).block, (ad.add (i * 14)).off + 9, none⟩ = some (.string x.f4.f3.f2) ∧ W1.cell? ⟨(ad.add (i * 14)).block, (ad.add (i * 14)).off + 10, none⟩ = some (.slice A5 x.f5.length c5) ∧ W1.cell? ⟨(ad.add (i * 14)).block, (ad.add (i * 14)).off + 11, none⟩ = some (.slice A6 x.f6.length c6) ∧ W1.cell? ⟨(ad.add (i * 14)).block, (ad.add (i * 14)).off + 12, none⟩ = some (.int .i64 x.f7) ∧ W1.cell? ⟨(ad.add (i * 14)).block, (ad.add (i * 14)).off + 13, none⟩ = some (.int .i64 x.f8) ∧ W1.cell? (ae.add (i * 14)) = some (.int .i64 x.f0) ∧ W1.cell? ⟨(ae.add (i * 14)).block, (ae.add (i * 14)).off + 1, none⟩ = some (.int .i64 x.f1) ∧ W1.cell? ⟨(ae.add (i * 14)).block, (ae.add (i * 14)).off + 2, none⟩ = some (.int .i64 x.f2) ∧ W1.cell? ⟨(ae.add (i * 14)).block, (ae.add (i * 14)).off + 3, none⟩ = some (.int .i64 x.f3) ∧ W1.cell? ⟨(ae.add (i * 14)).block, (ae.add (i * 14)).off + 4, none⟩ = some (.int .i64 x.f4.f0) ∧ W1.cell? ⟨(ae.add (i * 14)).block, (ae.add (i * 14)).off + 5, none⟩ = some (.int .i64 x.f4.f1) ∧ W1.cell? ⟨(ae.add (i * 14)).block, (ae.add (i * 14)).off + 6, none⟩ = some (.int .i64 x.f4.f2) ∧ W1.cell? ⟨(ae.add (i * 14)).block, (ae.add (i * 14)).off + 7, none⟩ = some (.int .i64 x.f4.f3.f0) ∧ W1.cell? ⟨(ae.add (i * 14)).block, (ae.add (i * 14)).off + 8, none⟩ = some (.int .i64 x.f4.f3.f1) ∧ W1.cell? ⟨(ae.add (i * 14)).block, (ae.add (i * 14)).off + 9, none⟩ = some (.string x.f4.f3.f2) ∧ W1.cell? ⟨(ae.add (i * 14)).block, (ae.add (i * 14)).off + 10, none⟩ = some (.slice B5 x.f5.length d5) ∧ W1.cell? ⟨(ae.add (i * 14)).block, (ae.add (i * 14)).off + 11, none⟩ = some (.slice B6 x.f6.length d6) ∧ W1.cell? ⟨(ae.add (i * 14)).block, (ae.add (i * 14)).off + 12, none⟩ = some (.int .i64 x.f7) ∧ W1.cell? ⟨(ae.add (i * 14)).block, (ae.add (i * 14)).off + 13, none⟩ = some (.int .i64 x.f8) ∧ True := ⟨aC hb1 hx0, aC hb1 hx1, aC hb1 hx2, aC hb1 hx3, aC hb1 hx4, aC hb1 hx5, aC hb1 hx6, aC hb1 hx7, aC hb1 hx8, aC hb1 hx9, aC hb1 hx10, aC hb1 hx11, aC hb1 hx12, aC hb1 hx13, aC hb1 hy0, aC hb1 hy1, aC hb1 hy2, aC hb1 hy3, aC hb1 hy4, aC hb1 hy5, aC hb1 hy6, aC hb1 hy7, aC hb1 hy8, aC hb1 hy9, aC hb1 hy10, aC hb1 hy11, aC hb1 hy12, aC hb1 hy13, trivial⟩
    refine hK.out _ _ hHeld1 (fun _ => ?_)
    clear hK K
    refine nrm 6 ?_
    refine one_ (i := 9) (N := some 7) (Steps.Bs 12 1023) rfl rfl z1_ z11_ (fun K hK => ?_)
    have hlt := aU bgx1
    clear hq
    refine cI z12_ (N := 7) rfl (cs := #[.int .i64 0, .int .i64 0, .int .i64 0, .int .i64 0, .int .i64 0, .int .i64 0, .int .i64 0, .int .i64 0, .int .i64 0, .string ⟨#[]⟩, .slice none 0 0, .slice none 0 0, .int .i64 0, .int .i64 0]) (t := 34) z10_ ?_
    intro gy hgy W2 bgy2 hq
    have hb2 := aG hb1 hq
    have bgx2 := aE bgx1 hq
    have hHeld2 : W2.cell? (ad.add (i * 14)) = some (.int .i64 x.f0) ∧ W2.cell? ⟨(ad.add (i * 14)).block, (ad.add (i * 14)).off + 1, none⟩ = some (.int .i64 x.f1) ∧ W2.cell? ⟨(ad.add (i * 14)).block, (ad.add (i * 14)).off + 2, none⟩ = some (.int .i64 x.f2) ∧ W2.cell? ⟨(ad.add (i * 14)).block, (ad.add (i * 14)).off + 3, none⟩ = some (.int .i64 x.f3) ∧ W2.cell? ⟨(ad.add (i * 14)).block, (ad.add (i * 14)).off + 4, none⟩ = some (.int .i64 x.f4.f0) ∧ W2.cell? ⟨(ad.add (i * 14)).block, (ad.add (i * 14)).off + 5, none⟩ = some (.int .i64 x.f4.f1) ∧ W2.cell? ⟨(ad.add (i * 14)).block, (ad.add (i * 14)).off + 6, none⟩ = some (.int .i64 x.f4.f2) ∧ W2.cell? ⟨(ad.add (i * 14)).block, (ad.add (i * 14)).off + 7, none⟩ = some (.int .i64 x.f4.f3.f0) ∧ W2.cell? ⟨(ad.add (i * 14)).block, (ad.add (i * 14)).off + 8, none⟩ = some (.int .i64 x.f4.f3.f1) ∧ W2.cell? ⟨(ad.add (i * 14)).block, (ad.add (i * 14)).off + 9, none⟩ = some (.string x.f4.f3.f2) ∧ W2.cell? ⟨(ad.add (i * 14)).block, (ad.add (i * 14)).off + 10, none⟩ = some (.slice A5 x.f5.length c5) ∧ W2.cell? ⟨(ad.add (i * 14)).block, (ad.add (i * 14)).off + 11, none⟩ = some (.slice A6 x.f6.length c6) ∧ W2.cell? ⟨(ad.add (i * 14)).block, (ad.add (i * 14)).off + 12, none⟩ = some (.int .i64 x.f7) ∧ W2.cell? ⟨(ad.add (i * 14)).block, (ad.add (i * 14)).off + 13, none⟩ = some (.int .i64 x.f8) ∧ W2.cell? (ae.add (i * 14)) = some (.int .i64 x.f0) ∧ W2.cell? ⟨(ae.add (i * 14)).block, (ae.add (i * 14)).off + 1, none⟩ = some (.int .i64 x.f1) ∧ W2.cell? ⟨(ae.add (i * 14)).block, (ae.add (i * 14)).off + 2, none⟩ = some (.int .i64 x.f2) ∧ W2.cell? ⟨(ae.add (i * 14)).block, (ae.add (i * 14)).off + 3, none⟩ = some (.int .i64 x.f3) ∧ W2.cell? ⟨(ae.add (i * 14)).block, (ae.add (i * 14)).off + 4, none⟩ = some (.int .i64 x.f4.f0) ∧ W2.cell? ⟨(ae.add (i * 14)).block, (ae.add (i * 14)).off + 5, none⟩ = some (.int .i64 x.f4.f1) ∧ W2.cell? ⟨(ae.add (i * 14)).block, (ae.add (i * 14)).off + 6, none⟩ = some (.int .i64 x.f4.f2) ∧ W2.cell? ⟨(ae.add (i * 14)).block, (ae.add (i * 14)).off + 7, none⟩ = some (.int .i64 x.f4.f3.f0) ∧ W2.cell? ⟨(ae.add (i * 14)).block, (ae.add (i * 14)).off + 8, none⟩ = some (.int .i64 x.f4.f3.f1) ∧ W2.cell? ⟨(ae.add (i * 14)).block, (ae.add (i * 14)).off + 9, none⟩ = some (.string x.f4.f3.f2) ∧ W2.cell? ⟨(ae.add (i * 14)).block, (ae.add (i * 14)).off + 10, none⟩ = some (.slice B5 x.f5.length d5) ∧ W2.cell? ⟨(ae.add (i * 14)).block, (ae.add (i * 14)).off + 11, none⟩ = some (.slice B6 x.f6.length d6) ∧ W2.cell? ⟨(ae.add (i * 14)).block, (ae.add (i * 14)).off + 12, none⟩ = some (.int .i64 x.f7) ∧ W2.cell? ⟨(ae.add (i * 14)).block, (ae.add (i * 14)).off + 13, none⟩ = some (.int .i64 x.f8) ∧ True := ⟨aC hb2 hx0, aC hb2 hx1, aC hb2 hx2, aC hb2 hx3, aC hb2 hx4, aC hb2 hx5, aC hb2 hx6, aC hb2 hx7, aC hb2 hx8, aC hb2 hx9, aC hb2 hx10, aC hb2 hx11, aC hb2 hx12, aC hb2 hx13, aC hb2 hy0, aC hb2 hy1, aC hb2 hy2, aC hb2 hy3, aC hb2 hy4, aC hb2 hy5, aC hb2 hy6, aC hb2 hy7, aC hb2 hy8, aC hb2 hy9, aC hb2 hy10, aC hb2 hy11, aC hb2 hy12, aC hb2 hy13, trivial⟩
    refine hK.out _ _ hHeld2 (fun _ => ?_)
    clear hK K
    refine nrm 7 ?_
    exact hCont (gx, gy) W2 ⟨hb2, bgx2, bgy2, by show gx ≠ gy; omega, by have := hb0.size; have := hb1.size; show _ ≤ gx; omega, by have := hb0.size; have := hb1.size; show _ ≤ gy; omega⟩
   ·
    refine cI z12_ (N := 7) rfl (cs := #[.int .i64 0, .int .i64 0, .int .i64 0, .int .i64 0, .int .i64 0, .int .i64 0, .int .i64 0, .int .i64 0, .int .i64 0, .string ⟨#[]⟩, .slice none 0 0, .slice none 0 0, .int .i64 0, .int .i64 0]) (t := 34) z10_ ?_
    intro gy hgy W1 bgy1 hq
    have hb1 := aG hb0 hq
    have hHeld1 : W1.cell? (ad.add (i * 14)) = some (.int .i64 x.f0) ∧ W1.cell? ⟨(ad.add (i * 14)).block, (ad.add (i * 14)).off + 1, none⟩ = some (.int .i64 x.f1) ∧ W1.cell? ⟨(ad.add (i * 14)).block, (ad.add (i * 14)).off + 2, none⟩ = some (.int .i64 x.f2) ∧ W1.cell? ⟨(ad.add (i * 14)).block, (ad.add (i * 14)).off + 3, none⟩ = some (.int .i64 x.f3) ∧ W1.cell? ⟨(ad.add (i * 14)).block, (ad.add (i * 14)).off + 4, none⟩ = some (.int .i64 x.f4.f0) ∧ W1.cell? ⟨(ad.add (i * 14)).block, (ad.add (i * 14)).off + 5, none⟩ = some (.int .i64 x.f4.f1) ∧ W1.cell? ⟨(ad.add (i * 14)).block, (ad.add (i * 14)).off + 6, none⟩ = some (.int .i64 x.f4.f2) ∧ W1.cell? ⟨(ad.add (i * 14)).block, (ad.add (i * 14)).off + 7, none⟩ = some (.int .i64 x.f4.f3.f0) ∧ W1.cell? ⟨(ad.add (i * 14)).block, (ad.add (i * 14)).off + 8, none⟩ = some (.int .i64 x.f4.f3.f1) ∧ W1.cell? ⟨(ad.add (i * 14)).block, (ad.add (i * 14)).off + 9, none⟩ = some (.string x.f4.f3.f2) ∧ W1.cell? ⟨(ad.add (i * 14)).block, (ad.add (i * 14)).off + 10, none⟩ = some (.slice A5 x.f5.length c5) ∧ W1.cell? ⟨(ad.add (i * 14)).block, (ad.add (i * 14)).off + 11, none⟩ = some (.slice A6 x.f6.length c6) ∧ W1.cell? ⟨(ad.add (i * 14)).block, (ad.add (i * 14)).off + 12, none⟩ = some (.int .i64 x.f7) ∧ W1.cell? ⟨(ad.add (i * 14)).block, (ad.add (i * 14)).off + 13, none⟩ = some (.int .i64 x.f8) ∧ W1.cell? (ae.add (i * 14)) = some (.int .i64 x.f0) ∧ W1.cell? ⟨(ae.add (i * 14)).block, (ae.add (i * 14)).off + 1, none⟩ = some (.int .i64 x.f1) ∧ W1.cell? ⟨(ae.add (i * 14)).block, (ae.add (i * 14)).off + 2, none⟩ = some (.int .i64 x.f2) ∧ W1.cell? ⟨(ae.add (i * 14)).block, (ae.add (i * 14)).off + 3, none⟩ = some (.int .i64 x.f3) ∧ W1.cell? ⟨(ae.add (i * 14)).block, (ae.add (i * 14)).off + 4, none⟩ = some (.int .i64 x.f4.f0) ∧ W1.cell? ⟨(ae.add (i * 14)).block, (ae.add (i * 14)).off + 5, none⟩ = some (.int .i64 x.f4.f1) ∧ W1.cell? ⟨(ae.add (i * 14)).block, (ae.add (i * 14)).off + 6, none⟩ = some (.int .i64 x.f4.f2) ∧ W1.cell? ⟨(ae.add (i * 14)).block, (ae.add (i * 14)).off + 7, none⟩ = some (.int .i64 x.f4.f3.f0) ∧ W1.cell? ⟨(ae.add (i * 14)).block, (ae.add (i * 14)).off + 8, none⟩ = some (.int .i64 x.f4.f3.f1) ∧ W1.cell? ⟨(ae.add (i * 14)).block, (ae.add (i * 14)).off + 9, none⟩ = some (.string x.f4.f3.f2) ∧ W1.cell? ⟨(ae.add (i * 14)).block, (ae.add (i * 14)).off + 10, none⟩ = some (.slice B5 x.f5.length d5) ∧ W1.cell? ⟨(ae.add (i * 14)).block, (ae.add (i * 14)).off + 11, none⟩ = some (.slice B6 x.f6.length d6) ∧ W1.cell? ⟨(ae.add (i * 14)).block, (ae.add (i * 14)).off + 12, none⟩ = some (.int .i64 x.f7) ∧ W1.cell? ⟨(ae.add (i * 14)).block, (ae.add (i * 14)).off + 13, none⟩ = some (.int .i64 x.f8) ∧ True := ⟨aC hb1 hx0, aC hb1 hx1, aC hb1 hx2, aC hb1 hx3, aC hb1 hx4, aC hb1 hx5, aC hb1 hx6, aC hb1 hx7, aC hb1 hx8, aC hb1 hx9, aC hb1 hx10, aC hb1 hx11, aC hb1 hx12, aC hb1 hx13, aC hb1 hy0, aC hb1 hy1, aC hb1 hy2, aC hb1 hy3, aC hb1 hy4, aC hb1 hy5, aC hb1 hy6, aC hb1 hy7, aC hb1 hy8, aC hb1 hy9, aC hb1 hy10, aC hb1 hy11, aC hb1 hy12, aC hb1 hy13, trivial⟩
    refine hK.out _ _ hHeld1 (fun _ => ?_)
    clear hK K
    refine nrm 7 ?_
    refine one_ (i := 8) (N := some 6) (Steps.Bs 12 1023) rfl rfl z1_ z11_ (fun K hK => ?_)
    have hlt := aU bgy1
    clear hq
    refine cI z12_ (N := 6) rfl (cs := #[.int .i64 0, .int .i64 0, .int .i64 0, .int .i64 0, .int .i64 0, .int .i64 0, .int .i64 0, .int .i64 0, .int .i64 0, .string ⟨#[]⟩, .slice none 0 0, .slice none 0 0, .int .i64 0, .int .i64 0]) (t := 34) z10_ ?_
    intro gx hgx W2 bgx2 hq
    have hb2 := aG hb1 hq
    have bgy2 := aE bgy1 hq
    have hHeld2 : W2.cell? (ad.add (i * 14)) = some (.int .i64 x.f0) ∧ W2.cell? ⟨(ad.add (i * 14)).block, (ad.add (i * 14)).off + 1, none⟩ = some (.int .i64 x.f1) ∧ W2.cell? ⟨(ad.add (i * 14)).block, (ad.add (i * 14)).off + 2, none⟩ = some (.int .i64 x.f2) ∧ W2.cell? ⟨(ad.add (i * 14)).block, (ad.add (i * 14)).off + 3, none⟩ = some (.int .i64 x.f3) ∧ W2.cell? ⟨(ad.add (i * 14)).block, (ad.add (i * 14)).off + 4, none⟩ = some (.int .i64 x.f4.f0) ∧ W2.cell? ⟨(ad.add (i * 14)).block, (ad.add (i * 14)).off + 5, none⟩ = some (.int .i64 x.f4.f1) ∧ W2.cell? ⟨(ad.add (i * 14)).block, (ad.add (i * 14)).off + 6, none⟩ = some (.int .i64 x.f4.f2) ∧ W2.cell? ⟨(ad.add (i * 14)).block, (ad.add (i * 14)).off + 7, none⟩ = some (.int .i64 x.f4.f3.f0) ∧ W2.cell? ⟨(ad.add (i * 14)).block, (ad.add (i * 14)).off + 8, none⟩ = some (.int .i64 x.f4.f3.f1) ∧ W2.cell? ⟨(ad.add (i * 14)).block, (ad.add (i * 14)).off + 9, none⟩ = some (.string x.f4.f3.f2) ∧ W2.cell? ⟨(ad.add (i * 14)).block, (ad.add (i * 14)).off + 10, none⟩ = some (.slice A5 x.f5.length c5) ∧ W2.cell? ⟨(ad.add (i * 14)).block, (ad.add (i * 14)).off + 11, none⟩ = some (.slice A6 x.f6.length c6) ∧ W2.cell? ⟨(ad.add (i * 14)).block, (ad.add (i * 14)).off + 12, none⟩ = some (.int .i64 x.f7) ∧ W2.cell? ⟨(ad.add (i * 14)).block, (ad.add (i * 14)).off + 13, none⟩ = some (.int .i64 x.f8) ∧ W2.cell? (ae.add (i * 14)) = some (.int .i64 x.f0) ∧ W2.cell? ⟨(ae.add (i * 14)).block, (ae.add (i * 14)).off + 1, none⟩ = some (.int .i64 x.f1) ∧ W2.cell? ⟨(ae.add (i * 14)).block, (ae.add (i * 14)).off + 2, none⟩ = some (.int .i64 x.f2) ∧ W2.cell? ⟨(ae.add (i * 14)).block, (ae.add (i * 14)).off + 3, none⟩ = some (.int .i64 x.f3) ∧ W2.cell? ⟨(ae.add (i * 14)).block, (ae.add (i * 14)).off + 4, none⟩ = some (.int .i64 x.f4.f0) ∧ W2.cell? ⟨(ae.add (i * 14)).block, (ae.add (i * 14)).off + 5, none⟩ = some (.int .i64 x.f4.f1) ∧ W2.cell? ⟨(ae.add (i * 14)).block, (ae.add (i * 14)).off + 6, none⟩ = some (.int .i64 x.f4.f2) ∧ W2.cell? ⟨(ae.add (i * 14)).block, (ae.add (i * 14)).off + 7, none⟩ = some (.int .i64 x.f4.f3.f0) ∧ W2.cell? ⟨(ae.add (i * 14)).block, (ae.add (i * 14)).off + 8, none⟩ = some (.int .i64 x.f4.f3.f1) ∧ W2.cell? ⟨(ae.add (i * 14)).block, (ae.add (i * 14)).off + 9, none⟩ = some (.string x.f4.f3.f2) ∧ W2.cell? ⟨(ae.add (i * 14)).block, (ae.add (i * 14)).off + 10, none⟩ = some (.slice B5 x.f5.length d5) ∧ W2.cell? ⟨(ae.add (i * 14)).block, (ae.add (i * 14)).off + 11, none⟩ = some (.slice B6 x.f6.length d6) ∧ W2.cell? ⟨(ae.add (i * 14)).block, (ae.add (i * 14)).off + 12, none⟩ = some (.int .i64 x.f7) ∧ W2.cell? ⟨(ae.add (i * 14)).block, (ae.add (i * 14)).off + 13, none⟩ = some (.int .i64 x.f8) ∧ True := ⟨aC hb2 hx0, aC hb2 hx1, aC hb2 hx2, aC hb2 hx3, aC hb2 hx4, aC hb2 hx5, aC hb2 hx6, aC hb2 hx7, aC hb2 hx8, aC hb2 hx9, aC hb2 hx10, aC hb2 hx11, aC hb2 hx12, aC hb2 hx13, aC hb2 hy0, aC hb2 hy1, aC hb2 hy2, aC hb2 hy3, aC hb2 hy4, aC hb2 hy5, aC hb2 hy6, aC hb2 hy7, aC hb2 hy8, aC hb2 hy9, aC hb2 hy10, aC hb2 hy11, aC hb2 hy12, aC hb2 hy13, trivial⟩
    refine hK.out _ _ hHeld2 (fun _ => ?_)
    clear hK K
    refine nrm 6 ?_
    exact hCont (gx, gy) W2 ⟨hb2, bgx2, bgy2, by show gx ≠ gy; omega, by have := hb0.size; have := hb1.size; show _ ≤ gx; omega, by have := hb0.size; have := hb1.size; show _ ≤ gy; omega⟩
  rintro ⟨gx, gy⟩ W1 ⟨hb1, bX1, bY1, hne, hgx, hgy⟩
  replace bX1 : W1.heap[gx]? = some (.cells #[.int .i64 0, .int .i64 0, .int .i64 0, .int .i64 0, .int .i64 0, .int .i64 0, .int .i64 0, .int .i64 0, .int .i64 0, .string ⟨#[]⟩, .slice none 0 0, .slice none 0 0, .int .i64 0, .int .i64 0] 34 (0, 0)) := bX1
  replace bY1 : W1.heap[gy]? = some (.cells #[.int .i64 0, .int .i64 0, .int .i64 0, .int .i64 0, .int .i64 0, .int .i64 0, .int .i64 0, .int .i64 0, .int .i64 0, .string ⟨#[]⟩, .slice none 0 0, .slice none 0 0, .int .i64 0, .int .i64 0] 34 (0, 0)) := bY1
  replace hne : gx ≠ gy := hne
  replace hgx : w.heap.size ≤ gx := hgx
  replace hgy : w.heap.size ≤ gy := hgy
  refine norm_ (a' := ?_) ?_ ?_
  rotate_left
  ·
   simp only [putAll, Act.put, List.setIfInBounds_toArray, List.set_cons_zero, List.set_cons_succ]
   rfl
  have hc10_0 := aA bX1 0
  have hc10_1 := aA bX1 1
  have hc10_2 := aA bX1 2
  have hc10_3 := aA bX1 3
  have hc10_4 := aA bX1 4
  have hc10_5 := aA bX1 5
  have hc10_6 := aA bX1 6
  have hc10_7 := aA bX1 7
  have hc10_8 := aA bX1 8
  have hc10_9 := aA bX1 9
  have hc10_10 := aA bX1 10
  have hc10_11 := aA bX1 11
  have hc10_12 := aA bX1 12
  have hc10_13 := aA bX1 13
  have hf10_0 := aD bX1 0
  have hf10_1 := aD bX1 1
  have hf10_2 := aD bX1 2
  have hf10_3 := aD bX1 3
  have hf10_4 := aD bX1 4
  have hf10_5 := aD bX1 5
  have hf10_6 := aD bX1 6
  have hf10_7 := aD bX1 7
  have hf10_8 := aD bX1 8
  have hf10_9 := aD bX1 9
  have hf10_10 := aD bX1 10
  have hf10_11 := aD bX1 11
  have hf10_12 := aD bX1 12
  have hf10_13 := aD bX1 13
  refine one_ (i := 10) (N := none) (Steps.Bs 12 2047) rfl rfl z1_ z11_ (fun K hK => ?_)
  refine skip_ (w1 := ?_) z12_ rfl ?_ ?_
  rotate_left
  ·
   go_simp
   rfl
  obtain ⟨V1, hV, hbV1, bNV1, hkeepV1⟩ := store14 hb1 hgx bX1 (.int .i64 x.f0) (.int .i64 x.f1) (.int .i64 x.f2) (.int .i64 x.f3) (.int .i64 x.f4.f0) (.int .i64 x.f4.f1) (.int .i64 x.f4.f2) (.int .i64 x.f4.f3.f0) (.int .i64 x.f4.f3.f1) (.string x.f4.f3.f2) (.slice A5 x.f5.length c5) (.slice A6 x.f6.length c6) (.int .i64 x.f7) (.int .i64 x.f8)
  rw [← hV]
  clear hV hc10_0 hf10_0 hc10_1 hf10_1 hc10_2 hf10_2 hc10_3 hf10_3 hc10_4 hf10_4 hc10_5 hf10_5 hc10_6 hf10_6 hc10_7 hf10_7 hc10_8 hf10_8 hc10_9 hf10_9 hc10_10 hf10_10 hc10_11 hf10_11 hc10_12 hf10_12 hc10_13 hf10_13
  have hHeld2 : V1.cell? (ad.add (i * 14)) = some (.int .i64 x.f0) ∧ V1.cell? ⟨(ad.add (i * 14)).block, (ad.add (i * 14)).off + 1, none⟩ = some (.int .i64 x.f1) ∧ V1.cell? ⟨(ad.add (i * 14)).block, (ad.add (i * 14)).off + 2, none⟩ = some (.int .i64 x.f2) ∧ V1.cell? ⟨(ad.add (i * 14)).block, (ad.add (i * 14)).off + 3, none⟩ = some (.int .i64 x.f3) ∧ V1.cell? ⟨(ad.add (i * 14)).block, (ad.add (i * 14)).off + 4, none⟩ = some (.int .i64 x.f4.f0) ∧ V1.cell? ⟨(ad.add (i * 14)).block, (ad.add (i * 14)).off + 5, none⟩ = some (.int .i64 x.f4.f1) ∧ V1.cell? ⟨(ad.add (i * 14)).block, (ad.add (i * 14)).off + 6, none⟩ = some (.int .i64 x.f4.f2) ∧ V1.cell? ⟨(ad.add (i * 14)).block, (ad.add (i * 14)).off + 7, none⟩ = some (.int .i64 x.f4.f3.f0) ∧ V1.cell? ⟨(ad.add (i * 14)).block, (ad.add (i * 14)).off + 8, none⟩ = some (.int .i64 x.f4.f3.f1) ∧ V1.cell? ⟨(ad.add (i * 14)).block, (ad.add (i * 14)).off + 9, none⟩ = some (.string x.f4.f3.f2) ∧ V1.cell? ⟨(ad.add (i * 14)).block, (ad.add (i * 14)).off + 10, none⟩ = some (.slice A5 x.f5.length c5) ∧ V1.cell? ⟨(ad.add (i * 14)).block, (ad.add (i * 14)).off + 11, none⟩ = some (.slice A6 x.f6.length c6) ∧ V1.cell? ⟨(ad.add (i * 14)).block, (ad.add (i * 14)).off + 12, none⟩ = some (.int .i64 x.f7) ∧ V1.cell? ⟨(ad.add (i * 14)).block, (ad.add (i * 14)).off + 13, none⟩ = some (.int .i64 x.f8) ∧ V1.cell? (ae.add (i * 14)) = some (.int .i64 x.f0) ∧ V1.cell? ⟨(ae.add (i * 14)).block, (ae.add (i * 14)).off + 1, none⟩ = some (.int .i64 x.f1) ∧ V1.cell? ⟨(ae.add (i * 14)).block, (ae.add (i * 14)).off + 2, none⟩ = some (.int .i64 x.f2) ∧ V1.cell? ⟨(ae.add (i * 14)).block, (ae.add (i * 14)).off + 3, none⟩ = some (.int .i64 x.f3) ∧ V1.cell? ⟨(ae.add (i * 14)).block, (ae.add (i * 14)).off + 4, none⟩ = some (.int .i64 x.f4.f0) ∧ V1.cell? ⟨(ae.add (i * 14)).block, (ae.add (i * 14)).off + 5, none⟩ = some (.int .i64 x.f4.f1) ∧ V1.cell? ⟨(ae.add (i * 14)).block, (ae.add (i * 14)).off + 6, none⟩ = some (.int .i64 x.f4.f2) ∧ V1.cell? ⟨(ae.add (i * 14)).block, (ae.add (i * 14)).off + 7, none⟩ = some (.int .i64 x.f4.f3.f0) ∧ V1.cell? ⟨(ae.add (i * 14)).block, (ae.add (i * 14)).off + 8, none⟩ = some (.int .i64 x.f4.f3.f1) ∧ V1.cell? ⟨(ae.add (i * 14)).block, (ae.add (i * 14)).off + 9, none⟩ = some (.string x.f4.f3.f2) ∧ V1.cell? ⟨(ae.add (i * 14)).block, (ae.add (i * 14)).off + 10, none⟩ = some (.slice B5 x.f5.length d5) ∧ V1.cell? ⟨(ae.add (i * 14)).block, (ae.add (i * 14)).off + 11, none⟩ = some (.slice B6 x.f6.length d6) ∧ V1.cell? ⟨(ae.add (i * 14)).block, (ae.add (i * 14)).off + 12, none⟩ = some (.int .i64 x.f7) ∧ V1.cell? ⟨(ae.add (i * 14)).block, (ae.add (i * 14)).off + 13, none⟩ = some (.int .i64 x.f8) ∧ True := ⟨aC hbV1 hx0, aC hbV1 hx1, aC hbV1 hx2, aC hbV1 hx3, aC hbV1 hx4, aC hbV1 hx5, aC hbV1 hx6, aC hbV1 hx7, aC hbV1 hx8, aC hbV1 hx9, aC hbV1 hx10, aC hbV1 hx11, aC hbV1 hx12, aC hbV1 hx13, aC hbV1 hy0, aC hbV1 hy1, aC hbV1 hy2, aC hbV1 hy3, aC hbV1 hy4, aC hbV1 hy5, aC hbV1 hy6, aC hbV1 hy7, aC hbV1 hy8, aC hbV1 hy9, aC hbV1 hy10, aC hbV1 hy11, aC hbV1 hy12, aC hbV1 hy13, trivial⟩
  have bYV1 := (hkeepV1 gy (Ne.symm hne)).trans bY1
  refine hK.out _ _ hHeld2 (fun _ => ?_)
  clear hK K
  have hc11_0 := aA bYV1 0
  have hc11_1 := aA bYV1 1
  have hc11_2 := aA bYV1 2
  have hc11_3 := aA bYV1 3
  have hc11_4 := aA bYV1 4
  have hc11_5 := aA bYV1 5
  have hc11_6 := aA bYV1 6
  have hc11_7 := aA bYV1 7
  have hc11_8 := aA bYV1 8
  have hc11_9 := aA bYV1 9
  have hc11_10 := aA bYV1 10
  have hc11_11 := aA bYV1 11
  have hc11_12 := aA bYV1 12
  have hc11_13 := aA bYV1 13
  have hf11_0 := aD bYV1 0
  have hf11_1 := aD bYV1 1
  have hf11_2 := aD bYV1 2
  have hf11_3 := aD bYV1 3
  have hf11_4 := aD bYV1 4
  have hf11_5 := aD bYV1 5
  have hf11_6 := aD bYV1 6
  have hf11_7 := aD bYV1 7
  have hf11_8 := aD bYV1 8
  have hf11_9 := aD bYV1 9
  have hf11_10 := aD bYV1 10
  have hf11_11 := aD bYV1 11
  have hf11_12 := aD bYV1 12
  have hf11_13 := aD bYV1 13
  refine last_ (i := 11) (N := none) (Steps.Bs 12 4095) rfl rfl z1_ z11_ (fun K hK => ?_)
  refine skip_ (w1 := ?_) z12_ rfl ?_ ?_
  rotate_left
  ·
   go_simp
   rfl
  obtain ⟨V2, hV, hbV2, bNV2, hkeepV2⟩ := store14 hbV1 hgy bYV1 (.int .i64 x.f0) (.int .i64 x.f1) (.int .i64 x.f2) (.int .i64 x.f3) (.int .i64 x.f4.f0) (.int .i64 x.f4.f1) (.int .i64 x.f4.f2) (.int .i64 x.f4.f3.f0) (.int .i64 x.f4.f3.f1) (.string x.f4.f3.f2) (.slice B5 x.f5.length d5) (.slice B6 x.f6.length d6) (.int .i64 x.f7) (.int .i64 x.f8)
  rw [← hV]
  clear hV hc11_0 hf11_0 hc11_1 hf11_1 hc11_2 hf11_2 hc11_3 hf11_3 hc11_4 hf11_4 hc11_5 hf11_5 hc11_6 hf11_6 hc11_7 hf11_7 hc11_8 hf11_8 hc11_9 hf11_9 hc11_10 hf11_10 hc11_11 hf11_11 hc11_12 hf11_12 hc11_13 hf11_13
  have bXV2 := (hkeepV2 gx hne).trans bNV1
  refine hK.out _ _ ?_
  clear hK K hkeepV1 hkeepV2 bX1 bY1 bYV1 hb1 bNV1 hHeld0 hHeld2 hl0 hb0
  refine done_ z1_ ?_
  have hX0W := aA bXV2
  have hY0W := aA bNV2
  go_wp2_with (first | (go_at_call 33; refine (PAll.raddlekeep_Value.calls x.f4.f3.f0 x.f4.f3.f1 x.f4.f3.f2 x.f4.f3.f0 x.f4.f3.f1 x.f4.f3.f2 true _ (by unfold raddlekeep_Value.f; rw [if_pos rfl, if_pos rfl, beq_self_eq_true])).mono ?_; rintro e V ⟨rfl, hq⟩; have HBV := mk_ (aG hbV2 hq); have bXV := aE bXV2 hq; have bYV := aE bNV2 hq; have hX0V := aA bXV; have hY0V := aA bYV; clear hq) | (go_at_call 18; (with_reducible show Calls _ _ #[.slice A5 x.f5.length c5, _] _ _); refine (PAll.raddlekeep_Ints.calls (x.f5.length + 5) A5 c5 x.f5 B5 d5 x.f5 true _ (aN HCX5.out (by repeat (first | exact HBV.out | refine bF ?_ | refine aX ?_ _))) HLX5.out (aN HCY5.out (by repeat (first | exact HBV.out | refine bF ?_ | refine aX ?_ _))) HLY5.out (ints_same _ _ z5_ (by have := HSM.out; omega))).mono ?_; rintro e w' ⟨rfl, ⟨n5, rfl⟩⟩) | (go_at_call 18; (with_reducible show Calls _ _ #[.slice A6 x.f6.length c6, _] _ _); refine (PAll.raddlekeep_Ints.calls (x.f6.length + 5) A6 c6 x.f6 B6 d6 x.f6 true _ (aN HCX6.out (by repeat (first | exact HBV.out | refine bF ?_ | refine aX ?_ _))) HLX6.out (aN HCY6.out (by repeat (first | exact HBV.out | refine bF ?_ | refine aX ?_ _))) HLY6.out (ints_same _ _ z5_ (by have := HSM.out; omega))).mono ?_; rintro e w' ⟨rfl, ⟨n6, rfl⟩⟩))
  go_roundg k1
  case measure => exact Nat.lt_succ_self _
  case rel => exact ⟨i + 1, by rw [w64 z5_ (by have := HI2.out; have := HL.out; omega)]; rfl, ⟨by have := HK.out; omega, by have := HI2.out; omega⟩, ⟨(by repeat (first | exact HBV.out | refine bF ?_ | refine aX ?_ _))⟩⟩
end Go.Proofs.Ytimbbaoodjhdoaa.Plan
namespace Go.Proofs.Ytimbbaoodjhdoaa.PAll
open Go.RowKit Plan Plain PrintWords PrintLast PrintMore ZipT PrintWords.Kd PrintMore.Kd
set_option linter.unusedVariables false
theorem noEq (a b : No) : (a.f0 = b.f0 ∧ a.f1 = b.f1 ∧ a.f2 = b.f2 ∧ a.f3 = b.f3 ∧ a.f4.f0 = b.f4.f0 ∧ a.f4.f1 = b.f4.f1 ∧ a.f4.f2 = b.f4.f2 ∧ a.f4.f3.f0 = b.f4.f3.f0 ∧ a.f4.f3.f1 = b.f4.f3.f1 ∧ a.f4.f3.f2 = b.f4.f3.f2 ∧ a.f5 = b.f5 ∧ a.f6 = b.f6 ∧ a.f7 = b.f7 ∧ a.f8 = b.f8) ↔ a = b := by
 obtain ⟨a0, a1, a2, a3, ⟨p0, p1, p2, ⟨v0, v1, v2⟩⟩, a5, a6, a7, a8⟩ := a
 obtain ⟨b0, b1, b2, b3, ⟨q0, q1, q2, ⟨u0, u1, u2⟩⟩, b5, b6, b7, b8⟩ := b
 constructor
 ·
  rintro ⟨rfl, rfl, rfl, rfl, rfl, rfl, rfl, rfl, rfl, rfl, rfl, rfl, rfl, rfl⟩; rfl
 ·
  intro h; cases h; exact ⟨rfl, rfl, rfl, rfl, rfl, rfl, rfl, rfl, rfl, rfl, rfl, rfl, rfl, rfl⟩
instance : DecidableEq No := fun a b => decidable_of_iff _ (noEq a b)
def dD.f (l0 l1 : List No) : Option Bool := if l0 = l1 ∧ l0.length ≤ 1000 ∧ ∀ x ∈ l0, x.f5.length ≤ 1000 ∧ x.f6.length ≤ 1000 then some true else none
theorem dD.calls (A0 : Option Addr) (c0 : Nat) (l0 : List No) (A1 : Option Addr) (c1 : Nat) (l1 : List No) (r : Bool) (w : World) (hr0 : Kd.C k34 w A0 l0.length l0) (hc0 : l0.length ≤ c0) (hr1 : Kd.C k34 w A1 l1.length l1) (hc1 : l1.length ≤ c1) (h : dD.f l0 l1 = some r) :
  Calls Try.prog 22 #[.slice A0 l0.length c0, .slice A1 l1.length c1] w fun e w' => e = .returned (.bool r) ∧ Below w.heap.size w w' := by
 unfold dD.f at h
 split at h
 ·
  rename_i hs
  obtain ⟨rfl, h1, h2⟩ := hs
  obtain rfl := Option.some.inj h
  exact nodes_same A0 c0 A1 c1 l0 w hr0 hr1 h1 h2
 ·
  cases h
end Go.Proofs.Ytimbbaoodjhdoaa.PAll
end
