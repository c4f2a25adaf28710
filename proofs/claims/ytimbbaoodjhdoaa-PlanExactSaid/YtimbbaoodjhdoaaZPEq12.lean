-- Put together by a program of this session (wip/slice2.py) out of the seat's texts.
import Derived.Test.YtimbbaoodjhdoaaZPEp6
import Derived.Test.YtimbbaoodjhdoaaZPEq11

set_option maxHeartbeats 8000000
set_option maxRecDepth 100000
open Go.Proofs.YtimbbaoodjhdoaaW Go.Proofs.Ytimbbaoodjhdoaa
section
namespace Go.Proofs.Ytimbbaoodjhdoaa.Plan
open Go.RowKit PAll Plain PrintWords PrintLast PrintMore ZipT PrintWords.Kd PrintMore.Kd
set_option linter.unusedVariables false
set_option linter.unusedSimpArgs false
def useP (t : Int) (x : No) : Bool := decide (x.f0 = 1 ∧ x.f3 = t)
section
variable {x : No} {A5 A6 : Option Addr} {c5 c6 : Nat}
theorem uses1_calls (t : Int) (gb : Nat) (w : World) (hg : w.heap[gb]? = some (.cells #[.int .i64 t] 3 (0, 0))) :
  Calls Try.prog 32 #[.agg #[.int .i64 x.f0, .int .i64 x.f1, .int .i64 x.f2, .int .i64 x.f3, .int .i64 x.f4.f0, .int .i64 x.f4.f1, .int .i64 x.f4.f2, .int .i64 x.f4.f3.f0, .int .i64 x.f4.f3.f1, .string x.f4.f3.f2, .slice A5 x.f5.length c5, .slice A6 x.f6.length c6, .int .i64 x.f7, .int .i64 x.f8], .pointer (some ⟨gb, 0, none⟩)] w fun e w' => e = .returned (.bool (useP t x)) ∧ Below w.heap.size w w' := by
 have hcz : w.cell? ⟨gb, 0, none⟩ = some (.int .i64 t) := (aA hg 0).trans rfl
 have hcy := al1 hcz
 have hfz := fun o => aD (aW hg o) 0
 clear hg
 unfold useP
 by_cases h1 : x.f0 = 1
 rotate_left
 ·
  have h1b : decide (x.f0 = 1) = false := decide_eq_false h1
  have h1c : (x.f0 == 1) = false := beq_eq_false_iff_ne.2 h1
  rw [decide_eq_false (fun e => h1 e.1)]
  clear h1
  go_enter Try.func32, Try.ntmps32
  go_wp2
  go_ret
  exact ⟨rfl, (by repeat (first | exact Below.refl _ _ | refine aK ?_ _ | refine bF ?_ | refine aX ?_ _))⟩
 have h1b : decide (x.f0 = 1) = true := decide_eq_true h1
 have h1c : (x.f0 == 1) = true := beq_iff_eq.2 h1
 by_cases h2 : x.f3 = t
 ·
  have h2b : decide (x.f3 = t) = true := decide_eq_true h2
  have h2c : (x.f3 == t) = true := beq_iff_eq.2 h2
  rw [decide_eq_true ⟨h1, h2⟩]
  clear h1 h2
  go_enter Try.func32, Try.ntmps32
  go_wp2
  go_ret
  exact ⟨rfl, (by repeat (first | exact Below.refl _ _ | refine aK ?_ _ | refine bF ?_ | refine aX ?_ _))⟩
 have h2b : decide (x.f3 = t) = false := decide_eq_false h2
 have h2c : (x.f3 == t) = false := beq_eq_false_iff_ne.2 h2
 rw [decide_eq_false (fun e => h2 e.2)]
 clear h1 h2
 go_enter Try.func32, Try.ntmps32
 go_wp2
 go_ret
 exact ⟨rfl, (by repeat (first | exact Below.refl _ _ | refine aK ?_ _ | refine bF ?_ | refine aX ?_ _))⟩
end
theorem uses_index (A0 : Option Addr) (c0 : Nat) (l : List No) (t : Int) (gb : Nat) (w : World) (hr0 : Kd.C k34 w A0 l.length l) (hl : l.length ≤ 1000) (hg : w.heap[gb]? = some (.cells #[.int .i64 t] 3 (0, 0))) :
  Calls Try.prog 41 #[.slice A0 l.length c0, .func (.func 32) #[] #[.pointer (some ⟨gb, 0, none⟩)]] w fun e w' => ∃ r, e = .returned (.int .i64 r) ∧ decide (r ≥ 0) = l.any (useP t) ∧ Below w.heap.size w w' := by
 have HR0 := mk_ hr0
 have HG := mk_ hg
 have HL := mk_ hl
 clear hr0 hg hl
 go_enter Try.func41, Try.ntmps41
 go_wp2
 go_loopg [8] (l.length + 1) (fun kq v8 W' => ∃ (i : Nat), v8 = .int .i64 (i : Int) ∧ Aside0 (l.any (useP t) = (l.drop i).any (useP t)) ∧ Aside0 (kq + i = l.length + 1 ∧ i ≤ l.length) ∧ Aside0 (Below w.heap.size w W'))
 case atStart => exact ⟨0, rfl, ⟨rfl⟩, ⟨by omega⟩, ⟨(by repeat (first | exact Below.refl _ _ | refine aK ?_ _ | refine bF ?_ | refine aX ?_ _))⟩⟩
 case round =>
  obtain ⟨i, rfl, HA, HK, HB⟩ := hrel
  obtain ⟨k1, rfl⟩ : ∃ k1, gk = k1 + 1 := ⟨gk - 1, by have := HK.out; omega⟩
  by_cases hi : i < l.length
  rotate_left
  ·
   have hie : i = l.length := by have := HK.out; omega
   subst hie
   rw [List.drop_length] at HA
   have hb2' : decide ((l.length : Int) < (l.length : Int)) = false := decide_eq_false z5_
   have hb3' : decide (l.length < l.length) = false := decide_eq_false z5_
   clear hi
   go_wp2
   go_ret
   exact ⟨_, rfl, by rw [HA.out]; rfl, HB.out⟩
  obtain ⟨ad, A5, c5, A6, c6, hA, hx0, hx1, hx2, hx3, hx4, hx5, hx6, hx7, hx8, hx9, hx10, hx11, hx12, hx13, _, _, _, _⟩ := eE HR0.out (i : Int) z5_ z5_
  subst hA
  simp only [Int.toNat_natCast] at hx0 hx1 hx2 hx3 hx4 hx5 hx6 hx7 hx8 hx9 hx10 hx11 hx12 hx13
  replace hx0 := aC HB.out hx0
  replace hx1 := aC HB.out hx1
  replace hx2 := aC HB.out hx2
  replace hx3 := aC HB.out hx3
  replace hx4 := aC HB.out hx4
  replace hx5 := aC HB.out hx5
  replace hx6 := aC HB.out hx6
  replace hx7 := aC HB.out hx7
  replace hx8 := aC HB.out hx8
  replace hx9 := aC HB.out hx9
  replace hx10 := aC HB.out hx10
  replace hx11 := aC HB.out hx11
  replace hx12 := aC HB.out hx12
  replace hx13 := aC HB.out hx13
  have hdx : l.drop i = aH l (i : Int) :: l.drop (i + 1) := by
   rw [List.drop_eq_getElem_cons hi]
   congr 1
   show _ = l.getD ((i : Int).toNat) _
   rw [Int.toNat_natCast, List.getD_eq_getElem?_getD, List.getElem?_eq_getElem hi]; rfl
  rw [hdx, List.any_cons] at HA
  have hb0' : (0 ≤ (i : Int)) = True := eq_true z5_
  have hb1' : ((i : Int) < (l.length : Int)) = True := eq_true z5_
  have hb2' : decide ((i : Int) < (l.length : Int)) = true := decide_eq_true z5_
  have hb3' : decide (i < l.length) = true := decide_eq_true hi
  have HI2 := mk_ hi
  clear hi hdx
  generalize aH l (i : Int) = x at *
  have HGV := mk_ (aE HG.out HB.out)
  generalize hp : useP t x = p at *
  have HP := mk_ hp
  clear hp
  cases p with
  | true =>
   go_wp2_with ((with_reducible refine Steps.gate_any rfl ?_); refine Steps.goesV_ (some 16) rfl rfl Try.func32 z1_ rfl #[.agg #[.int .i64 x.f0, .int .i64 x.f1, .int .i64 x.f2, .int .i64 x.f3, .int .i64 x.f4.f0, .int .i64 x.f4.f1, .int .i64 x.f4.f2, .int .i64 x.f4.f3.f0, .int .i64 x.f4.f3.f1, .string x.f4.f3.f2, .slice A5 x.f5.length c5, .slice A6 x.f6.length c6, .int .i64 x.f7, .int .i64 x.f8], .pointer (some ⟨gb, 0, none⟩)] rfl (cap := #[.pointer (some ⟨gb, 0, none⟩)]) (by first | rfl | go_simp) (by first | rfl | (go_simp; done)) ?_; (refine (uses1_calls (x := x) (A5 := A5) (c5 := c5) (A6 := A6) (c6 := c6) t gb _ HGV.out).mono ?_); rw [HP.out]; rintro e V ⟨rfl, hq⟩; have hbV := aG HB.out hq; refine ⟨_, rfl, ?_⟩)
   go_ret
   exact ⟨_, rfl, by rw [HA.out]; simp, (by repeat (first | exact Below.refl _ _ | exact hbV | refine aK ?_ _ | refine bF ?_ | refine aX ?_ _))⟩
  | false =>
   rw [Bool.false_or] at HA
   go_wp2_with ((with_reducible refine Steps.gate_any rfl ?_); refine Steps.goesV_ (some 16) rfl rfl Try.func32 z1_ rfl #[.agg #[.int .i64 x.f0, .int .i64 x.f1, .int .i64 x.f2, .int .i64 x.f3, .int .i64 x.f4.f0, .int .i64 x.f4.f1, .int .i64 x.f4.f2, .int .i64 x.f4.f3.f0, .int .i64 x.f4.f3.f1, .string x.f4.f3.f2, .slice A5 x.f5.length c5, .slice A6 x.f6.length c6, .int .i64 x.f7, .int .i64 x.f8], .pointer (some ⟨gb, 0, none⟩)] rfl (cap := #[.pointer (some ⟨gb, 0, none⟩)]) (by first | rfl | go_simp) (by first | rfl | (go_simp; done)) ?_; (refine (uses1_calls (x := x) (A5 := A5) (c5 := c5) (A6 := A6) (c6 := c6) t gb _ HGV.out).mono ?_); rw [HP.out]; rintro e V ⟨rfl, hq⟩; have hbV := aG HB.out hq; refine ⟨_, rfl, ?_⟩)
   go_roundg k1
   case measure => exact Nat.lt_succ_self _
   case rel => exact ⟨i + 1, by rw [w64 z5_ (by have := HI2.out; have := HL.out; omega)]; rfl, HA, ⟨by have := HK.out; omega, by have := HI2.out; omega⟩, ⟨(by repeat (first | exact Below.refl _ _ | exact hbV | refine aK ?_ _ | refine bF ?_ | refine aX ?_ _))⟩⟩
theorem uses_contains (A0 : Option Addr) (c0 : Nat) (l : List No) (t : Int) (gb : Nat) (w : World) (hr0 : Kd.C k34 w A0 l.length l) (hl : l.length ≤ 1000) (hg : w.heap[gb]? = some (.cells #[.int .i64 t] 3 (0, 0))) :
  Calls Try.prog 31 #[.slice A0 l.length c0, .func (.func 32) #[] #[.pointer (some ⟨gb, 0, none⟩)]] w fun e w' => e = .returned (.bool (l.any (useP t))) ∧ Below w.heap.size w w' := by
 have HI := mk_ (uses_index A0 c0 l t gb w hr0 hl hg)
 clear hr0 hl hg
 go_enter Try.func31, Try.ntmps31
 go_wp2_with (go_at_call 41; refine HI.out.mono ?_; rintro e V ⟨r, rfl, hr, hq⟩; have HQ := mk_ hq; have HRR := mk_ hr; clear hq hr)
 go_ret
 exact ⟨by rw [← HRR.out]; rfl, HQ.out⟩
end Go.Proofs.Ytimbbaoodjhdoaa.Plan
namespace Go.Proofs.Ytimbbaoodjhdoaa.PAll
open Go.RowKit Plan Plain PrintWords PrintLast PrintMore ZipT PrintWords.Kd PrintMore.Kd
set_option linter.unusedVariables false
set_option linter.unusedSimpArgs false
def eT.f (l0 : List No) (a1 : Int) : Option Bool := if l0.length ≤ 1000 then some (l0.any (useP a1)) else none
theorem eT.calls (A0 : Option Addr) (c0 : Nat) (l0 : List No) (a1 : Int) (r : Bool) (w : World) (hr0 : Kd.C k34 w A0 l0.length l0) (hc0 : l0.length ≤ c0) (h : eT.f l0 a1 = some r) :
  Calls Try.prog 21 #[.slice A0 l0.length c0, .int .i64 a1] w fun e w' => e = .returned (.bool r) ∧ Below w.heap.size w w' := by
 unfold eT.f at h
 split at h
 ·
  rename_i hs
  obtain rfl := Option.some.inj h
  have HC := mk_ (uses_contains A0 c0 l0 a1 w.heap.size (w.alloc (.cells #[.int .i64 a1] 3)) (aN hr0 (aK (Below.refl _ _) _)) hs (cN _ _))
  clear h hr0 hs
  go_enter Try.func21, Try.ntmps21
  go_wp2_with (go_at_call 31; refine HC.out.mono ?_; rintro e V ⟨rfl, hq⟩; have HQ := mk_ hq; clear hq)
  go_ret
  exact ⟨rfl, aG (aK (Below.refl _ _) _) HQ.out⟩
 ·
  cases h
def cW.f (l0 : List No) (l1 : List Tb) : Option (List Bo × Int) := if planSmall l0 l1 then some ((planN l0 l1).1.map ofNd, (planN l0 l1).2) else none
theorem cW.calls (A0 : Option Addr) (c0 : Nat) (l0 : List No) (A1 : Option Addr) (c1 : Nat) (l1 : List Tb) (r1 : List Bo) (r2 : Int) (w : World) (hr0 : Kd.C k34 w A0 l0.length l0) (hc0 : l0.length ≤ c0) (hr1 : Kd.C k54 w A1 l1.length l1) (hc1 : l1.length ≤ c1) (h : cW.f l0 l1 = some (r1, r2)) :
  Calls Try.prog 11 #[.slice A0 l0.length c0, .slice A1 l1.length c1] w fun e w' => ∃ v0_ : Value, e = .returned (.tuple #[v0_, .int .i64 r2]) ∧ Kd.S k49 49 w' w.heap.size (fun _ => True) v0_ r1 ∧ Below w.heap.size w w' := by
 unfold cW.f at h
 split at h
 ·
  rename_i hs
  obtain ⟨rfl, rfl⟩ := Prod.mk.inj (Option.some.inj h)
  exact plan14_calls A0 c0 l0 A1 c1 l1 w hr0 hc0 hr1 hc1 hs.1 (by have := hs.2.1; omega) hs.2.2.1 hs.2.2.2
 ·
  cases h
end Go.Proofs.Ytimbbaoodjhdoaa.PAll
end
