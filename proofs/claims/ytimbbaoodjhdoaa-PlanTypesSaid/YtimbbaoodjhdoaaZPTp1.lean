-- Put together by a program of this session (wip/slice2.py) out of the seat's texts.
import Derived.Test.YtimbbaoodjhdoaaZPTp0
import Derived.Laws.Strings
set_option maxHeartbeats 8000000
set_option maxRecDepth 100000
open Go.Proofs.YtimbbaoodjhdoaaW Go.Proofs.Ytimbbaoodjhdoaa
section
namespace Go.Proofs.Ytimbbaoodjhdoaa.Plain
open Go.RowKit PAll PrintWords PrintLast PrintMore ZipT PrintWords.Kd PrintMore.Kd
set_option linter.unusedVariables false
set_option linter.unusedSimpArgs false
theorem toList_data (b : ByteArray) : b.toList = b.data.toList := Go.ByteArray.toList_eq b
end Go.Proofs.Ytimbbaoodjhdoaa.Plain
end
section
namespace Go.Proofs.Ytimbbaoodjhdoaa.Plain
open Go.RowKit PAll PrintWords PrintLast PrintMore ZipT PrintWords.Kd PrintMore.Kd
set_option linter.unusedVariables false
set_option linter.unusedSimpArgs false
theorem rin_eq (a b c : Int) : bX.f a b c = some (decide (b ≤ a ∧ a ≤ c)) := by
 unfold bX.f
 by_cases h : a ≥ b
 ·
  rw [if_pos h]; simp [h]
 rw [if_neg h]; simp [h] <;> omega
end Go.Proofs.Ytimbbaoodjhdoaa.Plain
end
section
namespace Go.Proofs.Ytimbbaoodjhdoaa.PAll
open Go.RowKit PrintWords PrintLast PrintMore ZipT PrintWords.Kd PrintMore.Kd
attribute [local go_sem] eC eA eM eK dP dR dZ eB   -- for this text's walks alone
set_option linter.unusedVariables false
set_option linter.unusedSimpArgs false
def bU.f (a0_0 : Int) (a0_1 : Int) (a0_2 : ByteArray) : Option (Bool) := if a0_0 = 1 then (if a0_1 = 0 then (some (a0_2.toList == ([] : List UInt8))) else (some false)) else (if a0_0 = 2 then ((bX.f a0_1 0 1).bind fun t116 => (if t116 = true then (some (a0_2.toList == ([] : List UInt8))) else (some false))) else (if a0_0 = 3 then ((bX.f a0_1 (-1152921504606846976) 1152921504606846976).bind fun t117 => (if t117 = true then (some (a0_2.toList == ([] : List UInt8))) else (some false))) else (if a0_0 = 4 then (if a0_1 = 0 then (some (decide ((a0_2.size : Int) ≤ 24))) else (some false)) else (some false))))
theorem bU.calls (a0_0 : Int) (a0_1 : Int) (a0_2 : ByteArray) (r : Bool) (w : World) (h : bU.f a0_0 a0_1 a0_2 = some r) :
  Calls Try.prog 42 #[.agg #[.int .i64 a0_0, .int .i64 a0_1, .string a0_2]] w fun e w' => e = .returned (.bool r) ∧ Below w.heap.size w w' := by
 have hu29 := Try.underlying29
 have HB := mk_ (Below.refl w.heap.size w)
 have H : (if a0_0 = 1 then (if a0_1 = 0 then (some (a0_2.toList == ([] : List UInt8))) else (some false)) else (if a0_0 = 2 then ((bX.f a0_1 0 1).bind fun t116 => (if t116 = true then (some (a0_2.toList == ([] : List UInt8))) else (some false))) else (if a0_0 = 3 then ((bX.f a0_1 (-1152921504606846976) 1152921504606846976).bind fun t117 => (if t117 = true then (some (a0_2.toList == ([] : List UInt8))) else (some false))) else (if a0_0 = 4 then (if a0_1 = 0 then (some (decide ((a0_2.size : Int) ≤ 24))) else (some false)) else (some false))))) = some r := h
 clear h
 by_cases c2 : a0_0 = 1
 ·
  rw [if_pos c2] at H
  have c2b0 : (a0_0 == 1) = true := beq_iff_eq.mpr c2
  have c2b1 : (a0_0 != 1) = false := bne_eq_false_iff_eq.mpr c2
  clear c2
  by_cases c3 : a0_1 = 0
  rotate_left
  ·
   rw [if_neg c3] at H
   have c3b0 : (a0_1 == 0) = false := beq_eq_false_iff_ne.mpr c3
   have c3b1 : (a0_1 != 0) = true := bne_iff_ne.mpr c3
   obtain rfl := Option.some.inj H
   go_enter Try.func42, Try.ntmps42
   go_wp2_with (first | ((with_reducible refine bI (N := 1) rfl ?_); (try (refine bW z12_ ?_; dsimp only)); refine bJ ?hg (N := 1) ?hd (cs := #[.int .i64 a0_0, .int .i64 a0_1, .string a0_2]) (t := 29) ?hr ?_; (case hd => rfl); (case hg => rfl); (case hr => first | (go_simp; done) | (go_simp; rfl)); intro gb115 hg w6 hbox hb; have n0_ := mk_ (aG (Short.hB HB) hb); have n1_ := mk_ (hbox); have n2_ := mk_ ((by rw [hg]; exact (aK (Short.hB HB)) : w.heap.size ≤ gb115)); have n3_ := mk_ ((by rw [hg]; exact (aK (Short.hB HB)) : w.heap.size ≤ gb115)); clear HB; revert n0_ n1_ n2_ n3_; intro HB BK115 GW115 GE115; clear hb hbox hg; obtain ⟨hcz7_0, hcz7_1, hcz7_2, hfz7_0, hfz7_1, hfz7_2⟩ := Short.c3 BK115.out))
   go_ret
   exact ⟨q0, Short.hB HB⟩
  rw [if_pos c3] at H
  have c3b0 : (a0_1 == 0) = true := beq_iff_eq.mpr c3
  have c3b1 : (a0_1 != 0) = false := bne_eq_false_iff_eq.mpr c3
  clear c3
  obtain rfl := Option.some.inj H
  go_enter Try.func42, Try.ntmps42
  go_wp2_with (first | ((with_reducible refine bI (N := 1) rfl ?_); (try (refine bW z12_ ?_; dsimp only)); refine bJ ?hg (N := 1) ?hd (cs := #[.int .i64 a0_0, .int .i64 a0_1, .string a0_2]) (t := 29) ?hr ?_; (case hd => rfl); (case hg => rfl); (case hr => first | (go_simp; done) | (go_simp; rfl)); intro gb115 hg w4 hbox hb; have n0_ := mk_ (aG (Short.hB HB) hb); have n1_ := mk_ (hbox); have n2_ := mk_ ((by rw [hg]; exact (aK (Short.hB HB)) : w.heap.size ≤ gb115)); have n3_ := mk_ ((by rw [hg]; exact (aK (Short.hB HB)) : w.heap.size ≤ gb115)); clear HB; revert n0_ n1_ n2_ n3_; intro HB BK115 GW115 GE115; clear hb hbox hg; obtain ⟨hcz5_0, hcz5_1, hcz5_2, hfz5_0, hfz5_1, hfz5_2⟩ := Short.c3 BK115.out))
  go_ret
  exact ⟨q0, Short.hB HB⟩
 rw [if_neg c2] at H
 have c2b0 : (a0_0 == 1) = false := beq_eq_false_iff_ne.mpr c2
 have c2b1 : (a0_0 != 1) = true := bne_iff_ne.mpr c2
 by_cases c8 : a0_0 = 2
 ·
  rw [if_pos c8] at H
  have c8b0 : (a0_0 == 2) = true := beq_iff_eq.mpr c8
  have c8b1 : (a0_0 != 2) = false := bne_eq_false_iff_eq.mpr c8
  clear c8
  replace H := Option.bind_eq_some_iff.mp H
  obtain ⟨t116, A90, H⟩ := H
  replace H : (if t116 = true then (some (a0_2.toList == ([] : List UInt8))) else (some false)) = some r := H
  have A9 := mk_ A90
  clear A90
  by_cases c10 : t116 = true
  ·
   subst c10
   rw [if_pos rfl] at H
   obtain rfl := Option.some.inj H
   go_enter Try.func42, Try.ntmps42
   go_wp2_with (first | ((with_reducible refine bI (N := 1) rfl ?_); (try (refine bW z12_ ?_; dsimp only)); refine bJ ?hg (N := 1) ?hd (cs := #[.int .i64 a0_0, .int .i64 a0_1, .string a0_2]) (t := 29) ?hr ?_; (case hd => rfl); (case hg => rfl); (case hr => first | (go_simp; done) | (go_simp; rfl)); intro gb115 hg w11 hbox hb; have n0_ := mk_ (aG (Short.hB HB) hb); have n1_ := mk_ (hbox); have n2_ := mk_ ((by rw [hg]; exact (aK (Short.hB HB)) : w.heap.size ≤ gb115)); have n3_ := mk_ ((by rw [hg]; exact (aK (Short.hB HB)) : w.heap.size ≤ gb115)); clear HB; revert n0_ n1_ n2_ n3_; intro HB BK115 GW115 GE115; clear hb hbox hg; obtain ⟨hcz12_0, hcz12_1, hcz12_2, hfz12_0, hfz12_1, hfz12_2⟩ := Short.c3 BK115.out) | ((with_reducible refine bB (f := 34) rfl ?_); refine Short.gL (some 19) Try.func34 #[.int .i64 a0_1, .int .i64 0, .int .i64 1] (h := ?_); (with_reducible refine (bX.calls a0_1 0 1 true _ A9.out).mono ?_); rintro e w' ⟨rfl, ⟨nd, rfl⟩⟩; refine ⟨_, rfl, ?_⟩))
   go_ret
   exact ⟨q0, Short.hB HB⟩
  replace c10 := Bool.eq_false_iff.mpr c10
  subst c10
  rw [if_neg (show ¬ (false = true) by decide)] at H
  obtain rfl := Option.some.inj H
  go_enter Try.func42, Try.ntmps42
  go_wp2_with (first | ((with_reducible refine bI (N := 1) rfl ?_); (try (refine bW z12_ ?_; dsimp only)); refine bJ ?hg (N := 1) ?hd (cs := #[.int .i64 a0_0, .int .i64 a0_1, .string a0_2]) (t := 29) ?hr ?_; (case hd => rfl); (case hg => rfl); (case hr => first | (go_simp; done) | (go_simp; rfl)); intro gb115 hg w13 hbox hb; have n0_ := mk_ (aG (Short.hB HB) hb); have n1_ := mk_ (hbox); have n2_ := mk_ ((by rw [hg]; exact (aK (Short.hB HB)) : w.heap.size ≤ gb115)); have n3_ := mk_ ((by rw [hg]; exact (aK (Short.hB HB)) : w.heap.size ≤ gb115)); clear HB; revert n0_ n1_ n2_ n3_; intro HB BK115 GW115 GE115; clear hb hbox hg; obtain ⟨hcz14_0, hcz14_1, hcz14_2, hfz14_0, hfz14_1, hfz14_2⟩ := Short.c3 BK115.out) | ((with_reducible refine bB (f := 34) rfl ?_); refine Short.gL (some 19) Try.func34 #[.int .i64 a0_1, .int .i64 0, .int .i64 1] (h := ?_); (with_reducible refine (bX.calls a0_1 0 1 false _ A9.out).mono ?_); rintro e w' ⟨rfl, ⟨nd, rfl⟩⟩; refine ⟨_, rfl, ?_⟩))
  go_ret
  exact ⟨q0, Short.hB HB⟩
 rw [if_neg c8] at H
 have c8b0 : (a0_0 == 2) = false := beq_eq_false_iff_ne.mpr c8
 have c8b1 : (a0_0 != 2) = true := bne_iff_ne.mpr c8
 by_cases c15 : a0_0 = 3
 ·
  rw [if_pos c15] at H
  have c15b0 : (a0_0 == 3) = true := beq_iff_eq.mpr c15
  have c15b1 : (a0_0 != 3) = false := bne_eq_false_iff_eq.mpr c15
  clear c15
  replace H := Option.bind_eq_some_iff.mp H
  obtain ⟨t117, A160, H⟩ := H
  replace H : (if t117 = true then (some (a0_2.toList == ([] : List UInt8))) else (some false)) = some r := H
  have A16 := mk_ A160
  clear A160
  by_cases c17 : t117 = true
  ·
   subst c17
   rw [if_pos rfl] at H
   obtain rfl := Option.some.inj H
   go_enter Try.func42, Try.ntmps42
   go_wp2_with (first | ((with_reducible refine bI (N := 1) rfl ?_); (try (refine bW z12_ ?_; dsimp only)); refine bJ ?hg (N := 1) ?hd (cs := #[.int .i64 a0_0, .int .i64 a0_1, .string a0_2]) (t := 29) ?hr ?_; (case hd => rfl); (case hg => rfl); (case hr => first | (go_simp; done) | (go_simp; rfl)); intro gb115 hg w18 hbox hb; have n0_ := mk_ (aG (Short.hB HB) hb); have n1_ := mk_ (hbox); have n2_ := mk_ ((by rw [hg]; exact (aK (Short.hB HB)) : w.heap.size ≤ gb115)); have n3_ := mk_ ((by rw [hg]; exact (aK (Short.hB HB)) : w.heap.size ≤ gb115)); clear HB; revert n0_ n1_ n2_ n3_; intro HB BK115 GW115 GE115; clear hb hbox hg; obtain ⟨hcz19_0, hcz19_1, hcz19_2, hfz19_0, hfz19_1, hfz19_2⟩ := Short.c3 BK115.out) | ((with_reducible refine bB (f := 34) rfl ?_); refine Short.gL (some 29) Try.func34 #[.int .i64 a0_1, .int .i64 (-1152921504606846976), .int .i64 1152921504606846976] (h := ?_); (with_reducible refine (bX.calls a0_1 (-1152921504606846976) 1152921504606846976 true _ A16.out).mono ?_); rintro e w' ⟨rfl, ⟨nd, rfl⟩⟩; refine ⟨_, rfl, ?_⟩))
   go_ret
   exact ⟨q0, Short.hB HB⟩
  replace c17 := Bool.eq_false_iff.mpr c17
  subst c17
  rw [if_neg (show ¬ (false = true) by decide)] at H
  obtain rfl := Option.some.inj H
  go_enter Try.func42, Try.ntmps42
  go_wp2_with (first | ((with_reducible refine bI (N := 1) rfl ?_); (try (refine bW z12_ ?_; dsimp only)); refine bJ ?hg (N := 1) ?hd (cs := #[.int .i64 a0_0, .int .i64 a0_1, .string a0_2]) (t := 29) ?hr ?_; (case hd => rfl); (case hg => rfl); (case hr => first | (go_simp; done) | (go_simp; rfl)); intro gb115 hg w20 hbox hb; have n0_ := mk_ (aG (Short.hB HB) hb); have n1_ := mk_ (hbox); have n2_ := mk_ ((by rw [hg]; exact (aK (Short.hB HB)) : w.heap.size ≤ gb115)); have n3_ := mk_ ((by rw [hg]; exact (aK (Short.hB HB)) : w.heap.size ≤ gb115)); clear HB; revert n0_ n1_ n2_ n3_; intro HB BK115 GW115 GE115; clear hb hbox hg; obtain ⟨hcz21_0, hcz21_1, hcz21_2, hfz21_0, hfz21_1, hfz21_2⟩ := Short.c3 BK115.out) | ((with_reducible refine bB (f := 34) rfl ?_); refine Short.gL (some 29) Try.func34 #[.int .i64 a0_1, .int .i64 (-1152921504606846976), .int .i64 1152921504606846976] (h := ?_); (with_reducible refine (bX.calls a0_1 (-1152921504606846976) 1152921504606846976 false _ A16.out).mono ?_); rintro e w' ⟨rfl, ⟨nd, rfl⟩⟩; refine ⟨_, rfl, ?_⟩))
  go_ret
  exact ⟨q0, Short.hB HB⟩
 rw [if_neg c15] at H
 have c15b0 : (a0_0 == 3) = false := beq_eq_false_iff_ne.mpr c15
 have c15b1 : (a0_0 != 3) = true := bne_iff_ne.mpr c15
 by_cases c22 : a0_0 = 4
 rotate_left
 ·
  rw [if_neg c22] at H
  have c22b0 : (a0_0 == 4) = false := beq_eq_false_iff_ne.mpr c22
  have c22b1 : (a0_0 != 4) = true := bne_iff_ne.mpr c22
  obtain rfl := Option.some.inj H
  go_enter Try.func42, Try.ntmps42
  go_wp2_with (first | ((with_reducible refine bI (N := 1) rfl ?_); (try (refine bW z12_ ?_; dsimp only)); refine bJ ?hg (N := 1) ?hd (cs := #[.int .i64 a0_0, .int .i64 a0_1, .string a0_2]) (t := 29) ?hr ?_; (case hd => rfl); (case hg => rfl); (case hr => first | (go_simp; done) | (go_simp; rfl)); intro gb115 hg w28 hbox hb; have n0_ := mk_ (aG (Short.hB HB) hb); have n1_ := mk_ (hbox); have n2_ := mk_ ((by rw [hg]; exact (aK (Short.hB HB)) : w.heap.size ≤ gb115)); have n3_ := mk_ ((by rw [hg]; exact (aK (Short.hB HB)) : w.heap.size ≤ gb115)); clear HB; revert n0_ n1_ n2_ n3_; intro HB BK115 GW115 GE115; clear hb hbox hg; obtain ⟨hcz29_0, hcz29_1, hcz29_2, hfz29_0, hfz29_1, hfz29_2⟩ := Short.c3 BK115.out))
  go_ret
  exact ⟨q0, Short.hB HB⟩
 rw [if_pos c22] at H
 have c22b0 : (a0_0 == 4) = true := beq_iff_eq.mpr c22
 have c22b1 : (a0_0 != 4) = false := bne_eq_false_iff_eq.mpr c22
 clear c22
 by_cases c23 : a0_1 = 0
 rotate_left
 ·
  rw [if_neg c23] at H
  have c23b0 : (a0_1 == 0) = false := beq_eq_false_iff_ne.mpr c23
  have c23b1 : (a0_1 != 0) = true := bne_iff_ne.mpr c23
  obtain rfl := Option.some.inj H
  go_enter Try.func42, Try.ntmps42
  go_wp2_with (first | ((with_reducible refine bI (N := 1) rfl ?_); (try (refine bW z12_ ?_; dsimp only)); refine bJ ?hg (N := 1) ?hd (cs := #[.int .i64 a0_0, .int .i64 a0_1, .string a0_2]) (t := 29) ?hr ?_; (case hd => rfl); (case hg => rfl); (case hr => first | (go_simp; done) | (go_simp; rfl)); intro gb115 hg w26 hbox hb; have n0_ := mk_ (aG (Short.hB HB) hb); have n1_ := mk_ (hbox); have n2_ := mk_ ((by rw [hg]; exact (aK (Short.hB HB)) : w.heap.size ≤ gb115)); have n3_ := mk_ ((by rw [hg]; exact (aK (Short.hB HB)) : w.heap.size ≤ gb115)); clear HB; revert n0_ n1_ n2_ n3_; intro HB BK115 GW115 GE115; clear hb hbox hg; obtain ⟨hcz27_0, hcz27_1, hcz27_2, hfz27_0, hfz27_1, hfz27_2⟩ := Short.c3 BK115.out))
  go_ret
  exact ⟨q0, Short.hB HB⟩
 rw [if_pos c23] at H
 have c23b0 : (a0_1 == 0) = true := beq_iff_eq.mpr c23
 have c23b1 : (a0_1 != 0) = false := bne_eq_false_iff_eq.mpr c23
 clear c23
 obtain rfl := Option.some.inj H
 go_enter Try.func42, Try.ntmps42
 go_wp2_with (first | ((with_reducible refine bI (N := 1) rfl ?_); (try (refine bW z12_ ?_; dsimp only)); refine bJ ?hg (N := 1) ?hd (cs := #[.int .i64 a0_0, .int .i64 a0_1, .string a0_2]) (t := 29) ?hr ?_; (case hd => rfl); (case hg => rfl); (case hr => first | (go_simp; done) | (go_simp; rfl)); intro gb115 hg w24 hbox hb; have n0_ := mk_ (aG (Short.hB HB) hb); have n1_ := mk_ (hbox); have n2_ := mk_ ((by rw [hg]; exact (aK (Short.hB HB)) : w.heap.size ≤ gb115)); have n3_ := mk_ ((by rw [hg]; exact (aK (Short.hB HB)) : w.heap.size ≤ gb115)); clear HB; revert n0_ n1_ n2_ n3_; intro HB BK115 GW115 GE115; clear hb hbox hg; obtain ⟨hcz25_0, hcz25_1, hcz25_2, hfz25_0, hfz25_1, hfz25_2⟩ := Short.c3 BK115.out))
 go_ret
 exact ⟨q0, Short.hB HB⟩
def cX.f (a0_0 : Int) (a0_1 : Int) (a0_2 : ByteArray) (a1 : Int) : Option (Bool) := (cH.f a1).bind fun t119 => (if t119 = true then ((bU.f a0_0 a0_1 a0_2).bind fun t120 => (if t120 = true then (if a0_0 = a1 then (some true) else (some (a0_0 == 1))) else (some false))) else (some false))
theorem cX.calls (a0_0 : Int) (a0_1 : Int) (a0_2 : ByteArray) (a1 : Int) (r : Bool) (w : World) (h : cX.f a0_0 a0_1 a0_2 a1 = some r) :
  Calls Try.prog 43 #[.agg #[.int .i64 a0_0, .int .i64 a0_1, .string a0_2], .int .i64 a1] w fun e w' => e = .returned (.bool r) ∧ Below w.heap.size w w' := by
 have hu29 := Try.underlying29
 have HB := mk_ (Below.refl w.heap.size w)
 have H : ((cH.f a1).bind fun t119 => (if t119 = true then ((bU.f a0_0 a0_1 a0_2).bind fun t120 => (if t120 = true then (if a0_0 = a1 then (some true) else (some (a0_0 == 1))) else (some false))) else (some false))) = some r := h
 clear h
 replace H := Option.bind_eq_some_iff.mp H
 obtain ⟨t119, A30, H⟩ := H
 replace H : (if t119 = true then ((bU.f a0_0 a0_1 a0_2).bind fun t120 => (if t120 = true then (if a0_0 = a1 then (some true) else (some (a0_0 == 1))) else (some false))) else (some false)) = some r := H
 have A3 := mk_ A30
 clear A30
 by_cases c4 : t119 = true
 rotate_left
 ·
  replace c4 := Bool.eq_false_iff.mpr c4
  subst c4
  rw [if_neg (show ¬ (false = true) by decide)] at H
  obtain rfl := Option.some.inj H
  go_enter Try.func43, Try.ntmps43
  go_wp2_with (first | ((with_reducible refine bI (N := 2) rfl ?_); refine bJ ?hg (N := 2) ?hd (cs := #[.int .i64 a0_0, .int .i64 a0_1, .string a0_2]) (t := 29) ?hr ?_; (case hd => rfl); (case hg => rfl); (case hr => first | (go_simp; done) | (go_simp; rfl)); intro gb118 hg w19 hbox hb; have n0_ := mk_ (aG (Short.hB HB) hb); have n1_ := mk_ (hbox); have n2_ := mk_ ((by rw [hg]; exact (aK (Short.hB HB)) : w.heap.size ≤ gb118)); have n3_ := mk_ ((by rw [hg]; exact (aK (Short.hB HB)) : w.heap.size ≤ gb118)); clear HB; revert n0_ n1_ n2_ n3_; intro HB BK118 GW118 GE118; clear hb hbox hg) | ((with_reducible refine bB (f := 35) rfl ?_); refine Short.gL (some 6) Try.func35 #[.int .i64 a1] (h := ?_); (with_reducible refine (cH.calls a1 false _ A3.out).mono ?_); rintro e w' ⟨rfl, ⟨nd, rfl⟩⟩; refine ⟨_, rfl, ?_⟩))
  go_ret
  exact ⟨q0, Short.hB HB⟩
 subst c4
 rw [if_pos rfl] at H
 replace H := Option.bind_eq_some_iff.mp H
 obtain ⟨t120, A50, H⟩ := H
 replace H : (if t120 = true then (if a0_0 = a1 then (some true) else (some (a0_0 == 1))) else (some false)) = some r := H
 have A5 := mk_ A50
 clear A50
 by_cases c6 : t120 = true
 rotate_left
 ·
  replace c6 := Bool.eq_false_iff.mpr c6
  subst c6
  rw [if_neg (show ¬ (false = true) by decide)] at H
  obtain rfl := Option.some.inj H
  go_enter Try.func43, Try.ntmps43
  go_wp2_with (first | ((with_reducible refine bI (N := 2) rfl ?_); refine bJ ?hg (N := 2) ?hd (cs := #[.int .i64 a0_0, .int .i64 a0_1, .string a0_2]) (t := 29) ?hr ?_; (case hd => rfl); (case hg => rfl); (case hr => first | (go_simp; done) | (go_simp; rfl)); intro gb118 hg w16 hbox hb; have n0_ := mk_ (aG (Short.hB HB) hb); have n1_ := mk_ (hbox); have n2_ := mk_ ((by rw [hg]; exact (aK (Short.hB HB)) : w.heap.size ≤ gb118)); have n3_ := mk_ ((by rw [hg]; exact (aK (Short.hB HB)) : w.heap.size ≤ gb118)); clear HB; revert n0_ n1_ n2_ n3_; intro HB BK118 GW118 GE118; clear hb hbox hg) | ((with_reducible refine bB (f := 35) rfl ?_); refine Short.gL (some 6) Try.func35 #[.int .i64 a1] (h := ?_); (with_reducible refine (cH.calls a1 true _ A3.out).mono ?_); rintro e w' ⟨rfl, ⟨nd, rfl⟩⟩; refine ⟨_, rfl, ?_⟩; obtain ⟨hcz17_0, hcz17_1, hcz17_2, hfz17_0, hfz17_1, hfz17_2⟩ := Short.c3 BK118.out) | (go_at_call 42; (with_reducible refine (bU.calls a0_0 a0_1 a0_2 false _ A5.out).mono ?_); rintro e w18 ⟨rfl, hb⟩; have n0_ := mk_ (bB_ BK118 hb); have n1_ := mk_ (aG (Short.hB HB) hb); clear BK118 HB; revert n0_ n1_; intro BK118 HB; (try clear hb); (try clear hb2); (try clear hk); (try clear hi)))
  go_ret
  exact ⟨q0, Short.hB HB⟩
 subst c6
 rw [if_pos rfl] at H
 by_cases c7 : a0_0 = a1
 rotate_left
 ·
  rw [if_neg c7] at H
  have c7b0 : (a0_0 == a1) = false := beq_eq_false_iff_ne.mpr c7
  have c7b1 : (a0_0 != a1) = true := bne_iff_ne.mpr c7
  obtain rfl := Option.some.inj H
  go_enter Try.func43, Try.ntmps43
  go_wp2_with (first | ((with_reducible refine bI (N := 2) rfl ?_); refine bJ ?hg (N := 2) ?hd (cs := #[.int .i64 a0_0, .int .i64 a0_1, .string a0_2]) (t := 29) ?hr ?_; (case hd => rfl); (case hg => rfl); (case hr => first | (go_simp; done) | (go_simp; rfl)); intro gb118 hg w12 hbox hb; have n0_ := mk_ (aG (Short.hB HB) hb); have n1_ := mk_ (hbox); have n2_ := mk_ ((by rw [hg]; exact (aK (Short.hB HB)) : w.heap.size ≤ gb118)); have n3_ := mk_ ((by rw [hg]; exact (aK (Short.hB HB)) : w.heap.size ≤ gb118)); clear HB; revert n0_ n1_ n2_ n3_; intro HB BK118 GW118 GE118; clear hb hbox hg) | ((with_reducible refine bB (f := 35) rfl ?_); refine Short.gL (some 6) Try.func35 #[.int .i64 a1] (h := ?_); (with_reducible refine (cH.calls a1 true _ A3.out).mono ?_); rintro e w' ⟨rfl, ⟨nd, rfl⟩⟩; refine ⟨_, rfl, ?_⟩; obtain ⟨hcz13_0, hcz13_1, hcz13_2, hfz13_0, hfz13_1, hfz13_2⟩ := Short.c3 BK118.out) | (go_at_call 42; (with_reducible refine (bU.calls a0_0 a0_1 a0_2 true _ A5.out).mono ?_); rintro e w14 ⟨rfl, hb⟩; have n0_ := mk_ (bB_ BK118 hb); have n1_ := mk_ (aG (Short.hB HB) hb); clear BK118 HB; revert n0_ n1_; intro BK118 HB; (try clear hb); (try clear hb2); (try clear hk); (try clear hi); obtain ⟨hcz15_0, hcz15_1, hcz15_2, hfz15_0, hfz15_1, hfz15_2⟩ := Short.c3 BK118.out))
  go_ret
  exact ⟨q0, Short.hB HB⟩
 rw [if_pos c7] at H
 have c7b0 : (a0_0 == a1) = true := beq_iff_eq.mpr c7
 have c7b1 : (a0_0 != a1) = false := bne_eq_false_iff_eq.mpr c7
 clear c7
 obtain rfl := Option.some.inj H
 go_enter Try.func43, Try.ntmps43
 go_wp2_with (first | ((with_reducible refine bI (N := 2) rfl ?_); refine bJ ?hg (N := 2) ?hd (cs := #[.int .i64 a0_0, .int .i64 a0_1, .string a0_2]) (t := 29) ?hr ?_; (case hd => rfl); (case hg => rfl); (case hr => first | (go_simp; done) | (go_simp; rfl)); intro gb118 hg w8 hbox hb; have n0_ := mk_ (aG (Short.hB HB) hb); have n1_ := mk_ (hbox); have n2_ := mk_ ((by rw [hg]; exact (aK (Short.hB HB)) : w.heap.size ≤ gb118)); have n3_ := mk_ ((by rw [hg]; exact (aK (Short.hB HB)) : w.heap.size ≤ gb118)); clear HB; revert n0_ n1_ n2_ n3_; intro HB BK118 GW118 GE118; clear hb hbox hg) | ((with_reducible refine bB (f := 35) rfl ?_); refine Short.gL (some 6) Try.func35 #[.int .i64 a1] (h := ?_); (with_reducible refine (cH.calls a1 true _ A3.out).mono ?_); rintro e w' ⟨rfl, ⟨nd, rfl⟩⟩; refine ⟨_, rfl, ?_⟩; obtain ⟨hcz9_0, hcz9_1, hcz9_2, hfz9_0, hfz9_1, hfz9_2⟩ := Short.c3 BK118.out) | (go_at_call 42; (with_reducible refine (bU.calls a0_0 a0_1 a0_2 true _ A5.out).mono ?_); rintro e w10 ⟨rfl, hb⟩; have n0_ := mk_ (bB_ BK118 hb); have n1_ := mk_ (aG (Short.hB HB) hb); clear BK118 HB; revert n0_ n1_; intro BK118 HB; (try clear hb); (try clear hb2); (try clear hk); (try clear hi); obtain ⟨hcz11_0, hcz11_1, hcz11_2, hfz11_0, hfz11_1, hfz11_2⟩ := Short.c3 BK118.out))
 go_ret
 exact ⟨q0, Short.hB HB⟩
end Go.Proofs.Ytimbbaoodjhdoaa.PAll
end
section
namespace Go.Proofs.Ytimbbaoodjhdoaa.PAll
open Go.RowKit PrintWords PrintLast PrintMore ZipT PrintWords.Kd PrintMore.Kd
attribute [local go_sem] eC eA eM eK dP dR dZ eB   -- for this text's walks alone
set_option linter.unusedVariables false
set_option linter.unusedSimpArgs false
def raddleref14_pick.l0 : Nat → List Int → List Int → List Int → Int → Option (List Int × Bool)
 | 0, _, _, _, _ => none
 | k + 1, x0, x1, x6, x7 => if x7 < (x1.length : Int) then (if 0 ≤ x7 then ((raddleref14_in.f (rd x1 x7) 0 (wrap64 ((x0.length : Int) - 1))).bind fun t134 => (if t134 = true then (if 0 ≤ (rd x1 x7) then (if (rd x1 x7) < (x0.length : Int) then (if x6.length < 17592186044416 then (raddleref14_pick.l0 k x0 x1 (x6 ++ [rd x0 (rd x1 x7)]) (wrap64 (x7 + 1))) else (none)) else (none)) else (none)) else (some (([] : List Int), false)))) else (none)) else (some (x6, true))
def raddleref14_pick.f (k : Nat) (l0 : List Int) (l1 : List Int) : Option (List Int × Bool) := raddleref14_pick.l0 k l0 l1 ([] : List Int) 0
theorem raddleref14_pick.calls (k : Nat) (A0 : Option Addr) (c0 : Nat) (l0 : List Int) (A1 : Option Addr) (c1 : Nat) (l1 : List Int) (r1 : List Int) (r2 : Bool) (w : World) (hr0 : Kd.C (Kd.int .i64) w A0 l0.length l0) (hc0 : l0.length ≤ c0) (hr1 : Kd.C (Kd.int .i64) w A1 l1.length l1) (hc1 : l1.length ≤ c1) (h : raddleref14_pick.f k l0 l1 = some (r1, r2)) :
  Calls Try.prog 37 #[.slice A0 l0.length c0, .slice A1 l1.length c1] w fun e w' => ∃ v0_ : Value, e = .returned (.tuple #[v0_, .bool r2]) ∧ Kd.R (Kd.int .i64) 3 w' w.heap.size (fun _ => True) v0_ r1 ∧ Below w.heap.size w w' := by
 have HR0 := mk_ hr0
 have HC0 := mk_ hc0
 clear hr0 hc0
 have HR1 := mk_ hr1
 have HC1 := mk_ hc1
 clear hr1 hc1
 have HB := mk_ (Below.refl w.heap.size w)
 have H : (raddleref14_pick.l0 k l0 l1 ([] : List Int) 0) = some (r1, r2) := h
 clear h
 have H' := mk_ H
 clear H
 go_enter Try.func37, Try.ntmps37
 go_wp2
 go_loopg [6, 7] k (fun kq v6 v7 w' => ∃ (x6_1 : List Int) (x7_1 : Int), v7 = .int .i64 x7_1 ∧ Aside0 (raddleref14_pick.l0 kq l0 l1 x6_1 x7_1 = some (r1, r2)) ∧ Aside0 (kq ≤ k) ∧ Aside0 (Kd.R (Kd.int .i64) 3 w' w.heap.size (fun _ => True) v6 x6_1) ∧ Aside0 (Below w.heap.size w w'))
 case atStart => exact ⟨(([] : List Int)), (0), z9_, H', ⟨Nat.le_refl _⟩, ⟨by first | exact R_nil _ _ _ _ _ | exact N_nil _ _ _ _ _ | exact V_nil _ _ _ _ _ | exact Q_nil _ _ _ _ _ | exact S_nil _ _ _ _ _⟩, ⟨Short.hB HB⟩⟩
 case round =>
  clear H'
  try clear c1
  try clear p2
  obtain ⟨x6_1, x7_1, rfl, HA, HK1, HO_6, HB⟩ := hrel
  cases gk with
  | zero => exact absurd HA.out (by simp [raddleref14_pick.l0])
  | succ k1 =>
   have H := HA.out
   clear HA
   simp only [raddleref14_pick.l0] at H
   by_cases c3 : x7_1 < (l1.length : Int)
   rotate_left
   ·
    rw [if_neg c3] at H
    have c3b0 : decide (x7_1 < (l1.length : Int)) = false := decide_eq_false c3
    clear c3
    simp only [Option.some.injEq, Prod.mk.injEq] at H
    obtain ⟨rfl, rfl⟩ := H
    go_wp2
    go_ret2
    exact ⟨_, by first | rfl | (simp [bY, bZ] <;> rfl) | (simp [*, bY, bZ] <;> rfl), by (with_reducible repeat (first | apply R_alloc | apply R_drewN | apply R_drew)); exact HO_6.out, Short.hB HB⟩
   rw [if_pos c3] at H
   have c3b0 : decide (x7_1 < (l1.length : Int)) = true := decide_eq_true c3
   clear c3
   by_cases c4 : 0 ≤ x7_1
   rotate_left
   ·
    rw [if_neg c4] at H
    exact absurd H (by simp)
   rw [if_pos c4] at H
   have c4b0 : decide (0 ≤ x7_1) = true := decide_eq_true c4
   clear c4
   replace H := Option.bind_eq_some_iff.mp H
   obtain ⟨t134, A50, H⟩ := H
   replace H : (if t134 = true then (if 0 ≤ (rd l1 x7_1) then (if (rd l1 x7_1) < (l0.length : Int) then (if x6_1.length < 17592186044416 then (raddleref14_pick.l0 k1 l0 l1 (x6_1 ++ [rd l0 (rd l1 x7_1)]) (wrap64 (x7_1 + 1))) else (none)) else (none)) else (none)) else (some (([] : List Int), false))) = some (r1, r2) := H
   have A5 := mk_ A50
   clear A50
   by_cases c6 : t134 = true
   rotate_left
   ·
    replace c6 := Bool.eq_false_iff.mpr c6
    subst c6
    rw [if_neg (show ¬ (false = true) by decide)] at H
    simp only [Option.some.injEq, Prod.mk.injEq] at H
    obtain ⟨rfl, rfl⟩ := H
    have p133 : 0 ≤ (x7_1 : Int) := of_decide_eq_true z4_
    have q133 : x7_1 < (l1.length : Int) := of_decide_eq_true z4_
    obtain ⟨ad133, e133, hx133_0⟩ := Kd.at_int HR1.out x7_1 p133 q133
    cases e133
    replace hx133_0 := up_ HB hx133_0
    replace p133 := eq_true p133
    replace q133 := eq_true q133
    go_wp2_with (first | ((with_reducible refine bB (f := 26) rfl ?_); refine Short.gL (some 21) Try.func26 #[.int .i64 (rd l1 x7_1), .int .i64 0, .int .i64 (wrap64 ((l0.length : Int) - 1))] (h := ?_); (with_reducible refine (raddleref14_in.calls (rd l1 x7_1) 0 (wrap64 ((l0.length : Int) - 1)) false _ A5.out).mono ?_); rintro e w' ⟨rfl, ⟨nd, rfl⟩⟩; refine ⟨_, rfl, ?_⟩))
    go_ret2
    exact ⟨_, by first | rfl | (simp [bY, bZ] <;> rfl) | (simp [*, bY, bZ] <;> rfl), by first | exact R_nil _ _ _ _ _ | exact N_nil _ _ _ _ _ | exact V_nil _ _ _ _ _ | exact Q_nil _ _ _ _ _ | exact S_nil _ _ _ _ _, Short.hB HB⟩
   subst c6
   rw [if_pos rfl] at H
   by_cases c7 : 0 ≤ (rd l1 x7_1)
   rotate_left
   ·
    rw [if_neg c7] at H
    exact absurd H (by simp)
   rw [if_pos c7] at H
   have c7b0 : decide (0 ≤ (rd l1 x7_1)) = true := decide_eq_true c7
   clear c7
   by_cases c8 : (rd l1 x7_1) < (l0.length : Int)
   rotate_left
   ·
    rw [if_neg c8] at H
    exact absurd H (by simp)
   rw [if_pos c8] at H
   have c8b0 : decide ((rd l1 x7_1) < (l0.length : Int)) = true := decide_eq_true c8
   clear c8
   by_cases c9 : x6_1.length < 17592186044416
   rotate_left
   ·
    rw [if_neg c9] at H
    exact absurd H (by simp)
   rw [if_pos c9] at H
   have LMc9 := mk_ c9
   clear c9
   obtain ⟨y137, hy137⟩ : ∃ y_ : List Int, y_ = (x6_1 ++ [rd l0 (rd l1 x7_1)]) := ⟨_, rfl⟩
   replace H : (raddleref14_pick.l0 k1 l0 l1 y137 (wrap64 (x7_1 + 1))) = some (r1, r2) := by first | (rw [hy137]; with_reducible exact H) | (have H2_ := (Option.bind_some _ _).symm.trans H; rw [hy137]; with_reducible exact H2_) | (have H2_ := (Option.bind_some _ _).symm.trans H; with_reducible exact H2_) | with_reducible exact H | (rw [hy137]; exact H) | exact H
   have Ny137 := mk_ hy137
   clear hy137
   have H' := mk_ H
   clear H
   have p133 : 0 ≤ (x7_1 : Int) := of_decide_eq_true z4_
   have q133 : x7_1 < (l1.length : Int) := of_decide_eq_true z4_
   obtain ⟨ad133, e133, hx133_0⟩ := Kd.at_int HR1.out x7_1 p133 q133
   cases e133
   replace hx133_0 := up_ HB hx133_0
   replace p133 := eq_true p133
   replace q133 := eq_true q133
   go_wp2_with (first | ((with_reducible refine bB (f := 26) rfl ?_); refine Short.gL (some 21) Try.func26 #[.int .i64 (rd l1 x7_1), .int .i64 0, .int .i64 (wrap64 ((l0.length : Int) - 1))] (h := ?_); (with_reducible refine (raddleref14_in.calls (rd l1 x7_1) 0 (wrap64 ((l0.length : Int) - 1)) true _ A5.out).mono ?_); rintro e w' ⟨rfl, ⟨nd, rfl⟩⟩; refine ⟨_, rfl, ?_⟩; have p135 : 0 ≤ (x7_1 : Int) := of_decide_eq_true z4_; have q135 : x7_1 < (l1.length : Int) := of_decide_eq_true z4_; obtain ⟨ad135, e135, hx135_0⟩ := Kd.at_int HR1.out x7_1 p135 q135; obtain rfl : ad133 = ad135 := (by injection e135); replace hx135_0 := up_ HB hx135_0; replace p135 := eq_true p135; replace q135 := eq_true q135; have p136 : 0 ≤ ((rd l1 x7_1) : Int) := of_decide_eq_true z4_; have q136 : (rd l1 x7_1) < (l0.length : Int) := of_decide_eq_true z4_; obtain ⟨ad136, e136, hx136_0⟩ := Kd.at_int HR0.out (rd l1 x7_1) p136 q136; cases e136; replace hx136_0 := up_ HB hx136_0; replace p136 := eq_true p136; replace q136 := eq_true q136) | ((with_reducible refine cZ (b := .append) (xs := #[.tmp 23, .tmp 31]) rfl ?_); at_builtin; refine fP (Kd.int .i64) (w0 := w) w.heap.size rfl (.tmp 23) (.tmp 31) 32 3 (.int .i64 0) 8 rfl Try.underlying32 info3 rfl z10_ z5_ u6 x6_1 (rd l0 (rd l1 x7_1)) [.int .i64 (rd l0 (rd l1 x7_1))] (fun _ => True) (fun _ => False) rfl rfl ?aP (fun _ hk => hk.elim) ?aF ?aO ?aB ?aS ?aL ?_; (case aP => exact rfl); (case aB => exact (Short.hB HB)); (case aF => exact (fun _ _ => trivial)); (case aO => exact (ZKR HO_6)); (case aS => exact (aK (Short.hB HB))); (case aL => have := LMc9.out; omega); intro v138 w10 ho hb hg hat; rw [← Ny137.out] at ho; have n0_ := mk_ (hb); have n1_ := mk_ (ho); clear HB HO_6; revert n0_ n1_; intro HB HO139; clear ho hb hg hat))
   go_roundg k1
   case measure => have := HK1.out; omega
   case rel => exact ⟨(y137), (wrap64 (x7_1 + 1)), z9_, H', ⟨by have := HK1.out; omega⟩, ⟨by (with_reducible repeat (first | apply R_alloc | apply R_drewN | apply R_drew)); exact HO139.out⟩, ⟨Short.hB HB⟩⟩
def cS.f (a0 : Int) : Option (Int) := some (mx a0 (wrap64 (-a0)))
theorem cS.calls (a0 : Int) (r : Int) (w : World) (h : cS.f a0 = some r) :
  Calls Try.prog 44 #[.int .i64 a0] w fun e w' => e = .returned (.int .i64 r) ∧ Below w.heap.size w w' := by
 have HB := mk_ (Below.refl w.heap.size w)
 have H : (some (mx a0 (wrap64 (-a0)))) = some r := h
 clear h
 obtain ⟨ji2, hji2⟩ : ∃ j_ : Int, (mx a0 (wrap64 (-a0))) = j_ := ⟨_, rfl⟩
 replace H : (some ji2) = some r := by first | (rw [hji2] at H; exact H) | (simp only [hji2] at H ⊢; exact H)
 have hji2_ : (if a0 < (wrap64 (-a0)) then (wrap64 (-a0)) else a0) = ji2 := hji2
 obtain rfl := Option.some.inj H
 go_enter Try.func44, Try.ntmps44
 go_wp2
 go_ret
 exact ⟨by first | rfl | (simp [bY, bZ] <;> rfl) | (simp only [← hji2]; first | rfl | (simp [bY, bZ] <;> rfl)) | (simp [*, bY, bZ] <;> rfl), Short.hB HB⟩
def raddleref14_times.j0 : Nat → Int → Int → Int → Bool → Option (Int × Bool)
 | 0, _, _, _, _ => none
 | k + 1, x0, x1, x2, x13 => if x13 = true then (some (0, true)) else ((cS.f x0).bind fun t140 => ((cS.f x1).bind fun t141 => (if t141 = 0 then (none) else (if t140 > (wrap64 (Int.tdiv x2 t141)) then (some (0, false)) else (some (wrap64 (x0 * x1), true))))))
def raddleref14_times.f (k : Nat) (a0 : Int) (a1 : Int) (a2 : Int) : Option (Int × Bool) := if a0 = 0 then (raddleref14_times.j0 k a0 a1 a2 true) else (raddleref14_times.j0 k a0 a1 a2 (a1 == 0))
theorem raddleref14_times.calls (k : Nat) (a0 : Int) (a1 : Int) (a2 : Int) (r1 : Int) (r2 : Bool) (w : World) (h : raddleref14_times.f k a0 a1 a2 = some (r1, r2)) :
  Calls Try.prog 38 #[.int .i64 a0, .int .i64 a1, .int .i64 a2] w fun e w' => e = .returned (.tuple #[.int .i64 r1, .bool r2]) ∧ Below w.heap.size w w' := by
 have HB := mk_ (Below.refl w.heap.size w)
 have H : (if a0 = 0 then (raddleref14_times.j0 k a0 a1 a2 true) else (raddleref14_times.j0 k a0 a1 a2 (a1 == 0))) = some (r1, r2) := h
 clear h
 have HC4 := mk_ H
 clear H
 go_enter Try.func38, Try.ntmps38
 go_upto_region 1 with (fail)
 go_cut [13] (fun v13 wc => ∃ (kq : Nat) (x13_3 : Bool), v13 = .bool x13_3 ∧ Aside0 (raddleref14_times.j0 kq a0 a1 a2 x13_3 = some (r1, r2)) ∧ Aside0 (kq ≤ k) ∧ Aside0 (Below w.heap.size w wc))
 case first =>
  have H := HC4.out
  clear HC4
  by_cases c5 : a0 = 0
  rotate_left
  ·
   rw [if_neg c5] at H
   have c5b0 : (a0 == 0) = false := beq_eq_false_iff_ne.mpr c5
   have c5b1 : (a0 != 0) = true := bne_iff_ne.mpr c5
   (first | rw [c5b0] | (simp only [i64_w, i32_w]; rw [c5b0]) | skip)
   have H' := mk_ H
   clear H
   go_wp2
   go_meet
   case rel => exact ⟨_, ((a1 == 0)), z9_, H', ⟨by first | omega | exact Nat.le_refl _⟩, ⟨Short.hB HB⟩⟩
  rw [if_pos c5] at H
  have c5b0 : (a0 == 0) = true := beq_iff_eq.mpr c5
  have c5b1 : (a0 != 0) = false := bne_eq_false_iff_eq.mpr c5
  clear c5
  (first | rw [c5b0] | (simp only [i64_w, i32_w]; rw [c5b0]) | skip)
  have H' := mk_ H
  clear H
  go_wp2
  go_meet
  case rel => exact ⟨_, (true), z9_, H', ⟨by first | omega | exact Nat.le_refl _⟩, ⟨Short.hB HB⟩⟩
 case rest => as_aux_lemma =>
  clear HC4
  try clear p2
  try clear c3
  try clear c5
  try clear c5b0
  try clear c5b1
  obtain ⟨kq, x13_3, rfl, HA, HJ3, HB⟩ := hcut
  cases kq with
  | zero => exact absurd HA.out (by simp [raddleref14_times.j0])
  | succ kj3 =>
   have H := HA.out
   clear HA
   simp only [raddleref14_times.j0] at H
   by_cases c6 : x13_3 = true
   ·
    subst c6
    rw [if_pos rfl] at H
    simp only [Option.some.injEq, Prod.mk.injEq] at H
    obtain ⟨rfl, rfl⟩ := H
    go_wp2
    go_ret2
    exact ⟨q0, Short.hB HB⟩
   ·
    replace c6 := Bool.eq_false_iff.mpr c6
    subst c6
    rw [if_neg (show ¬ (false = true) by decide)] at H
    replace H := Option.bind_eq_some_iff.mp H
    obtain ⟨t140, A70, H⟩ := H
    replace H : ((cS.f a1).bind fun t141 => (if t141 = 0 then (none) else (if t140 > (wrap64 (Int.tdiv a2 t141)) then (some (0, false)) else (some (wrap64 (a0 * a1), true))))) = some (r1, r2) := H
    have A7 := mk_ A70
    clear A70
    replace H := Option.bind_eq_some_iff.mp H
    obtain ⟨t141, A80, H⟩ := H
    replace H : (if t141 = 0 then (none) else (if t140 > (wrap64 (Int.tdiv a2 t141)) then (some (0, false)) else (some (wrap64 (a0 * a1), true)))) = some (r1, r2) := H
    have A8 := mk_ A80
    clear A80
    by_cases c9 : t141 = 0
    ·
     rw [if_pos c9] at H
     exact absurd H (by simp)
    ·
     rw [if_neg c9] at H
     have c9b0 : (t141 == 0) = false := beq_eq_false_iff_ne.mpr c9
     have c9b1 : (t141 != 0) = true := bne_iff_ne.mpr c9
     by_cases c10 : t140 > (wrap64 (Int.tdiv a2 t141))
     ·
      rw [if_pos c10] at H
      have c10b0 : decide ((wrap64 (Int.tdiv a2 t141)) < t140) = true := decide_eq_true c10
      clear c10
      simp only [Option.some.injEq, Prod.mk.injEq] at H
      obtain ⟨rfl, rfl⟩ := H
      go_wp2_with (first | ((with_reducible refine bB (f := 44) rfl ?_); refine Short.gL (some 15) Try.func44 #[.int .i64 a0] (h := ?_); (with_reducible refine (cS.calls a0 t140 _ A7.out).mono ?_); rintro e w11 ⟨rfl, hb⟩; refine ⟨_, rfl, ?_⟩; have n0_ := mk_ (aG (Short.hB HB) hb); clear HB; revert n0_; intro HB; (try clear hb)) | ((with_reducible refine bB (f := 44) rfl ?_); refine Short.gL (some 18) Try.func44 #[.int .i64 a1] (h := ?_); (with_reducible refine (cS.calls a1 t141 _ A8.out).mono ?_); rintro e w12 ⟨rfl, hb⟩; refine ⟨_, rfl, ?_⟩; have n0_ := mk_ (aG (Short.hB HB) hb); clear HB; revert n0_; intro HB; (try clear hb)))
      go_ret2
      exact ⟨q0, Short.hB HB⟩
     ·
      rw [if_neg c10] at H
      have c10b0 : decide ((wrap64 (Int.tdiv a2 t141)) < t140) = false := decide_eq_false c10
      clear c10
      simp only [Option.some.injEq, Prod.mk.injEq] at H
      obtain ⟨rfl, rfl⟩ := H
      go_wp2_with (first | ((with_reducible refine bB (f := 44) rfl ?_); refine Short.gL (some 15) Try.func44 #[.int .i64 a0] (h := ?_); (with_reducible refine (cS.calls a0 t140 _ A7.out).mono ?_); rintro e w13 ⟨rfl, hb⟩; refine ⟨_, rfl, ?_⟩; have n0_ := mk_ (aG (Short.hB HB) hb); clear HB; revert n0_; intro HB; (try clear hb)) | ((with_reducible refine bB (f := 44) rfl ?_); refine Short.gL (some 18) Try.func44 #[.int .i64 a1] (h := ?_); (with_reducible refine (cS.calls a1 t141 _ A8.out).mono ?_); rintro e w14 ⟨rfl, hb⟩; refine ⟨_, rfl, ?_⟩; have n0_ := mk_ (aG (Short.hB HB) hb); clear HB; revert n0_; intro HB; (try clear hb)))
      go_ret2
      exact ⟨q0, Short.hB HB⟩
def eN.f (l0_0 : List Int) : Option (Bool) := if (l0_0.length : Int) < 1 then (some true) else (some (decide ((l0_0.length : Int) > 4)))
theorem eN.calls (A0_0 : Option Addr) (c0_0 : Nat) (l0_0 : List Int) (r : Bool) (w : World) (hr0_0 : Kd.C (Kd.int .i64) w A0_0 l0_0.length l0_0) (hc0_0 : l0_0.length ≤ c0_0) (h : eN.f l0_0 = some r) :
  Calls Try.prog 46 #[.agg #[.slice A0_0 l0_0.length c0_0]] w fun e w' => e = .returned (.bool r) ∧ Below w.heap.size w w' := by
 have hu54 := Try.underlying54
 have HR0_0 := mk_ hr0_0
 have HC0_0 := mk_ hc0_0
 clear hr0_0 hc0_0
 have HB := mk_ (Below.refl w.heap.size w)
 have H : (if (l0_0.length : Int) < 1 then (some true) else (some (decide ((l0_0.length : Int) > 4)))) = some r := h
 clear h
 by_cases c2 : (l0_0.length : Int) < 1
 ·
  rw [if_pos c2] at H
  have c2b0 : decide ((l0_0.length : Int) < 1) = true := decide_eq_true c2
  have c2b1 : decide (l0_0.length < 1) = true := decide_eq_true z5_
  clear c2
  obtain rfl := Option.some.inj H
  go_enter Try.func46, Try.ntmps46
  go_wp2_with (first | ((with_reducible refine bI (N := 1) rfl ?_); (try (refine bW z12_ ?_; dsimp only)); refine bJ ?hg (N := 1) ?hd (cs := #[.slice A0_0 l0_0.length c0_0]) (t := 54) ?hr ?_; (case hd => rfl); (case hg => rfl); (case hr => first | (go_simp; done) | (go_simp; rfl)); intro gb205 hg w3 hbox hb; have n0_ := mk_ (aG (Short.hB HB) hb); have n1_ := mk_ (hbox); have n2_ := mk_ ((by rw [hg]; exact (aK (Short.hB HB)) : w.heap.size ≤ gb205)); have n3_ := mk_ ((by rw [hg]; exact (aK (Short.hB HB)) : w.heap.size ≤ gb205)); clear HB; revert n0_ n1_ n2_ n3_; intro HB BK205 GW205 GE205; clear hb hbox hg; obtain ⟨hcz4_0, hfz4_0⟩ := Short.c1 BK205.out))
  go_ret
  exact ⟨q0, Short.hB HB⟩
 rw [if_neg c2] at H
 have c2b0 : decide ((l0_0.length : Int) < 1) = false := decide_eq_false c2
 have c2b1 : decide (l0_0.length < 1) = false := decide_eq_false z5_
 clear c2
 obtain rfl := Option.some.inj H
 go_enter Try.func46, Try.ntmps46
 go_wp2_with (first | ((with_reducible refine bI (N := 1) rfl ?_); (try (refine bW z12_ ?_; dsimp only)); refine bJ ?hg (N := 1) ?hd (cs := #[.slice A0_0 l0_0.length c0_0]) (t := 54) ?hr ?_; (case hd => rfl); (case hg => rfl); (case hr => first | (go_simp; done) | (go_simp; rfl)); intro gb205 hg w5 hbox hb; have n0_ := mk_ (aG (Short.hB HB) hb); have n1_ := mk_ (hbox); have n2_ := mk_ ((by rw [hg]; exact (aK (Short.hB HB)) : w.heap.size ≤ gb205)); have n3_ := mk_ ((by rw [hg]; exact (aK (Short.hB HB)) : w.heap.size ≤ gb205)); clear HB; revert n0_ n1_ n2_ n3_; intro HB BK205 GW205 GE205; clear hb hbox hg; obtain ⟨hcz6_0, hfz6_0⟩ := Short.c1 BK205.out))
 go_ret
 exact ⟨q0, Short.hB HB⟩
def eO.f (a0 : Int) : Option (Bool) := if a0 < 2 then (some true) else (some (decide (a0 > 4)))
theorem eO.calls (a0 : Int) (r : Bool) (w : World) (h : eO.f a0 = some r) :
  Calls Try.prog 48 #[.int .i64 a0] w fun e w' => e = .returned (.bool r) ∧ Drawn0 w w' := by
 have H : (if a0 < 2 then (some true) else (some (decide (a0 > 4)))) = some r := h
 clear h
 by_cases c2 : a0 < 2
 ·
  rw [if_pos c2] at H
  have c2b0 : decide (a0 < 2) = true := decide_eq_true c2
  clear c2
  obtain rfl := Option.some.inj H
  go_enter Try.func48, Try.ntmps48
  go_wp2
  go_ret
  exact ⟨z9_, by repeat (first | exact Drawn0.refl _ | apply Drawn0.step)⟩
 rw [if_neg c2] at H
 have c2b0 : decide (a0 < 2) = false := decide_eq_false c2
 clear c2
 obtain rfl := Option.some.inj H
 go_enter Try.func48, Try.ntmps48
 go_wp2
 go_ret
 exact ⟨z9_, by repeat (first | exact Drawn0.refl _ | apply Drawn0.step)⟩
def bD.l0 : Nat → List (S54) → Int → Int → Option (Int)
 | 0, _, _, _ => none
 | k + 1, x0, x7, x8 => if x8 < x7 then (if 0 ≤ x8 then (if x8 < (x0.length : Int) then ((eN.f ((cN x0 x8).f0)).bind fun t207 => (if t207 = true then (some x8) else (bD.l0 k x0 x7 (wrap64 (x8 + 1))))) else (none)) else (none)) else (some (-1))
def bD.f (k : Nat) (l0 : List (S54)) (a1 : Unit) : Option (Int) := bD.l0 k l0 (l0.length : Int) 0
theorem bD.calls (k : Nat) (A0 : Option Addr) (c0 : Nat) (l0 : List (S54)) (a1 : Unit) (r : Int) (w : World) (hr0 : Kd.C k54 w A0 l0.length l0) (hc0 : l0.length ≤ c0) (h : bD.f k l0 a1 = some r) :
  Calls Try.prog 56 #[.slice A0 l0.length c0, .func (.func 46) #[] #[]] w fun e w' => e = .returned (.int .i64 r) ∧ Below w.heap.size w w' := by
 have hu54 := Try.underlying54
 have HR0 := mk_ hr0
 have HC0 := mk_ hc0
 clear hr0 hc0
 have HB := mk_ (Below.refl w.heap.size w)
 have H : (bD.l0 k l0 (l0.length : Int) 0) = some r := h
 clear h
 have H' := mk_ H
 clear H
 go_enter Try.func56, Try.ntmps56
 go_wp2
 go_loopg [8] k (fun kq v8 w' => ∃ (x8_1 : Int), v8 = .int .i64 x8_1 ∧ Aside0 (bD.l0 kq l0 (l0.length : Int) x8_1 = some r) ∧ Aside0 (kq ≤ k) ∧ Aside0 (Below w.heap.size w w'))
 case atStart => exact ⟨(0), z9_, H', ⟨Nat.le_refl _⟩, ⟨Short.hB HB⟩⟩
 case round =>
  clear H'
  try clear p2
  obtain ⟨x8_1, rfl, HA, HK1, HB⟩ := hrel
  cases gk with
  | zero => exact absurd HA.out (by simp [bD.l0])
  | succ k1 =>
   have H := HA.out
   clear HA
   simp only [bD.l0] at H
   by_cases c3 : x8_1 < (l0.length : Int)
   rotate_left
   ·
    rw [if_neg c3] at H
    have c3b0 : decide (x8_1 < (l0.length : Int)) = false := decide_eq_false c3
    clear c3
    obtain rfl := Option.some.inj H
    go_wp2
    go_ret
    exact ⟨q0, Short.hB HB⟩
   rw [if_pos c3] at H
   have c3b0 : decide (x8_1 < (l0.length : Int)) = true := decide_eq_true c3
   clear c3
   by_cases c4 : 0 ≤ x8_1
   rotate_left
   ·
    rw [if_neg c4] at H
    exact absurd H (by simp)
   rw [if_pos c4] at H
   have c4b0 : decide (0 ≤ x8_1) = true := decide_eq_true c4
   clear c4
   by_cases c5 : x8_1 < (l0.length : Int)
   rotate_left
   ·
    rw [if_neg c5] at H
    exact absurd H (by simp)
   rw [if_pos c5] at H
   have c5b0 : decide (x8_1 < (l0.length : Int)) = true := decide_eq_true c5
   clear c5
   replace H := Option.bind_eq_some_iff.mp H
   obtain ⟨t207, A60, H⟩ := H
   replace H : (if t207 = true then (some x8_1) else (bD.l0 k1 l0 (l0.length : Int) (wrap64 (x8_1 + 1)))) = some r := H
   have A6 := mk_ A60
   clear A60
   by_cases c7 : t207 = true
   ·
    subst c7
    rw [if_pos rfl] at H
    obtain rfl := Option.some.inj H
    have p206 : 0 ≤ (x8_1 : Int) := of_decide_eq_true z4_
    have q206 : x8_1 < (l0.length : Int) := of_decide_eq_true z4_
    obtain ⟨ad206, A206_0, c206_0, e206, hx206_0, hl206_0, hi206_0⟩ := eP HR0.out x8_1 p206 q206
    cases e206
    replace hx206_0 := up_ HB hx206_0
    have HR206_0 := mk_ hi206_0
    have HC206_0 := mk_ hl206_0
    clear hi206_0 hl206_0
    replace p206 := eq_true p206
    replace q206 := eq_true q206
    go_wp2_with (first | ((first | ((with_reducible refine bB (f := 46) rfl ?_); refine Short.gL (some 16) Try.func46 #[.agg #[.slice A206_0 ((cN l0 x8_1).f0).length c206_0]] (h := ?_)) | ((with_reducible refine Go.Proofs.Ytimbbaoodjhdoaa.Steps.gate_any rfl ?_); refine Go.Proofs.Ytimbbaoodjhdoaa.Steps.goesV_ (some 16) rfl rfl Try.func46 z1_ rfl #[.agg #[.slice A206_0 ((cN l0 x8_1).f0).length c206_0]] rfl (by first | rfl | go_simp) z6_ ?_)); (with_reducible refine (eN.calls _ _ ((cN l0 x8_1).f0) true _ ?side1 ?side2 A6.out).mono ?_); (case side1 => exact cX_ (aN HR206_0.out HB.out)); (case side2 => exact HC206_0.out); rintro e w8 ⟨rfl, hb⟩; refine ⟨_, rfl, ?_⟩; have n0_ := mk_ (aG (Short.hB HB) hb); clear HB; revert n0_; intro HB; (try clear hb)))
    go_ret
    exact ⟨q0, Short.hB HB⟩
   replace c7 := Bool.eq_false_iff.mpr c7
   subst c7
   rw [if_neg (show ¬ (false = true) by decide)] at H
   have H' := mk_ H
   clear H
   have p206 : 0 ≤ (x8_1 : Int) := of_decide_eq_true z4_
   have q206 : x8_1 < (l0.length : Int) := of_decide_eq_true z4_
   obtain ⟨ad206, A206_0, c206_0, e206, hx206_0, hl206_0, hi206_0⟩ := eP HR0.out x8_1 p206 q206
   cases e206
   replace hx206_0 := up_ HB hx206_0
   have HR206_0 := mk_ hi206_0
   have HC206_0 := mk_ hl206_0
   clear hi206_0 hl206_0
   replace p206 := eq_true p206
   replace q206 := eq_true q206
   go_wp2_with (first | ((first | ((with_reducible refine bB (f := 46) rfl ?_); refine Short.gL (some 16) Try.func46 #[.agg #[.slice A206_0 ((cN l0 x8_1).f0).length c206_0]] (h := ?_)) | ((with_reducible refine Go.Proofs.Ytimbbaoodjhdoaa.Steps.gate_any rfl ?_); refine Go.Proofs.Ytimbbaoodjhdoaa.Steps.goesV_ (some 16) rfl rfl Try.func46 z1_ rfl #[.agg #[.slice A206_0 ((cN l0 x8_1).f0).length c206_0]] rfl (by first | rfl | go_simp) z6_ ?_)); (with_reducible refine (eN.calls _ _ ((cN l0 x8_1).f0) false _ ?side1 ?side2 A6.out).mono ?_); (case side1 => exact cX_ (aN HR206_0.out HB.out)); (case side2 => exact HC206_0.out); rintro e w9 ⟨rfl, hb⟩; refine ⟨_, rfl, ?_⟩; have n0_ := mk_ (aG (Short.hB HB) hb); clear HB; revert n0_; intro HB; (try clear hb)))
   go_roundg k1
   case measure => have := HK1.out; omega
   case rel => exact ⟨(wrap64 (x8_1 + 1)), z9_, H', ⟨by have := HK1.out; omega⟩, ⟨Short.hB HB⟩⟩
def cC.f (k : Nat) (l0 : List (S54)) (a1 : Unit) : Option (Bool) := (bD.f k l0 a1).bind fun t208 => (some (decide (t208 ≥ 0)))
theorem cC.calls (k : Nat) (A0 : Option Addr) (c0 : Nat) (l0 : List (S54)) (a1 : Unit) (r : Bool) (w : World) (hr0 : Kd.C k54 w A0 l0.length l0) (hc0 : l0.length ≤ c0) (h : cC.f k l0 a1 = some r) :
  Calls Try.prog 45 #[.slice A0 l0.length c0, .func (.func 46) #[] #[]] w fun e w' => e = .returned (.bool r) ∧ Below w.heap.size w w' := by
 have HR0 := mk_ hr0
 have HC0 := mk_ hc0
 clear hr0 hc0
 have HB := mk_ (Below.refl w.heap.size w)
 have H : ((bD.f k l0 a1).bind fun t208 => (some (decide (t208 ≥ 0)))) = some r := h
 clear h
 replace H := Option.bind_eq_some_iff.mp H
 obtain ⟨t208, A30, H⟩ := H
 replace H : (some (decide (t208 ≥ 0))) = some r := H
 have A3 := mk_ A30
 clear A30
 obtain rfl := Option.some.inj H
 go_enter Try.func45, Try.ntmps45
 go_wp2_with (first | ((first | ((with_reducible refine bB (f := 56) rfl ?_); refine Short.gL (some 7) Try.func56 #[.slice A0 l0.length c0, .func (.func 46) #[] #[]] (h := ?_)) | ((with_reducible refine Go.Proofs.Ytimbbaoodjhdoaa.Steps.gate_any rfl ?_); refine Go.Proofs.Ytimbbaoodjhdoaa.Steps.goesV_ (some 7) rfl rfl Try.func56 z1_ rfl #[.slice A0 l0.length c0, .func (.func 46) #[] #[]] rfl (by first | rfl | go_simp) z6_ ?_)); (with_reducible refine (bD.calls k _ _ l0 a1 t208 _ ?side1 ?side2 A3.out).mono ?_); (case side1 => repeat (first | exact HR0.out | (with_reducible refine C_alloc ?_ _) | (with_reducible refine C_drewN ?_ _) | (with_reducible refine C_drew ?_))); (case side2 => exact HC0.out); rintro e w4 ⟨rfl, hb⟩; refine ⟨_, rfl, ?_⟩; have n0_ := mk_ (aG (Short.hB HB) hb); clear HB; revert n0_; intro HB; (try clear hb)))
 go_ret
 exact ⟨q0, Short.hB HB⟩
def bC.l0 : Nat → List Int → Int → Int → Option (Int)
 | 0, _, _, _ => none
 | k + 1, x0, x7, x8 => if x8 < x7 then (if 0 ≤ x8 then (if x8 < (x0.length : Int) then ((eO.f (rd x0 x8)).bind fun t210 => (if t210 = true then (some x8) else (bC.l0 k x0 x7 (wrap64 (x8 + 1))))) else (none)) else (none)) else (some (-1))
def bC.f (k : Nat) (l0 : List Int) (a1 : Unit) : Option (Int) := bC.l0 k l0 (l0.length : Int) 0
theorem bC.calls (k : Nat) (A0 : Option Addr) (c0 : Nat) (l0 : List Int) (a1 : Unit) (r : Int) (w : World) (hr0 : Kd.C (Kd.int .i64) w A0 l0.length l0) (hc0 : l0.length ≤ c0) (h : bC.f k l0 a1 = some r) :
  Calls Try.prog 57 #[.slice A0 l0.length c0, .func (.func 48) #[] #[]] w fun e w' => e = .returned (.int .i64 r) ∧ Drawn0 w w' := by
 have HR0 := mk_ hr0
 have HC0 := mk_ hc0
 clear hr0 hc0
 have H : (bC.l0 k l0 (l0.length : Int) 0) = some r := h
 clear h
 have H' := mk_ H
 clear H
 go_enter Try.func57, Try.ntmps57
 go_wp2
 go_loopg [8] k (fun kq v8 w' => ∃ (x8_1 : Int), v8 = .int .i64 x8_1 ∧ Aside0 (bC.l0 kq l0 (l0.length : Int) x8_1 = some r) ∧ Aside0 (kq ≤ k) ∧ Drawn0 w w')
 case atStart => exact ⟨(0), z9_, H', ⟨Nat.le_refl _⟩, by repeat (first | exact Drawn0.refl _ | apply Drawn0.step)⟩
 case round =>
  clear H'
  try clear p2
  obtain ⟨x8_1, rfl, HA, HK1, ⟨m1, rfl⟩⟩ := hrel
  cases gk with
  | zero => exact absurd HA.out (by simp [bC.l0])
  | succ k1 =>
   have H := HA.out
   clear HA
   simp only [bC.l0] at H
   by_cases c3 : x8_1 < (l0.length : Int)
   rotate_left
   ·
    rw [if_neg c3] at H
    have c3b0 : decide (x8_1 < (l0.length : Int)) = false := decide_eq_false c3
    clear c3
    obtain rfl := Option.some.inj H
    go_wp2
    go_ret
    exact ⟨z9_, by repeat (first | exact Drawn0.refl _ | apply Drawn0.step)⟩
   rw [if_pos c3] at H
   have c3b0 : decide (x8_1 < (l0.length : Int)) = true := decide_eq_true c3
   clear c3
   by_cases c4 : 0 ≤ x8_1
   rotate_left
   ·
    rw [if_neg c4] at H
    exact absurd H (by simp)
   rw [if_pos c4] at H
   have c4b0 : decide (0 ≤ x8_1) = true := decide_eq_true c4
   clear c4
   by_cases c5 : x8_1 < (l0.length : Int)
   rotate_left
   ·
    rw [if_neg c5] at H
    exact absurd H (by simp)
   rw [if_pos c5] at H
   have c5b0 : decide (x8_1 < (l0.length : Int)) = true := decide_eq_true c5
   clear c5
   replace H := Option.bind_eq_some_iff.mp H
   obtain ⟨t210, A60, H⟩ := H
   replace H : (if t210 = true then (some x8_1) else (bC.l0 k1 l0 (l0.length : Int) (wrap64 (x8_1 + 1)))) = some r := H
   have A6 := mk_ A60
   clear A60
   by_cases c7 : t210 = true
   ·
    subst c7
    rw [if_pos rfl] at H
    obtain rfl := Option.some.inj H
    have p209 : 0 ≤ (x8_1 : Int) := of_decide_eq_true z4_
    have q209 : x8_1 < (l0.length : Int) := of_decide_eq_true z4_
    obtain ⟨ad209, e209, hx209_0⟩ := Kd.at_int HR0.out x8_1 p209 q209
    cases e209
    replace p209 := eq_true p209
    replace q209 := eq_true q209
    go_wp2_with (first | ((first | ((with_reducible refine bB (f := 48) rfl ?_); refine Short.gL (some 16) Try.func48 #[.int .i64 (rd l0 x8_1)] (h := ?_)) | ((with_reducible refine Go.Proofs.Ytimbbaoodjhdoaa.Steps.gate_any rfl ?_); refine Go.Proofs.Ytimbbaoodjhdoaa.Steps.goesV_ (some 16) rfl rfl Try.func48 z1_ rfl #[.int .i64 (rd l0 x8_1)] rfl (by first | rfl | go_simp) z6_ ?_)); (with_reducible refine (eO.calls (rd l0 x8_1) true _ A6.out).mono ?_); rintro e w' ⟨rfl, ⟨nd, rfl⟩⟩; refine ⟨_, rfl, ?_⟩))
    go_ret
    exact ⟨z9_, by repeat (first | exact Drawn0.refl _ | apply Drawn0.step)⟩
   replace c7 := Bool.eq_false_iff.mpr c7
   subst c7
   rw [if_neg (show ¬ (false = true) by decide)] at H
   have H' := mk_ H
   clear H
   have p209 : 0 ≤ (x8_1 : Int) := of_decide_eq_true z4_
   have q209 : x8_1 < (l0.length : Int) := of_decide_eq_true z4_
   obtain ⟨ad209, e209, hx209_0⟩ := Kd.at_int HR0.out x8_1 p209 q209
   cases e209
   replace p209 := eq_true p209
   replace q209 := eq_true q209
   go_wp2_with (first | ((first | ((with_reducible refine bB (f := 48) rfl ?_); refine Short.gL (some 16) Try.func48 #[.int .i64 (rd l0 x8_1)] (h := ?_)) | ((with_reducible refine Go.Proofs.Ytimbbaoodjhdoaa.Steps.gate_any rfl ?_); refine Go.Proofs.Ytimbbaoodjhdoaa.Steps.goesV_ (some 16) rfl rfl Try.func48 z1_ rfl #[.int .i64 (rd l0 x8_1)] rfl (by first | rfl | go_simp) z6_ ?_)); (with_reducible refine (eO.calls (rd l0 x8_1) false _ A6.out).mono ?_); rintro e w' ⟨rfl, ⟨nd, rfl⟩⟩; refine ⟨_, rfl, ?_⟩))
   go_roundg k1
   case measure => have := HK1.out; omega
   case rel => exact ⟨(wrap64 (x8_1 + 1)), z9_, H', ⟨by have := HK1.out; omega⟩, by repeat (first | exact Drawn0.refl _ | apply Drawn0.step)⟩
def cA.f (k : Nat) (l0 : List Int) (a1 : Unit) : Option (Bool) := (bC.f k l0 a1).bind fun t211 => (some (decide (t211 ≥ 0)))
theorem cA.calls (k : Nat) (A0 : Option Addr) (c0 : Nat) (l0 : List Int) (a1 : Unit) (r : Bool) (w : World) (hr0 : Kd.C (Kd.int .i64) w A0 l0.length l0) (hc0 : l0.length ≤ c0) (h : cA.f k l0 a1 = some r) :
  Calls Try.prog 47 #[.slice A0 l0.length c0, .func (.func 48) #[] #[]] w fun e w' => e = .returned (.bool r) ∧ Drawn0 w w' := by
 have HR0 := mk_ hr0
 have HC0 := mk_ hc0
 clear hr0 hc0
 have H : ((bC.f k l0 a1).bind fun t211 => (some (decide (t211 ≥ 0)))) = some r := h
 clear h
 replace H := Option.bind_eq_some_iff.mp H
 obtain ⟨t211, A30, H⟩ := H
 replace H : (some (decide (t211 ≥ 0))) = some r := H
 have A3 := mk_ A30
 clear A30
 obtain rfl := Option.some.inj H
 go_enter Try.func47, Try.ntmps47
 go_wp2_with (first | ((first | ((with_reducible refine bB (f := 57) rfl ?_); refine Short.gL (some 7) Try.func57 #[.slice A0 l0.length c0, .func (.func 48) #[] #[]] (h := ?_)) | ((with_reducible refine Go.Proofs.Ytimbbaoodjhdoaa.Steps.gate_any rfl ?_); refine Go.Proofs.Ytimbbaoodjhdoaa.Steps.goesV_ (some 7) rfl rfl Try.func57 z1_ rfl #[.slice A0 l0.length c0, .func (.func 48) #[] #[]] rfl (by first | rfl | go_simp) z6_ ?_)); (with_reducible refine (bC.calls k _ _ l0 a1 t211 _ ?side1 ?side2 A3.out).mono ?_); (case side1 => repeat (first | exact HR0.out | (with_reducible refine C_alloc ?_ _) | (with_reducible refine C_drewN ?_ _) | (with_reducible refine C_drew ?_))); (case side2 => exact HC0.out); rintro e w' ⟨rfl, ⟨nd, rfl⟩⟩; refine ⟨_, rfl, ?_⟩))
 go_ret
 exact ⟨z9_, by repeat (first | exact Drawn0.refl _ | apply Drawn0.step)⟩
end Go.Proofs.Ytimbbaoodjhdoaa.PAll
end
section
namespace Go.Proofs.Ytimbbaoodjhdoaa.PAll
open Go.RowKit PrintWords PrintLast PrintMore ZipT PrintWords.Kd PrintMore.Kd
attribute [local go_sem] eC eA eM eK dP dR dZ eB   -- for this text's walks alone
set_option linter.unusedVariables false
set_option linter.unusedSimpArgs false
mutual
def op_Forms.j0 : Nat → List (S54) → Bool → Option (Int)
 | 0, _, _ => none
 | k + 1, x0, x12 => if x12 = true then (some 2) else ((cC.f k x0 ()).bind fun t212 => (if t212 = true then (some 2) else (op_Forms.l0 k x0 (x0.length : Int) 0)))
def op_Forms.l0 : Nat → List (S54) → Int → Int → Option (Int)
 | 0, _, _, _ => none
 | k + 1, x15, x16, x17 => if x17 < x16 then (if 0 ≤ x17 then (if x17 < (x15.length : Int) then ((cA.f k ((cN x15 x17).f0) ()).bind fun t215 => (if t215 = true then (some 10) else (op_Forms.l0 k x15 x16 (wrap64 (x17 + 1))))) else (none)) else (none)) else (some 0)
end
def op_Forms.f (k : Nat) (l0 : List (S54)) : Option (Int) := if (l0.length : Int) < 1 then (op_Forms.j0 k l0 true) else (op_Forms.j0 k l0 (decide ((l0.length : Int) > 3)))
theorem op_Forms.calls (k : Nat) (A0 : Option Addr) (c0 : Nat) (l0 : List (S54)) (r : Int) (w : World) (hr0 : Kd.C k54 w A0 l0.length l0) (hc0 : l0.length ≤ c0) (h : op_Forms.f k l0 = some r) :
  Calls Try.prog 39 #[.slice A0 l0.length c0] w fun e w' => e = .returned (.int .i64 r) ∧ Below w.heap.size w w' := by
 have hu54 := Try.underlying54
 have HR0 := mk_ hr0
 have HC0 := mk_ hc0
 clear hr0 hc0
 have HB := mk_ (Below.refl w.heap.size w)
 have H : (if (l0.length : Int) < 1 then (op_Forms.j0 k l0 true) else (op_Forms.j0 k l0 (decide ((l0.length : Int) > 3)))) = some r := h
 clear h
 have HC2 := mk_ H
 clear H
 go_enter Try.func39, Try.ntmps39
 go_upto_region 1 with (fail)
 go_cut [12] (fun v12 wc => ∃ (kq : Nat) (x12_1 : Bool), v12 = .bool x12_1 ∧ Aside0 (op_Forms.j0 kq l0 x12_1 = some r) ∧ Aside0 (kq ≤ k) ∧ Aside0 (Below w.heap.size w wc))
 case first =>
  have H := HC2.out
  clear HC2
  by_cases c3 : (l0.length : Int) < 1
  ·
   rw [if_pos c3] at H
   have c3b0 : decide ((l0.length : Int) < 1) = true := decide_eq_true c3
   have c3b1 : decide (l0.length < 1) = true := decide_eq_true z5_
   clear c3
   (first | rw [c3b0] | (simp only [i64_w, i32_w]; rw [c3b0]) | skip)
   have H' := mk_ H
   clear H
   go_wp2
   go_meet
   case rel => exact ⟨_, (true), z9_, H', ⟨by first | omega | exact Nat.le_refl _⟩, ⟨Short.hB HB⟩⟩
  rw [if_neg c3] at H
  have c3b0 : decide ((l0.length : Int) < 1) = false := decide_eq_false c3
  have c3b1 : decide (l0.length < 1) = false := decide_eq_false z5_
  clear c3
  (first | rw [c3b0] | (simp only [i64_w, i32_w]; rw [c3b0]) | skip)
  have H' := mk_ H
  clear H
  go_wp2
  go_meet
  case rel => exact ⟨_, (decide ((l0.length : Int) > 3)), z9_, H', ⟨by first | omega | exact Nat.le_refl _⟩, ⟨Short.hB HB⟩⟩
 case rest => as_aux_lemma =>
  clear HC2
  try clear p2
  try clear c3
  try clear c3b0
  try clear c3b1
  obtain ⟨kq, x12_1, rfl, HA, HJ1, HB⟩ := hcut
  cases kq with
  | zero => exact absurd HA.out (by simp [op_Forms.j0])
  | succ kj1 =>
   have H := HA.out
   clear HA
   simp only [op_Forms.j0] at H
   by_cases c4 : x12_1 = true
   ·
    subst c4
    rw [if_pos rfl] at H
    obtain rfl := Option.some.inj H
    go_wp2
    go_ret
    exact ⟨q0, Short.hB HB⟩
   ·
    replace c4 := Bool.eq_false_iff.mpr c4
    subst c4
    rw [if_neg (show ¬ (false = true) by decide)] at H
    replace H := Option.bind_eq_some_iff.mp H
    obtain ⟨t212, A50, H⟩ := H
    replace H : (if t212 = true then (some 2) else (op_Forms.l0 kj1 l0 (l0.length : Int) 0)) = some r := H
    have A5 := mk_ A50
    clear A50
    by_cases c6 : t212 = true
    ·
     subst c6
     rw [if_pos rfl] at H
     obtain rfl := Option.some.inj H
     go_wp2_with (first | ((with_reducible refine bB (f := 45) rfl ?_); refine Short.gL (some 14) Try.func45 #[.slice A0 l0.length c0, .func (.func 46) #[] #[]] (h := ?_); (with_reducible refine (cC.calls kj1 _ _ l0 () true _ ?side1 ?side2 A5.out).mono ?_); (case side1 => exact cX_ (aN HR0.out HB.out)); (case side2 => exact HC0.out); rintro e w7 ⟨rfl, hb⟩; refine ⟨_, rfl, ?_⟩; have n0_ := mk_ (aG (Short.hB HB) hb); clear HB; revert n0_; intro HB; (try clear hb)))
     go_ret
     exact ⟨q0, Short.hB HB⟩
    ·
     replace c6 := Bool.eq_false_iff.mpr c6
     subst c6
     rw [if_neg (show ¬ (false = true) by decide)] at H
     have H' := mk_ H
     clear H
     go_wp2_with (first | ((with_reducible refine bB (f := 45) rfl ?_); refine Short.gL (some 14) Try.func45 #[.slice A0 l0.length c0, .func (.func 46) #[] #[]] (h := ?_); (with_reducible refine (cC.calls kj1 _ _ l0 () false _ ?side1 ?side2 A5.out).mono ?_); (case side1 => exact cX_ (aN HR0.out HB.out)); (case side2 => exact HC0.out); rintro e w8 ⟨rfl, hb⟩; refine ⟨_, rfl, ?_⟩; have n0_ := mk_ (aG (Short.hB HB) hb); clear HB; revert n0_; intro HB; (try clear hb)))
     go_loopg [17] kj1 (fun kq v17 w' => ∃ (x17_2 : Int), v17 = .int .i64 x17_2 ∧ Aside0 (op_Forms.l0 kq l0 (l0.length : Int) x17_2 = some r) ∧ Aside0 (kq ≤ kj1) ∧ Aside0 (Below w.heap.size w w'))
     case atStart => exact ⟨(0), z9_, H', ⟨Nat.le_refl _⟩, ⟨Short.hB HB⟩⟩
     case round =>
      clear H'
      try clear p2
      try clear c3
      try clear c3b0
      try clear c3b1
      try clear c4
      try clear c6
      try clear p2
      obtain ⟨x17_2, rfl, HA, HK2, HB⟩ := hrel
      cases gk with
      | zero => exact absurd HA.out (by simp [op_Forms.l0])
      | succ k2 =>
       have H := HA.out
       clear HA
       simp only [op_Forms.l0] at H
       by_cases c9 : x17_2 < (l0.length : Int)
       ·
        rw [if_pos c9] at H
        have c9b0 : decide (x17_2 < (l0.length : Int)) = true := decide_eq_true c9
        clear c9
        by_cases c10 : 0 ≤ x17_2
        ·
         rw [if_pos c10] at H
         have c10b0 : decide (0 ≤ x17_2) = true := decide_eq_true c10
         clear c10
         by_cases c11 : x17_2 < (l0.length : Int)
         ·
          rw [if_pos c11] at H
          have c11b0 : decide (x17_2 < (l0.length : Int)) = true := decide_eq_true c11
          clear c11
          replace H := Option.bind_eq_some_iff.mp H
          obtain ⟨t215, A120, H⟩ := H
          replace H : (if t215 = true then (some 10) else (op_Forms.l0 k2 l0 (l0.length : Int) (wrap64 (x17_2 + 1)))) = some r := H
          have A12 := mk_ A120
          clear A120
          by_cases c13 : t215 = true
          ·
           subst c13
           rw [if_pos rfl] at H
           obtain rfl := Option.some.inj H
           have p213 : 0 ≤ (x17_2 : Int) := of_decide_eq_true z4_
           have q213 : x17_2 < (l0.length : Int) := of_decide_eq_true z4_
           obtain ⟨ad213, A213_0, c213_0, e213, hx213_0, hl213_0, hi213_0⟩ := eP HR0.out x17_2 p213 q213
           cases e213
           replace hx213_0 := up_ HB hx213_0
           have HR213_0 := mk_ hi213_0
           have HC213_0 := mk_ hl213_0
           clear hi213_0 hl213_0
           replace p213 := eq_true p213
           replace q213 := eq_true q213
           go_wp2_with (first | ((with_reducible refine bI (N := 4) rfl ?_); (try (refine bW z12_ ?_; dsimp only)); refine bJ ?hg (N := 4) ?hd (cs := #[.slice none 0 0]) (t := 54) ?hr ?_; (case hd => rfl); (case hg => rfl); (case hr => first | (go_simp; done) | (go_simp; rfl)); intro gb214 hg w14 hbox hb; have n0_ := mk_ (aG (Short.hB HB) hb); have n1_ := mk_ (hbox); have n2_ := mk_ ((by rw [hg]; exact (aK (Short.hB HB)) : w.heap.size ≤ gb214)); have n3_ := mk_ ((by rw [hg]; exact (aK (Short.hB HB)) : w.heap.size ≤ gb214)); clear HB; revert n0_ n1_ n2_ n3_; intro HB BK214 GW214 GE214; clear hb hbox hg; obtain ⟨hcz15_0, hfz15_0⟩ := Short.c1 BK214.out) | ((with_reducible refine bB (f := 47) rfl ?_); refine Short.gL (some 23) Try.func47 #[.slice A213_0 ((cN l0 x17_2).f0).length c213_0, .func (.func 48) #[] #[]] (h := ?_); (with_reducible refine (cA.calls k2 _ _ ((cN l0 x17_2).f0) () true _ ?side1 ?side2 A12.out).mono ?_); (case side1 => exact aN HR213_0.out (Short.hB HB)); (case side2 => exact HC213_0.out); rintro e w' ⟨rfl, ⟨nd, rfl⟩⟩; refine ⟨_, rfl, ?_⟩))
           go_ret
           exact ⟨q0, Short.hB HB⟩
          ·
           replace c13 := Bool.eq_false_iff.mpr c13
           subst c13
           rw [if_neg (show ¬ (false = true) by decide)] at H
           have H' := mk_ H
           clear H
           have p213 : 0 ≤ (x17_2 : Int) := of_decide_eq_true z4_
           have q213 : x17_2 < (l0.length : Int) := of_decide_eq_true z4_
           obtain ⟨ad213, A213_0, c213_0, e213, hx213_0, hl213_0, hi213_0⟩ := eP HR0.out x17_2 p213 q213
           cases e213
           replace hx213_0 := up_ HB hx213_0
           have HR213_0 := mk_ hi213_0
           have HC213_0 := mk_ hl213_0
           clear hi213_0 hl213_0
           replace p213 := eq_true p213
           replace q213 := eq_true q213
           go_wp2_with (first | ((with_reducible refine bI (N := 4) rfl ?_); (try (refine bW z12_ ?_; dsimp only)); refine bJ ?hg (N := 4) ?hd (cs := #[.slice none 0 0]) (t := 54) ?hr ?_; (case hd => rfl); (case hg => rfl); (case hr => first | (go_simp; done) | (go_simp; rfl)); intro gb214 hg w16 hbox hb; have n0_ := mk_ (aG (Short.hB HB) hb); have n1_ := mk_ (hbox); have n2_ := mk_ ((by rw [hg]; exact (aK (Short.hB HB)) : w.heap.size ≤ gb214)); have n3_ := mk_ ((by rw [hg]; exact (aK (Short.hB HB)) : w.heap.size ≤ gb214)); clear HB; revert n0_ n1_ n2_ n3_; intro HB BK214 GW214 GE214; clear hb hbox hg; obtain ⟨hcz17_0, hfz17_0⟩ := Short.c1 BK214.out) | ((with_reducible refine bB (f := 47) rfl ?_); refine Short.gL (some 23) Try.func47 #[.slice A213_0 ((cN l0 x17_2).f0).length c213_0, .func (.func 48) #[] #[]] (h := ?_); (with_reducible refine (cA.calls k2 _ _ ((cN l0 x17_2).f0) () false _ ?side1 ?side2 A12.out).mono ?_); (case side1 => exact aN HR213_0.out (Short.hB HB)); (case side2 => exact HC213_0.out); rintro e w' ⟨rfl, ⟨nd, rfl⟩⟩; refine ⟨_, rfl, ?_⟩))
           go_roundg k2
           case measure => have := HJ1.out; have := HK2.out; omega
           case rel => exact ⟨(wrap64 (x17_2 + 1)), z9_, H', ⟨by have := HJ1.out; have := HK2.out; omega⟩, ⟨Short.hB HB⟩⟩
         ·
          rw [if_neg c11] at H
          exact absurd H (by simp)
        ·
         rw [if_neg c10] at H
         exact absurd H (by simp)
       ·
        rw [if_neg c9] at H
        have c9b0 : decide (x17_2 < (l0.length : Int)) = false := decide_eq_false c9
        clear c9
        obtain rfl := Option.some.inj H
        go_wp2
        go_ret
        exact ⟨q0, Short.hB HB⟩
def IsS82 (w0 W : World) (g : Nat) (f0 : List (S54)) (f1 : List (S66)) : Prop := ∃ A0 c0, ∃ A1 c1, W.heap[g]? = some (.cells #[.slice A0 f0.length c0, .slice A1 f1.length c1] 82 (0, 0)) ∧ w0.heap.size ≤ g ∧ Kd.C k54 w0 A0 f0.length f0 ∧ Kd.C k66 w0 A1 f1.length f1
theorem IsS82.grown {w0 W : World} {g : Nat} {f0 : List (S54)} {f1 : List (S66)} {W1 : World} {row : Option Nat} (h : IsS82 w0 W g f0 f1) (hw : W.grownBy W1 row) (hne : some g ≠ row) : IsS82 w0 W1 g f0 f1 := by
 obtain ⟨A0, c0, A1, c1, hb, hg, hr0, hr1⟩ := h
 exact ⟨A0, c0, A1, c1, eH hb hw hne, hg, hr0, hr1⟩
theorem IsS82.kept {w0 W : World} {g : Nat} {f0 : List (S54)} {f1 : List (S66)} {W1 : World} {S : Nat → Prop} (h : IsS82 w0 W g f0 f1) (hk : Kept W W1 S) (hne : ¬ S g) : IsS82 w0 W1 g f0 f1 := by
 obtain ⟨A0, c0, A1, c1, hb, hg, hr0, hr1⟩ := h
 exact ⟨A0, c0, A1, c1, blk_kept hb hk hne, hg, hr0, hr1⟩
theorem IsS82.below {w0 W : World} {g : Nat} {f0 : List (S54)} {f1 : List (S66)} {W1 : World} (h : IsS82 w0 W g f0 f1) (hw : Below W.heap.size W W1) : IsS82 w0 W1 g f0 f1 := h.grown (fM hw none) (by simp)
theorem IsS82.alloc {w0 W : World} {g : Nat} {f0 : List (S54)} {f1 : List (S66)} (h : IsS82 w0 W g f0 f1) (o : Obj) : IsS82 w0 (W.alloc o) g f0 f1 := h.below (aM (Below.refl _ _) o)
theorem IsS82.drewN {w0 W : World} {g : Nat} {f0 : List (S54)} {f1 : List (S66)} (h : IsS82 w0 W g f0 f1) (m : Nat) : IsS82 w0 (W.drewN m) g f0 f1 := h
theorem IsS82.drew {w0 W : World} {g : Nat} {f0 : List (S54)} {f1 : List (S66)} (h : IsS82 w0 W g f0 f1) : IsS82 w0 W.drew g f0 f1 := h
theorem IsS82.at_ {w0 W : World} {g : Nat} {f0 : List (S54)} {f1 : List (S66)} {w' : World} {m : Nat} (hq : W.drewN m = w') (h : IsS82 w0 W g f0 f1) : IsS82 w0 w' g f0 f1 := by subst hq; exact IsS82.drewN h m
theorem IsS82.apart {w0 W : World} {g : Nat} {f0 : List (S54)} {f1 : List (S66)} {α : Type} {d : Kd α} {e : Nat} {base : Nat} {ok : Nat → Prop} {v : Value} {xs : List α} (h : IsS82 w0 W g f0 f1) (ho : d.R e W base ok v xs) (ht : ∀ q, q ∈ e :: d.E → q ≠ 82) : d.R e W base (fun k => ok k ∧ k ≠ g) v xs := by
 obtain ⟨A0, c0, A1, c1, hb, hg, hr0, hr1⟩ := h
 exact fK ho hb ht
theorem IsS82.own_ne {w0 W : World} {g : Nat} {f0 : List (S54)} {f1 : List (S66)} {α : Type} {d : Kd α} {e : Nat} {base : Nat} {ok : Nat → Prop} {v : Value} {xs : List α} (h : IsS82 w0 W g f0 f1) (ho : d.R e W base ok v xs) (ht : e ≠ 82) : some g ≠ v.ownBlock := by
 obtain ⟨A0, c0, A1, c1, hb, hg, hr0, hr1⟩ := h
 exact R_ne ho hb ht
def dM.f (a0 : Int) (a1 : Int) : Option (Bool) := if a0 ≥ 0 then (some (decide (a0 < a1))) else (some false)
theorem dM.calls (a0 : Int) (a1 : Int) (r : Bool) (w : World) (h : dM.f a0 a1 = some r) :
  Calls Try.prog 65 #[.int .i64 a0, .int .i64 a1] w fun e w' => e = .returned (.bool r) ∧ Drawn0 w w' := by
 have H : (if a0 ≥ 0 then (some (decide (a0 < a1))) else (some false)) = some r := h
 clear h
 by_cases c3 : a0 ≥ 0
 ·
  rw [if_pos c3] at H
  have c3b0 : decide (0 ≤ a0) = true := decide_eq_true c3
  clear c3
  obtain rfl := Option.some.inj H
  go_enter Try.func65, Try.ntmps65
  go_wp2
  go_ret
  exact ⟨z9_, by repeat (first | exact Drawn0.refl _ | apply Drawn0.step)⟩
 rw [if_neg c3] at H
 have c3b0 : decide (0 ≤ a0) = false := decide_eq_false c3
 clear c3
 obtain rfl := Option.some.inj H
 go_enter Try.func65, Try.ntmps65
 go_wp2
 go_ret
 exact ⟨z9_, by repeat (first | exact Drawn0.refl _ | apply Drawn0.step)⟩
def cO.f (a0_0 : Int) (a0_1 : Int) (a0_2 : Int) (a0_3 : Int) (a0_4 : Int) (a0_5 : ByteArray) : Option (Bool) := if a0_0 = 3 then (some true) else (some (a0_0 == 4))
theorem cO.calls (a0_0 : Int) (a0_1 : Int) (a0_2 : Int) (a0_3 : Int) (a0_4 : Int) (a0_5 : ByteArray) (r : Bool) (w : World) (h : cO.f a0_0 a0_1 a0_2 a0_3 a0_4 a0_5 = some r) :
  Calls Try.prog 66 #[.agg #[.int .i64 a0_0, .int .i64 a0_1, .int .i64 a0_2, .int .i64 a0_3, .int .i64 a0_4, .string a0_5]] w fun e w' => e = .returned (.bool r) ∧ Below w.heap.size w w' := by
 have hu31 := Try.underlying31
 have HB := mk_ (Below.refl w.heap.size w)
 have H : (if a0_0 = 3 then (some true) else (some (a0_0 == 4))) = some r := h
 clear h
 by_cases c2 : a0_0 = 3
 rotate_left
 ·
  rw [if_neg c2] at H
  have c2b0 : (a0_0 == 3) = false := beq_eq_false_iff_ne.mpr c2
  have c2b1 : (a0_0 != 3) = true := bne_iff_ne.mpr c2
  obtain rfl := Option.some.inj H
  go_enter Try.func66, Try.ntmps66
  go_wp2_with (first | ((with_reducible refine bI (N := 1) rfl ?_); refine bJ ?hg (N := 1) ?hd (cs := #[.int .i64 a0_0, .int .i64 a0_1, .int .i64 a0_2, .int .i64 a0_3, .int .i64 a0_4, .string a0_5]) (t := 31) ?hr ?_; (case hd => rfl); (case hg => rfl); (case hr => first | (go_simp; done) | (go_simp; rfl)); intro gb225 hg w5 hbox hb; have n0_ := mk_ (aG (Short.hB HB) hb); have n1_ := mk_ (hbox); have n2_ := mk_ ((by rw [hg]; exact (aK (Short.hB HB)) : w.heap.size ≤ gb225)); have n3_ := mk_ ((by rw [hg]; exact (aK (Short.hB HB)) : w.heap.size ≤ gb225)); clear HB; revert n0_ n1_ n2_ n3_; intro HB BK225 GW225 GE225; clear hb hbox hg; obtain ⟨hcz6_0, hcz6_1, hcz6_2, hcz6_3, hcz6_4, hcz6_5, hfz6_0, hfz6_1, hfz6_2, hfz6_3, hfz6_4, hfz6_5⟩ := c6_ BK225.out))
  go_ret
  exact ⟨q0, Short.hB HB⟩
 rw [if_pos c2] at H
 have c2b0 : (a0_0 == 3) = true := beq_iff_eq.mpr c2
 have c2b1 : (a0_0 != 3) = false := bne_eq_false_iff_eq.mpr c2
 clear c2
 obtain rfl := Option.some.inj H
 go_enter Try.func66, Try.ntmps66
 go_wp2_with (first | ((with_reducible refine bI (N := 1) rfl ?_); refine bJ ?hg (N := 1) ?hd (cs := #[.int .i64 a0_0, .int .i64 a0_1, .int .i64 a0_2, .int .i64 a0_3, .int .i64 a0_4, .string a0_5]) (t := 31) ?hr ?_; (case hd => rfl); (case hg => rfl); (case hr => first | (go_simp; done) | (go_simp; rfl)); intro gb225 hg w3 hbox hb; have n0_ := mk_ (aG (Short.hB HB) hb); have n1_ := mk_ (hbox); have n2_ := mk_ ((by rw [hg]; exact (aK (Short.hB HB)) : w.heap.size ≤ gb225)); have n3_ := mk_ ((by rw [hg]; exact (aK (Short.hB HB)) : w.heap.size ≤ gb225)); clear HB; revert n0_ n1_ n2_ n3_; intro HB BK225 GW225 GE225; clear hb hbox hg; obtain ⟨hcz4_0, hcz4_1, hcz4_2, hcz4_3, hcz4_4, hcz4_5, hfz4_0, hfz4_1, hfz4_2, hfz4_3, hfz4_4, hfz4_5⟩ := c6_ BK225.out))
 go_ret
 exact ⟨q0, Short.hB HB⟩
def cI.f (a0_0 : Int) (a0_1 : Int) (a0_2 : Int) (a0_3 : Int) (a0_4 : Int) (a0_5 : ByteArray) : Option (Bool) := if a0_0 = 1 then (some true) else (some (a0_0 == 2))
theorem cI.calls (a0_0 : Int) (a0_1 : Int) (a0_2 : Int) (a0_3 : Int) (a0_4 : Int) (a0_5 : ByteArray) (r : Bool) (w : World) (h : cI.f a0_0 a0_1 a0_2 a0_3 a0_4 a0_5 = some r) :
  Calls Try.prog 67 #[.agg #[.int .i64 a0_0, .int .i64 a0_1, .int .i64 a0_2, .int .i64 a0_3, .int .i64 a0_4, .string a0_5]] w fun e w' => e = .returned (.bool r) ∧ Below w.heap.size w w' := by
 have hu31 := Try.underlying31
 have HB := mk_ (Below.refl w.heap.size w)
 have H : (if a0_0 = 1 then (some true) else (some (a0_0 == 2))) = some r := h
 clear h
 by_cases c2 : a0_0 = 1
 rotate_left
 ·
  rw [if_neg c2] at H
  have c2b0 : (a0_0 == 1) = false := beq_eq_false_iff_ne.mpr c2
  have c2b1 : (a0_0 != 1) = true := bne_iff_ne.mpr c2
  obtain rfl := Option.some.inj H
  go_enter Try.func67, Try.ntmps67
  go_wp2_with (first | ((with_reducible refine bI (N := 1) rfl ?_); refine bJ ?hg (N := 1) ?hd (cs := #[.int .i64 a0_0, .int .i64 a0_1, .int .i64 a0_2, .int .i64 a0_3, .int .i64 a0_4, .string a0_5]) (t := 31) ?hr ?_; (case hd => rfl); (case hg => rfl); (case hr => first | (go_simp; done) | (go_simp; rfl)); intro gb226 hg w5 hbox hb; have n0_ := mk_ (aG (Short.hB HB) hb); have n1_ := mk_ (hbox); have n2_ := mk_ ((by rw [hg]; exact (aK (Short.hB HB)) : w.heap.size ≤ gb226)); have n3_ := mk_ ((by rw [hg]; exact (aK (Short.hB HB)) : w.heap.size ≤ gb226)); clear HB; revert n0_ n1_ n2_ n3_; intro HB BK226 GW226 GE226; clear hb hbox hg; obtain ⟨hcz6_0, hcz6_1, hcz6_2, hcz6_3, hcz6_4, hcz6_5, hfz6_0, hfz6_1, hfz6_2, hfz6_3, hfz6_4, hfz6_5⟩ := c6_ BK226.out))
  go_ret
  exact ⟨q0, Short.hB HB⟩
 rw [if_pos c2] at H
 have c2b0 : (a0_0 == 1) = true := beq_iff_eq.mpr c2
 have c2b1 : (a0_0 != 1) = false := bne_eq_false_iff_eq.mpr c2
 clear c2
 obtain rfl := Option.some.inj H
 go_enter Try.func67, Try.ntmps67
 go_wp2_with (first | ((with_reducible refine bI (N := 1) rfl ?_); refine bJ ?hg (N := 1) ?hd (cs := #[.int .i64 a0_0, .int .i64 a0_1, .int .i64 a0_2, .int .i64 a0_3, .int .i64 a0_4, .string a0_5]) (t := 31) ?hr ?_; (case hd => rfl); (case hg => rfl); (case hr => first | (go_simp; done) | (go_simp; rfl)); intro gb226 hg w3 hbox hb; have n0_ := mk_ (aG (Short.hB HB) hb); have n1_ := mk_ (hbox); have n2_ := mk_ ((by rw [hg]; exact (aK (Short.hB HB)) : w.heap.size ≤ gb226)); have n3_ := mk_ ((by rw [hg]; exact (aK (Short.hB HB)) : w.heap.size ≤ gb226)); clear HB; revert n0_ n1_ n2_ n3_; intro HB BK226 GW226 GE226; clear hb hbox hg; obtain ⟨hcz4_0, hcz4_1, hcz4_2, hcz4_3, hcz4_4, hcz4_5, hfz4_0, hfz4_1, hfz4_2, hfz4_3, hfz4_4, hfz4_5⟩ := c6_ BK226.out))
 go_ret
 exact ⟨q0, Short.hB HB⟩
def dL.f (a0 : Int) (a1 : Int) : Option (Bool) := if a0 ≥ (wrap64 (-a1)) then (some (decide (a0 ≤ a1))) else (some false)
theorem dL.calls (a0 : Int) (a1 : Int) (r : Bool) (w : World) (h : dL.f a0 a1 = some r) :
  Calls Try.prog 73 #[.int .i64 a0, .int .i64 a1] w fun e w' => e = .returned (.bool r) ∧ Drawn0 w w' := by
 have H : (if a0 ≥ (wrap64 (-a1)) then (some (decide (a0 ≤ a1))) else (some false)) = some r := h
 clear h
 by_cases c3 : a0 ≥ (wrap64 (-a1))
 ·
  rw [if_pos c3] at H
  have c3b0 : decide ((wrap64 (-a1)) ≤ a0) = true := decide_eq_true c3
  clear c3
  obtain rfl := Option.some.inj H
  go_enter Try.func73, Try.ntmps73
  go_wp2
  go_ret
  exact ⟨z9_, by repeat (first | exact Drawn0.refl _ | apply Drawn0.step)⟩
 rw [if_neg c3] at H
 have c3b0 : decide ((wrap64 (-a1)) ≤ a0) = false := decide_eq_false c3
 clear c3
 obtain rfl := Option.some.inj H
 go_enter Try.func73, Try.ntmps73
 go_wp2
 go_ret
 exact ⟨z9_, by repeat (first | exact Drawn0.refl _ | apply Drawn0.step)⟩
def bV.f (a0_0 : Int) (a0_1 : Int) (a0_2 : ByteArray) : Option (Int) := if a0_0 = 1 then (if a0_1 = 0 then (if (a0_2.toList = ([] : List UInt8)) then (some 0) else (some 1)) else (some 1)) else (if a0_0 = 2 then (if a0_1 = 0 then (if (a0_2.toList = ([] : List UInt8)) then (some 0) else (some 1)) else (if a0_1 = 1 then (if (a0_2.toList = ([] : List UInt8)) then (some 0) else (some 1)) else (some 1))) else (if a0_0 = 3 then ((dL.f a0_1 1152921504606846976).bind fun t228 => (if t228 = true then (if (a0_2.toList = ([] : List UInt8)) then (some 0) else (some 1)) else (some 1))) else (if a0_0 = 4 then (if a0_1 = 0 then (if ((a0_2.size : Int) ≤ 24) then (some 0) else (some 1)) else (some 1)) else (some 1))))
theorem bV.calls (a0_0 : Int) (a0_1 : Int) (a0_2 : ByteArray) (r : Int) (w : World) (h : bV.f a0_0 a0_1 a0_2 = some r) :
  Calls Try.prog 68 #[.agg #[.int .i64 a0_0, .int .i64 a0_1, .string a0_2]] w fun e w' => e = .returned (.int .i64 r) ∧ Below w.heap.size w w' := by
 have hu29 := Try.underlying29
 have HB := mk_ (Below.refl w.heap.size w)
 have H : (if a0_0 = 1 then (if a0_1 = 0 then (if (a0_2.toList = ([] : List UInt8)) then (some 0) else (some 1)) else (some 1)) else (if a0_0 = 2 then (if a0_1 = 0 then (if (a0_2.toList = ([] : List UInt8)) then (some 0) else (some 1)) else (if a0_1 = 1 then (if (a0_2.toList = ([] : List UInt8)) then (some 0) else (some 1)) else (some 1))) else (if a0_0 = 3 then ((dL.f a0_1 1152921504606846976).bind fun t228 => (if t228 = true then (if (a0_2.toList = ([] : List UInt8)) then (some 0) else (some 1)) else (some 1))) else (if a0_0 = 4 then (if a0_1 = 0 then (if ((a0_2.size : Int) ≤ 24) then (some 0) else (some 1)) else (some 1)) else (some 1))))) = some r := h
 clear h
 by_cases c2 : a0_0 = 1
 ·
  rw [if_pos c2] at H
  have c2b0 : (a0_0 == 1) = true := beq_iff_eq.mpr c2
  have c2b1 : (a0_0 != 1) = false := bne_eq_false_iff_eq.mpr c2
  clear c2
  by_cases c3 : a0_1 = 0
  rotate_left
  ·
   rw [if_neg c3] at H
   have c3b0 : (a0_1 == 0) = false := beq_eq_false_iff_ne.mpr c3
   have c3b1 : (a0_1 != 0) = true := bne_iff_ne.mpr c3
   obtain rfl := Option.some.inj H
   go_enter Try.func68, Try.ntmps68
   go_wp2_with (first | ((with_reducible refine bI (N := 1) rfl ?_); (try (refine bW z12_ ?_; dsimp only)); refine bJ ?hg (N := 1) ?hd (cs := #[.int .i64 a0_0, .int .i64 a0_1, .string a0_2]) (t := 29) ?hr ?_; (case hd => rfl); (case hg => rfl); (case hr => first | (go_simp; done) | (go_simp; rfl)); intro gb227 hg w9 hbox hb; have n0_ := mk_ (aG (Short.hB HB) hb); have n1_ := mk_ (hbox); have n2_ := mk_ ((by rw [hg]; exact (aK (Short.hB HB)) : w.heap.size ≤ gb227)); have n3_ := mk_ ((by rw [hg]; exact (aK (Short.hB HB)) : w.heap.size ≤ gb227)); clear HB; revert n0_ n1_ n2_ n3_; intro HB BK227 GW227 GE227; clear hb hbox hg; obtain ⟨hcz10_0, hcz10_1, hcz10_2, hfz10_0, hfz10_1, hfz10_2⟩ := Short.c3 BK227.out))
   go_ret
   exact ⟨q0, Short.hB HB⟩
  rw [if_pos c3] at H
  have c3b0 : (a0_1 == 0) = true := beq_iff_eq.mpr c3
  have c3b1 : (a0_1 != 0) = false := bne_eq_false_iff_eq.mpr c3
  clear c3
  by_cases c4 : (a0_2.toList = ([] : List UInt8))
  rotate_left
  ·
   rw [if_neg c4] at H
   have c4b0 : (a0_2.toList == ([] : List UInt8)) = false := beq_eq_false_iff_ne.mpr c4
   have c4b1 : (a0_2.toList != ([] : List UInt8)) = true := bne_iff_ne.mpr c4
   obtain rfl := Option.some.inj H
   go_enter Try.func68, Try.ntmps68
   go_wp2_with (first | ((with_reducible refine bI (N := 1) rfl ?_); (try (refine bW z12_ ?_; dsimp only)); refine bJ ?hg (N := 1) ?hd (cs := #[.int .i64 a0_0, .int .i64 a0_1, .string a0_2]) (t := 29) ?hr ?_; (case hd => rfl); (case hg => rfl); (case hr => first | (go_simp; done) | (go_simp; rfl)); intro gb227 hg w7 hbox hb; have n0_ := mk_ (aG (Short.hB HB) hb); have n1_ := mk_ (hbox); have n2_ := mk_ ((by rw [hg]; exact (aK (Short.hB HB)) : w.heap.size ≤ gb227)); have n3_ := mk_ ((by rw [hg]; exact (aK (Short.hB HB)) : w.heap.size ≤ gb227)); clear HB; revert n0_ n1_ n2_ n3_; intro HB BK227 GW227 GE227; clear hb hbox hg; obtain ⟨hcz8_0, hcz8_1, hcz8_2, hfz8_0, hfz8_1, hfz8_2⟩ := Short.c3 BK227.out))
   go_ret
   exact ⟨q0, Short.hB HB⟩
  rw [if_pos c4] at H
  have c4b0 : (a0_2.toList == ([] : List UInt8)) = true := beq_iff_eq.mpr c4
  have c4b1 : (a0_2.toList != ([] : List UInt8)) = false := bne_eq_false_iff_eq.mpr c4
  clear c4
  obtain rfl := Option.some.inj H
  go_enter Try.func68, Try.ntmps68
  go_wp2_with (first | ((with_reducible refine bI (N := 1) rfl ?_); (try (refine bW z12_ ?_; dsimp only)); refine bJ ?hg (N := 1) ?hd (cs := #[.int .i64 a0_0, .int .i64 a0_1, .string a0_2]) (t := 29) ?hr ?_; (case hd => rfl); (case hg => rfl); (case hr => first | (go_simp; done) | (go_simp; rfl)); intro gb227 hg w5 hbox hb; have n0_ := mk_ (aG (Short.hB HB) hb); have n1_ := mk_ (hbox); have n2_ := mk_ ((by rw [hg]; exact (aK (Short.hB HB)) : w.heap.size ≤ gb227)); have n3_ := mk_ ((by rw [hg]; exact (aK (Short.hB HB)) : w.heap.size ≤ gb227)); clear HB; revert n0_ n1_ n2_ n3_; intro HB BK227 GW227 GE227; clear hb hbox hg; obtain ⟨hcz6_0, hcz6_1, hcz6_2, hfz6_0, hfz6_1, hfz6_2⟩ := Short.c3 BK227.out))
  go_ret
  exact ⟨q0, Short.hB HB⟩
 rw [if_neg c2] at H
 have c2b0 : (a0_0 == 1) = false := beq_eq_false_iff_ne.mpr c2
 have c2b1 : (a0_0 != 1) = true := bne_iff_ne.mpr c2
 by_cases c11 : a0_0 = 2
 ·
  rw [if_pos c11] at H
  have c11b0 : (a0_0 == 2) = true := beq_iff_eq.mpr c11
  have c11b1 : (a0_0 != 2) = false := bne_eq_false_iff_eq.mpr c11
  clear c11
  by_cases c12 : a0_1 = 0
  ·
   rw [if_pos c12] at H
   have c12b0 : (a0_1 == 0) = true := beq_iff_eq.mpr c12
   have c12b1 : (a0_1 != 0) = false := bne_eq_false_iff_eq.mpr c12
   clear c12
   by_cases c13 : (a0_2.toList = ([] : List UInt8))
   rotate_left
   ·
    rw [if_neg c13] at H
    have c13b0 : (a0_2.toList == ([] : List UInt8)) = false := beq_eq_false_iff_ne.mpr c13
    have c13b1 : (a0_2.toList != ([] : List UInt8)) = true := bne_iff_ne.mpr c13
    obtain rfl := Option.some.inj H
    go_enter Try.func68, Try.ntmps68
    go_wp2_with (first | ((with_reducible refine bI (N := 1) rfl ?_); (try (refine bW z12_ ?_; dsimp only)); refine bJ ?hg (N := 1) ?hd (cs := #[.int .i64 a0_0, .int .i64 a0_1, .string a0_2]) (t := 29) ?hr ?_; (case hd => rfl); (case hg => rfl); (case hr => first | (go_simp; done) | (go_simp; rfl)); intro gb227 hg w16 hbox hb; have n0_ := mk_ (aG (Short.hB HB) hb); have n1_ := mk_ (hbox); have n2_ := mk_ ((by rw [hg]; exact (aK (Short.hB HB)) : w.heap.size ≤ gb227)); have n3_ := mk_ ((by rw [hg]; exact (aK (Short.hB HB)) : w.heap.size ≤ gb227)); clear HB; revert n0_ n1_ n2_ n3_; intro HB BK227 GW227 GE227; clear hb hbox hg; obtain ⟨hcz17_0, hcz17_1, hcz17_2, hfz17_0, hfz17_1, hfz17_2⟩ := Short.c3 BK227.out))
    go_ret
    exact ⟨q0, Short.hB HB⟩
   rw [if_pos c13] at H
   have c13b0 : (a0_2.toList == ([] : List UInt8)) = true := beq_iff_eq.mpr c13
   have c13b1 : (a0_2.toList != ([] : List UInt8)) = false := bne_eq_false_iff_eq.mpr c13
   clear c13
   obtain rfl := Option.some.inj H
   go_enter Try.func68, Try.ntmps68
   go_wp2_with (first | ((with_reducible refine bI (N := 1) rfl ?_); (try (refine bW z12_ ?_; dsimp only)); refine bJ ?hg (N := 1) ?hd (cs := #[.int .i64 a0_0, .int .i64 a0_1, .string a0_2]) (t := 29) ?hr ?_; (case hd => rfl); (case hg => rfl); (case hr => first | (go_simp; done) | (go_simp; rfl)); intro gb227 hg w14 hbox hb; have n0_ := mk_ (aG (Short.hB HB) hb); have n1_ := mk_ (hbox); have n2_ := mk_ ((by rw [hg]; exact (aK (Short.hB HB)) : w.heap.size ≤ gb227)); have n3_ := mk_ ((by rw [hg]; exact (aK (Short.hB HB)) : w.heap.size ≤ gb227)); clear HB; revert n0_ n1_ n2_ n3_; intro HB BK227 GW227 GE227; clear hb hbox hg; obtain ⟨hcz15_0, hcz15_1, hcz15_2, hfz15_0, hfz15_1, hfz15_2⟩ := Short.c3 BK227.out))
   go_ret
   exact ⟨q0, Short.hB HB⟩
  rw [if_neg c12] at H
  have c12b0 : (a0_1 == 0) = false := beq_eq_false_iff_ne.mpr c12
  have c12b1 : (a0_1 != 0) = true := bne_iff_ne.mpr c12
  by_cases c18 : a0_1 = 1
  rotate_left
  ·
   rw [if_neg c18] at H
   have c18b0 : (a0_1 == 1) = false := beq_eq_false_iff_ne.mpr c18
   have c18b1 : (a0_1 != 1) = true := bne_iff_ne.mpr c18
   obtain rfl := Option.some.inj H
   go_enter Try.func68, Try.ntmps68
   go_wp2_with (first | ((with_reducible refine bI (N := 1) rfl ?_); (try (refine bW z12_ ?_; dsimp only)); refine bJ ?hg (N := 1) ?hd (cs := #[.int .i64 a0_0, .int .i64 a0_1, .string a0_2]) (t := 29) ?hr ?_; (case hd => rfl); (case hg => rfl); (case hr => first | (go_simp; done) | (go_simp; rfl)); intro gb227 hg w24 hbox hb; have n0_ := mk_ (aG (Short.hB HB) hb); have n1_ := mk_ (hbox); have n2_ := mk_ ((by rw [hg]; exact (aK (Short.hB HB)) : w.heap.size ≤ gb227)); have n3_ := mk_ ((by rw [hg]; exact (aK (Short.hB HB)) : w.heap.size ≤ gb227)); clear HB; revert n0_ n1_ n2_ n3_; intro HB BK227 GW227 GE227; clear hb hbox hg; obtain ⟨hcz25_0, hcz25_1, hcz25_2, hfz25_0, hfz25_1, hfz25_2⟩ := Short.c3 BK227.out))
   go_ret
   exact ⟨q0, Short.hB HB⟩
  rw [if_pos c18] at H
  have c18b0 : (a0_1 == 1) = true := beq_iff_eq.mpr c18
  have c18b1 : (a0_1 != 1) = false := bne_eq_false_iff_eq.mpr c18
  clear c18
  by_cases c19 : (a0_2.toList = ([] : List UInt8))
  rotate_left
  ·
   rw [if_neg c19] at H
   have c19b0 : (a0_2.toList == ([] : List UInt8)) = false := beq_eq_false_iff_ne.mpr c19
   have c19b1 : (a0_2.toList != ([] : List UInt8)) = true := bne_iff_ne.mpr c19
   obtain rfl := Option.some.inj H
   go_enter Try.func68, Try.ntmps68
   go_wp2_with (first | ((with_reducible refine bI (N := 1) rfl ?_); (try (refine bW z12_ ?_; dsimp only)); refine bJ ?hg (N := 1) ?hd (cs := #[.int .i64 a0_0, .int .i64 a0_1, .string a0_2]) (t := 29) ?hr ?_; (case hd => rfl); (case hg => rfl); (case hr => first | (go_simp; done) | (go_simp; rfl)); intro gb227 hg w22 hbox hb; have n0_ := mk_ (aG (Short.hB HB) hb); have n1_ := mk_ (hbox); have n2_ := mk_ ((by rw [hg]; exact (aK (Short.hB HB)) : w.heap.size ≤ gb227)); have n3_ := mk_ ((by rw [hg]; exact (aK (Short.hB HB)) : w.heap.size ≤ gb227)); clear HB; revert n0_ n1_ n2_ n3_; intro HB BK227 GW227 GE227; clear hb hbox hg; obtain ⟨hcz23_0, hcz23_1, hcz23_2, hfz23_0, hfz23_1, hfz23_2⟩ := Short.c3 BK227.out))
   go_ret
   exact ⟨q0, Short.hB HB⟩
  rw [if_pos c19] at H
  have c19b0 : (a0_2.toList == ([] : List UInt8)) = true := beq_iff_eq.mpr c19
  have c19b1 : (a0_2.toList != ([] : List UInt8)) = false := bne_eq_false_iff_eq.mpr c19
  clear c19
  obtain rfl := Option.some.inj H
  go_enter Try.func68, Try.ntmps68
  go_wp2_with (first | ((with_reducible refine bI (N := 1) rfl ?_); (try (refine bW z12_ ?_; dsimp only)); refine bJ ?hg (N := 1) ?hd (cs := #[.int .i64 a0_0, .int .i64 a0_1, .string a0_2]) (t := 29) ?hr ?_; (case hd => rfl); (case hg => rfl); (case hr => first | (go_simp; done) | (go_simp; rfl)); intro gb227 hg w20 hbox hb; have n0_ := mk_ (aG (Short.hB HB) hb); have n1_ := mk_ (hbox); have n2_ := mk_ ((by rw [hg]; exact (aK (Short.hB HB)) : w.heap.size ≤ gb227)); have n3_ := mk_ ((by rw [hg]; exact (aK (Short.hB HB)) : w.heap.size ≤ gb227)); clear HB; revert n0_ n1_ n2_ n3_; intro HB BK227 GW227 GE227; clear hb hbox hg; obtain ⟨hcz21_0, hcz21_1, hcz21_2, hfz21_0, hfz21_1, hfz21_2⟩ := Short.c3 BK227.out))
  go_ret
  exact ⟨q0, Short.hB HB⟩
 rw [if_neg c11] at H
 have c11b0 : (a0_0 == 2) = false := beq_eq_false_iff_ne.mpr c11
 have c11b1 : (a0_0 != 2) = true := bne_iff_ne.mpr c11
 by_cases c26 : a0_0 = 3
 ·
  rw [if_pos c26] at H
  have c26b0 : (a0_0 == 3) = true := beq_iff_eq.mpr c26
  have c26b1 : (a0_0 != 3) = false := bne_eq_false_iff_eq.mpr c26
  clear c26
  replace H := Option.bind_eq_some_iff.mp H
  obtain ⟨t228, A270, H⟩ := H
  replace H : (if t228 = true then (if (a0_2.toList = ([] : List UInt8)) then (some 0) else (some 1)) else (some 1)) = some r := H
  have A27 := mk_ A270
  clear A270
  by_cases c28 : t228 = true
  rotate_left
  ·
   replace c28 := Bool.eq_false_iff.mpr c28
   subst c28
   rw [if_neg (show ¬ (false = true) by decide)] at H
   obtain rfl := Option.some.inj H
   go_enter Try.func68, Try.ntmps68
   go_wp2_with (first | ((with_reducible refine bI (N := 1) rfl ?_); (try (refine bW z12_ ?_; dsimp only)); refine bJ ?hg (N := 1) ?hd (cs := #[.int .i64 a0_0, .int .i64 a0_1, .string a0_2]) (t := 29) ?hr ?_; (case hd => rfl); (case hg => rfl); (case hr => first | (go_simp; done) | (go_simp; rfl)); intro gb227 hg w34 hbox hb; have n0_ := mk_ (aG (Short.hB HB) hb); have n1_ := mk_ (hbox); have n2_ := mk_ ((by rw [hg]; exact (aK (Short.hB HB)) : w.heap.size ≤ gb227)); have n3_ := mk_ ((by rw [hg]; exact (aK (Short.hB HB)) : w.heap.size ≤ gb227)); clear HB; revert n0_ n1_ n2_ n3_; intro HB BK227 GW227 GE227; clear hb hbox hg; obtain ⟨hcz35_0, hcz35_1, hcz35_2, hfz35_0, hfz35_1, hfz35_2⟩ := Short.c3 BK227.out) | ((with_reducible refine bB (f := 73) rfl ?_); refine Short.gL (some 35) Try.func73 #[.int .i64 a0_1, .int .i64 1152921504606846976] (h := ?_); (with_reducible refine (dL.calls a0_1 1152921504606846976 false _ A27.out).mono ?_); rintro e w' ⟨rfl, ⟨nd, rfl⟩⟩; refine ⟨_, rfl, ?_⟩))
   go_ret
   exact ⟨q0, Short.hB HB⟩
  subst c28
  rw [if_pos rfl] at H
  by_cases c29 : (a0_2.toList = ([] : List UInt8))
  rotate_left
  ·
   rw [if_neg c29] at H
   have c29b0 : (a0_2.toList == ([] : List UInt8)) = false := beq_eq_false_iff_ne.mpr c29
   have c29b1 : (a0_2.toList != ([] : List UInt8)) = true := bne_iff_ne.mpr c29
   obtain rfl := Option.some.inj H
   go_enter Try.func68, Try.ntmps68
   go_wp2_with (first | ((with_reducible refine bI (N := 1) rfl ?_); (try (refine bW z12_ ?_; dsimp only)); refine bJ ?hg (N := 1) ?hd (cs := #[.int .i64 a0_0, .int .i64 a0_1, .string a0_2]) (t := 29) ?hr ?_; (case hd => rfl); (case hg => rfl); (case hr => first | (go_simp; done) | (go_simp; rfl)); intro gb227 hg w32 hbox hb; have n0_ := mk_ (aG (Short.hB HB) hb); have n1_ := mk_ (hbox); have n2_ := mk_ ((by rw [hg]; exact (aK (Short.hB HB)) : w.heap.size ≤ gb227)); have n3_ := mk_ ((by rw [hg]; exact (aK (Short.hB HB)) : w.heap.size ≤ gb227)); clear HB; revert n0_ n1_ n2_ n3_; intro HB BK227 GW227 GE227; clear hb hbox hg; obtain ⟨hcz33_0, hcz33_1, hcz33_2, hfz33_0, hfz33_1, hfz33_2⟩ := Short.c3 BK227.out) | ((with_reducible refine bB (f := 73) rfl ?_); refine Short.gL (some 35) Try.func73 #[.int .i64 a0_1, .int .i64 1152921504606846976] (h := ?_); (with_reducible refine (dL.calls a0_1 1152921504606846976 true _ A27.out).mono ?_); rintro e w' ⟨rfl, ⟨nd, rfl⟩⟩; refine ⟨_, rfl, ?_⟩))
   go_ret
   exact ⟨q0, Short.hB HB⟩
  rw [if_pos c29] at H
  have c29b0 : (a0_2.toList == ([] : List UInt8)) = true := beq_iff_eq.mpr c29
  have c29b1 : (a0_2.toList != ([] : List UInt8)) = false := bne_eq_false_iff_eq.mpr c29
  clear c29
  obtain rfl := Option.some.inj H
  go_enter Try.func68, Try.ntmps68
  go_wp2_with (first | ((with_reducible refine bI (N := 1) rfl ?_); (try (refine bW z12_ ?_; dsimp only)); refine bJ ?hg (N := 1) ?hd (cs := #[.int .i64 a0_0, .int .i64 a0_1, .string a0_2]) (t := 29) ?hr ?_; (case hd => rfl); (case hg => rfl); (case hr => first | (go_simp; done) | (go_simp; rfl)); intro gb227 hg w30 hbox hb; have n0_ := mk_ (aG (Short.hB HB) hb); have n1_ := mk_ (hbox); have n2_ := mk_ ((by rw [hg]; exact (aK (Short.hB HB)) : w.heap.size ≤ gb227)); have n3_ := mk_ ((by rw [hg]; exact (aK (Short.hB HB)) : w.heap.size ≤ gb227)); clear HB; revert n0_ n1_ n2_ n3_; intro HB BK227 GW227 GE227; clear hb hbox hg; obtain ⟨hcz31_0, hcz31_1, hcz31_2, hfz31_0, hfz31_1, hfz31_2⟩ := Short.c3 BK227.out) | ((with_reducible refine bB (f := 73) rfl ?_); refine Short.gL (some 35) Try.func73 #[.int .i64 a0_1, .int .i64 1152921504606846976] (h := ?_); (with_reducible refine (dL.calls a0_1 1152921504606846976 true _ A27.out).mono ?_); rintro e w' ⟨rfl, ⟨nd, rfl⟩⟩; refine ⟨_, rfl, ?_⟩))
  go_ret
  exact ⟨q0, Short.hB HB⟩
 rw [if_neg c26] at H
 have c26b0 : (a0_0 == 3) = false := beq_eq_false_iff_ne.mpr c26
 have c26b1 : (a0_0 != 3) = true := bne_iff_ne.mpr c26
 by_cases c36 : a0_0 = 4
 rotate_left
 ·
  rw [if_neg c36] at H
  have c36b0 : (a0_0 == 4) = false := beq_eq_false_iff_ne.mpr c36
  have c36b1 : (a0_0 != 4) = true := bne_iff_ne.mpr c36
  obtain rfl := Option.some.inj H
  go_enter Try.func68, Try.ntmps68
  go_wp2_with (first | ((with_reducible refine bI (N := 1) rfl ?_); (try (refine bW z12_ ?_; dsimp only)); refine bJ ?hg (N := 1) ?hd (cs := #[.int .i64 a0_0, .int .i64 a0_1, .string a0_2]) (t := 29) ?hr ?_; (case hd => rfl); (case hg => rfl); (case hr => first | (go_simp; done) | (go_simp; rfl)); intro gb227 hg w45 hbox hb; have n0_ := mk_ (aG (Short.hB HB) hb); have n1_ := mk_ (hbox); have n2_ := mk_ ((by rw [hg]; exact (aK (Short.hB HB)) : w.heap.size ≤ gb227)); have n3_ := mk_ ((by rw [hg]; exact (aK (Short.hB HB)) : w.heap.size ≤ gb227)); clear HB; revert n0_ n1_ n2_ n3_; intro HB BK227 GW227 GE227; clear hb hbox hg; obtain ⟨hcz46_0, hcz46_1, hcz46_2, hfz46_0, hfz46_1, hfz46_2⟩ := Short.c3 BK227.out))
  go_ret
  exact ⟨q0, Short.hB HB⟩
 rw [if_pos c36] at H
 have c36b0 : (a0_0 == 4) = true := beq_iff_eq.mpr c36
 have c36b1 : (a0_0 != 4) = false := bne_eq_false_iff_eq.mpr c36
 clear c36
 by_cases c37 : a0_1 = 0
 rotate_left
 ·
  rw [if_neg c37] at H
  have c37b0 : (a0_1 == 0) = false := beq_eq_false_iff_ne.mpr c37
  have c37b1 : (a0_1 != 0) = true := bne_iff_ne.mpr c37
  obtain rfl := Option.some.inj H
  go_enter Try.func68, Try.ntmps68
  go_wp2_with (first | ((with_reducible refine bI (N := 1) rfl ?_); (try (refine bW z12_ ?_; dsimp only)); refine bJ ?hg (N := 1) ?hd (cs := #[.int .i64 a0_0, .int .i64 a0_1, .string a0_2]) (t := 29) ?hr ?_; (case hd => rfl); (case hg => rfl); (case hr => first | (go_simp; done) | (go_simp; rfl)); intro gb227 hg w43 hbox hb; have n0_ := mk_ (aG (Short.hB HB) hb); have n1_ := mk_ (hbox); have n2_ := mk_ ((by rw [hg]; exact (aK (Short.hB HB)) : w.heap.size ≤ gb227)); have n3_ := mk_ ((by rw [hg]; exact (aK (Short.hB HB)) : w.heap.size ≤ gb227)); clear HB; revert n0_ n1_ n2_ n3_; intro HB BK227 GW227 GE227; clear hb hbox hg; obtain ⟨hcz44_0, hcz44_1, hcz44_2, hfz44_0, hfz44_1, hfz44_2⟩ := Short.c3 BK227.out))
  go_ret
  exact ⟨q0, Short.hB HB⟩
 rw [if_pos c37] at H
 have c37b0 : (a0_1 == 0) = true := beq_iff_eq.mpr c37
 have c37b1 : (a0_1 != 0) = false := bne_eq_false_iff_eq.mpr c37
 clear c37
 by_cases c38 : ((a0_2.size : Int) ≤ 24)
 ·
  rw [if_pos c38] at H
  have c38b0 : decide ((a0_2.size : Int) ≤ 24) = true := decide_eq_true c38
  have c38b1 : decide (a0_2.size ≤ 24) = true := decide_eq_true z5_
  clear c38
  obtain rfl := Option.some.inj H
  go_enter Try.func68, Try.ntmps68
  go_wp2_with (first | ((with_reducible refine bI (N := 1) rfl ?_); (try (refine bW z12_ ?_; dsimp only)); refine bJ ?hg (N := 1) ?hd (cs := #[.int .i64 a0_0, .int .i64 a0_1, .string a0_2]) (t := 29) ?hr ?_; (case hd => rfl); (case hg => rfl); (case hr => first | (go_simp; done) | (go_simp; rfl)); intro gb227 hg w39 hbox hb; have n0_ := mk_ (aG (Short.hB HB) hb); have n1_ := mk_ (hbox); have n2_ := mk_ ((by rw [hg]; exact (aK (Short.hB HB)) : w.heap.size ≤ gb227)); have n3_ := mk_ ((by rw [hg]; exact (aK (Short.hB HB)) : w.heap.size ≤ gb227)); clear HB; revert n0_ n1_ n2_ n3_; intro HB BK227 GW227 GE227; clear hb hbox hg; obtain ⟨hcz40_0, hcz40_1, hcz40_2, hfz40_0, hfz40_1, hfz40_2⟩ := Short.c3 BK227.out))
  go_ret
  exact ⟨q0, Short.hB HB⟩
 rw [if_neg c38] at H
 have c38b0 : decide ((a0_2.size : Int) ≤ 24) = false := decide_eq_false c38
 have c38b1 : decide (a0_2.size ≤ 24) = false := decide_eq_false z5_
 clear c38
 obtain rfl := Option.some.inj H
 go_enter Try.func68, Try.ntmps68
 go_wp2_with (first | ((with_reducible refine bI (N := 1) rfl ?_); (try (refine bW z12_ ?_; dsimp only)); refine bJ ?hg (N := 1) ?hd (cs := #[.int .i64 a0_0, .int .i64 a0_1, .string a0_2]) (t := 29) ?hr ?_; (case hd => rfl); (case hg => rfl); (case hr => first | (go_simp; done) | (go_simp; rfl)); intro gb227 hg w41 hbox hb; have n0_ := mk_ (aG (Short.hB HB) hb); have n1_ := mk_ (hbox); have n2_ := mk_ ((by rw [hg]; exact (aK (Short.hB HB)) : w.heap.size ≤ gb227)); have n3_ := mk_ ((by rw [hg]; exact (aK (Short.hB HB)) : w.heap.size ≤ gb227)); clear HB; revert n0_ n1_ n2_ n3_; intro HB BK227 GW227 GE227; clear hb hbox hg; obtain ⟨hcz42_0, hcz42_1, hcz42_2, hfz42_0, hfz42_1, hfz42_2⟩ := Short.c3 BK227.out))
 go_ret
 exact ⟨q0, Short.hB HB⟩
def dU.f (a0_0 : Int) (a0_1 : Int) (a0_2 : ByteArray) (a1 : Int) : Option (Bool) := if a1 = 2 then ((bV.f a0_0 a0_1 a0_2).bind fun t230 => (if t230 = 0 then (if a0_0 = a1 then (some true) else (some (a0_0 == 1))) else (some false))) else (if a1 = 3 then ((bV.f a0_0 a0_1 a0_2).bind fun t231 => (if t231 = 0 then (if a0_0 = a1 then (some true) else (some (a0_0 == 1))) else (some false))) else (if a1 = 4 then ((bV.f a0_0 a0_1 a0_2).bind fun t232 => (if t232 = 0 then (if a0_0 = a1 then (some true) else (some (a0_0 == 1))) else (some false))) else (some false)))
theorem dU.calls (a0_0 : Int) (a0_1 : Int) (a0_2 : ByteArray) (a1 : Int) (r : Bool) (w : World) (h : dU.f a0_0 a0_1 a0_2 a1 = some r) :
  Calls Try.prog 69 #[.agg #[.int .i64 a0_0, .int .i64 a0_1, .string a0_2], .int .i64 a1] w fun e w' => e = .returned (.bool r) ∧ Below w.heap.size w w' := by
 have hu29 := Try.underlying29
 have HB := mk_ (Below.refl w.heap.size w)
 have H : (if a1 = 2 then ((bV.f a0_0 a0_1 a0_2).bind fun t230 => (if t230 = 0 then (if a0_0 = a1 then (some true) else (some (a0_0 == 1))) else (some false))) else (if a1 = 3 then ((bV.f a0_0 a0_1 a0_2).bind fun t231 => (if t231 = 0 then (if a0_0 = a1 then (some true) else (some (a0_0 == 1))) else (some false))) else (if a1 = 4 then ((bV.f a0_0 a0_1 a0_2).bind fun t232 => (if t232 = 0 then (if a0_0 = a1 then (some true) else (some (a0_0 == 1))) else (some false))) else (some false)))) = some r := h
 clear h
 by_cases c3 : a1 = 2
 ·
  rw [if_pos c3] at H
  have c3b0 : (a1 == 2) = true := beq_iff_eq.mpr c3
  have c3b1 : (a1 != 2) = false := bne_eq_false_iff_eq.mpr c3
  clear c3
  replace H := Option.bind_eq_some_iff.mp H
  obtain ⟨t230, A40, H⟩ := H
  replace H : (if t230 = 0 then (if a0_0 = a1 then (some true) else (some (a0_0 == 1))) else (some false)) = some r := H
  have A4 := mk_ A40
  clear A40
  by_cases c5 : t230 = 0
  rotate_left
  ·
   rw [if_neg c5] at H
   have c5b0 : (t230 == 0) = false := beq_eq_false_iff_ne.mpr c5
   have c5b1 : (t230 != 0) = true := bne_iff_ne.mpr c5
   obtain rfl := Option.some.inj H
   go_enter Try.func69, Try.ntmps69
   go_wp2_with (first | ((with_reducible refine bI (N := 2) rfl ?_); refine bJ ?hg (N := 2) ?hd (cs := #[.int .i64 a0_0, .int .i64 a0_1, .string a0_2]) (t := 29) ?hr ?_; (case hd => rfl); (case hg => rfl); (case hr => first | (go_simp; done) | (go_simp; rfl)); intro gb229 hg w15 hbox hb; have n0_ := mk_ (aG (Short.hB HB) hb); have n1_ := mk_ (hbox); have n2_ := mk_ ((by rw [hg]; exact (aK (Short.hB HB)) : w.heap.size ≤ gb229)); have n3_ := mk_ ((by rw [hg]; exact (aK (Short.hB HB)) : w.heap.size ≤ gb229)); clear HB; revert n0_ n1_ n2_ n3_; intro HB BK229 GW229 GE229; clear hb hbox hg; obtain ⟨hcz16_0, hcz16_1, hcz16_2, hfz16_0, hfz16_1, hfz16_2⟩ := Short.c3 BK229.out) | (go_at_call 68; (with_reducible refine (bV.calls a0_0 a0_1 a0_2 t230 _ A4.out).mono ?_); rintro e w17 ⟨rfl, hb⟩; have n0_ := mk_ (bB_ BK229 hb); have n1_ := mk_ (aG (Short.hB HB) hb); clear BK229 HB; revert n0_ n1_; intro BK229 HB; (try clear hb); (try clear hb2); (try clear hk); (try clear hi)))
   go_ret
   exact ⟨q0, Short.hB HB⟩
  rw [if_pos c5] at H
  have c5b0 : (t230 == 0) = true := beq_iff_eq.mpr c5
  have c5b1 : (t230 != 0) = false := bne_eq_false_iff_eq.mpr c5
  clear c5
  by_cases c6 : a0_0 = a1
  rotate_left
  ·
   rw [if_neg c6] at H
   have c6b0 : (a0_0 == a1) = false := beq_eq_false_iff_ne.mpr c6
   have c6b1 : (a0_0 != a1) = true := bne_iff_ne.mpr c6
   obtain rfl := Option.some.inj H
   go_enter Try.func69, Try.ntmps69
   go_wp2_with (first | ((with_reducible refine bI (N := 2) rfl ?_); refine bJ ?hg (N := 2) ?hd (cs := #[.int .i64 a0_0, .int .i64 a0_1, .string a0_2]) (t := 29) ?hr ?_; (case hd => rfl); (case hg => rfl); (case hr => first | (go_simp; done) | (go_simp; rfl)); intro gb229 hg w11 hbox hb; have n0_ := mk_ (aG (Short.hB HB) hb); have n1_ := mk_ (hbox); have n2_ := mk_ ((by rw [hg]; exact (aK (Short.hB HB)) : w.heap.size ≤ gb229)); have n3_ := mk_ ((by rw [hg]; exact (aK (Short.hB HB)) : w.heap.size ≤ gb229)); clear HB; revert n0_ n1_ n2_ n3_; intro HB BK229 GW229 GE229; clear hb hbox hg; obtain ⟨hcz12_0, hcz12_1, hcz12_2, hfz12_0, hfz12_1, hfz12_2⟩ := Short.c3 BK229.out) | (go_at_call 68; (with_reducible refine (bV.calls a0_0 a0_1 a0_2 t230 _ A4.out).mono ?_); rintro e w13 ⟨rfl, hb⟩; have n0_ := mk_ (bB_ BK229 hb); have n1_ := mk_ (aG (Short.hB HB) hb); clear BK229 HB; revert n0_ n1_; intro BK229 HB; (try clear hb); (try clear hb2); (try clear hk); (try clear hi); obtain ⟨hcz14_0, hcz14_1, hcz14_2, hfz14_0, hfz14_1, hfz14_2⟩ := Short.c3 BK229.out))
   go_ret
   exact ⟨q0, Short.hB HB⟩
  rw [if_pos c6] at H
  have c6b0 : (a0_0 == a1) = true := beq_iff_eq.mpr c6
  have c6b1 : (a0_0 != a1) = false := bne_eq_false_iff_eq.mpr c6
  clear c6
  obtain rfl := Option.some.inj H
  go_enter Try.func69, Try.ntmps69
  go_wp2_with (first | ((with_reducible refine bI (N := 2) rfl ?_); refine bJ ?hg (N := 2) ?hd (cs := #[.int .i64 a0_0, .int .i64 a0_1, .string a0_2]) (t := 29) ?hr ?_; (case hd => rfl); (case hg => rfl); (case hr => first | (go_simp; done) | (go_simp; rfl)); intro gb229 hg w7 hbox hb; have n0_ := mk_ (aG (Short.hB HB) hb); have n1_ := mk_ (hbox); have n2_ := mk_ ((by rw [hg]; exact (aK (Short.hB HB)) : w.heap.size ≤ gb229)); have n3_ := mk_ ((by rw [hg]; exact (aK (Short.hB HB)) : w.heap.size ≤ gb229)); clear HB; revert n0_ n1_ n2_ n3_; intro HB BK229 GW229 GE229; clear hb hbox hg; obtain ⟨hcz8_0, hcz8_1, hcz8_2, hfz8_0, hfz8_1, hfz8_2⟩ := Short.c3 BK229.out) | (go_at_call 68; (with_reducible refine (bV.calls a0_0 a0_1 a0_2 t230 _ A4.out).mono ?_); rintro e w9 ⟨rfl, hb⟩; have n0_ := mk_ (bB_ BK229 hb); have n1_ := mk_ (aG (Short.hB HB) hb); clear BK229 HB; revert n0_ n1_; intro BK229 HB; (try clear hb); (try clear hb2); (try clear hk); (try clear hi); obtain ⟨hcz10_0, hcz10_1, hcz10_2, hfz10_0, hfz10_1, hfz10_2⟩ := Short.c3 BK229.out))
  go_ret
  exact ⟨q0, Short.hB HB⟩
 rw [if_neg c3] at H
 have c3b0 : (a1 == 2) = false := beq_eq_false_iff_ne.mpr c3
 have c3b1 : (a1 != 2) = true := bne_iff_ne.mpr c3
 by_cases c18 : a1 = 3
 ·
  rw [if_pos c18] at H
  have c18b0 : (a1 == 3) = true := beq_iff_eq.mpr c18
  have c18b1 : (a1 != 3) = false := bne_eq_false_iff_eq.mpr c18
  clear c18
  replace H := Option.bind_eq_some_iff.mp H
  obtain ⟨t231, A190, H⟩ := H
  replace H : (if t231 = 0 then (if a0_0 = a1 then (some true) else (some (a0_0 == 1))) else (some false)) = some r := H
  have A19 := mk_ A190
  clear A190
  by_cases c20 : t231 = 0
  rotate_left
  ·
   rw [if_neg c20] at H
   have c20b0 : (t231 == 0) = false := beq_eq_false_iff_ne.mpr c20
   have c20b1 : (t231 != 0) = true := bne_iff_ne.mpr c20
   obtain rfl := Option.some.inj H
   go_enter Try.func69, Try.ntmps69
   go_wp2_with (first | ((with_reducible refine bI (N := 2) rfl ?_); refine bJ ?hg (N := 2) ?hd (cs := #[.int .i64 a0_0, .int .i64 a0_1, .string a0_2]) (t := 29) ?hr ?_; (case hd => rfl); (case hg => rfl); (case hr => first | (go_simp; done) | (go_simp; rfl)); intro gb229 hg w30 hbox hb; have n0_ := mk_ (aG (Short.hB HB) hb); have n1_ := mk_ (hbox); have n2_ := mk_ ((by rw [hg]; exact (aK (Short.hB HB)) : w.heap.size ≤ gb229)); have n3_ := mk_ ((by rw [hg]; exact (aK (Short.hB HB)) : w.heap.size ≤ gb229)); clear HB; revert n0_ n1_ n2_ n3_; intro HB BK229 GW229 GE229; clear hb hbox hg; obtain ⟨hcz31_0, hcz31_1, hcz31_2, hfz31_0, hfz31_1, hfz31_2⟩ := Short.c3 BK229.out) | (go_at_call 68; (with_reducible refine (bV.calls a0_0 a0_1 a0_2 t231 _ A19.out).mono ?_); rintro e w32 ⟨rfl, hb⟩; have n0_ := mk_ (bB_ BK229 hb); have n1_ := mk_ (aG (Short.hB HB) hb); clear BK229 HB; revert n0_ n1_; intro BK229 HB; (try clear hb); (try clear hb2); (try clear hk); (try clear hi)))
   go_ret
   exact ⟨q0, Short.hB HB⟩
  rw [if_pos c20] at H
  have c20b0 : (t231 == 0) = true := beq_iff_eq.mpr c20
  have c20b1 : (t231 != 0) = false := bne_eq_false_iff_eq.mpr c20
  clear c20
  by_cases c21 : a0_0 = a1
  rotate_left
  ·
   rw [if_neg c21] at H
   have c21b0 : (a0_0 == a1) = false := beq_eq_false_iff_ne.mpr c21
   have c21b1 : (a0_0 != a1) = true := bne_iff_ne.mpr c21
   obtain rfl := Option.some.inj H
   go_enter Try.func69, Try.ntmps69
   go_wp2_with (first | ((with_reducible refine bI (N := 2) rfl ?_); refine bJ ?hg (N := 2) ?hd (cs := #[.int .i64 a0_0, .int .i64 a0_1, .string a0_2]) (t := 29) ?hr ?_; (case hd => rfl); (case hg => rfl); (case hr => first | (go_simp; done) | (go_simp; rfl)); intro gb229 hg w26 hbox hb; have n0_ := mk_ (aG (Short.hB HB) hb); have n1_ := mk_ (hbox); have n2_ := mk_ ((by rw [hg]; exact (aK (Short.hB HB)) : w.heap.size ≤ gb229)); have n3_ := mk_ ((by rw [hg]; exact (aK (Short.hB HB)) : w.heap.size ≤ gb229)); clear HB; revert n0_ n1_ n2_ n3_; intro HB BK229 GW229 GE229; clear hb hbox hg; obtain ⟨hcz27_0, hcz27_1, hcz27_2, hfz27_0, hfz27_1, hfz27_2⟩ := Short.c3 BK229.out) | (go_at_call 68; (with_reducible refine (bV.calls a0_0 a0_1 a0_2 t231 _ A19.out).mono ?_); rintro e w28 ⟨rfl, hb⟩; have n0_ := mk_ (bB_ BK229 hb); have n1_ := mk_ (aG (Short.hB HB) hb); clear BK229 HB; revert n0_ n1_; intro BK229 HB; (try clear hb); (try clear hb2); (try clear hk); (try clear hi); obtain ⟨hcz29_0, hcz29_1, hcz29_2, hfz29_0, hfz29_1, hfz29_2⟩ := Short.c3 BK229.out))
   go_ret
   exact ⟨q0, Short.hB HB⟩
  rw [if_pos c21] at H
  have c21b0 : (a0_0 == a1) = true := beq_iff_eq.mpr c21
  have c21b1 : (a0_0 != a1) = false := bne_eq_false_iff_eq.mpr c21
  clear c21
  obtain rfl := Option.some.inj H
  go_enter Try.func69, Try.ntmps69
  go_wp2_with (first | ((with_reducible refine bI (N := 2) rfl ?_); refine bJ ?hg (N := 2) ?hd (cs := #[.int .i64 a0_0, .int .i64 a0_1, .string a0_2]) (t := 29) ?hr ?_; (case hd => rfl); (case hg => rfl); (case hr => first | (go_simp; done) | (go_simp; rfl)); intro gb229 hg w22 hbox hb; have n0_ := mk_ (aG (Short.hB HB) hb); have n1_ := mk_ (hbox); have n2_ := mk_ ((by rw [hg]; exact (aK (Short.hB HB)) : w.heap.size ≤ gb229)); have n3_ := mk_ ((by rw [hg]; exact (aK (Short.hB HB)) : w.heap.size ≤ gb229)); clear HB; revert n0_ n1_ n2_ n3_; intro HB BK229 GW229 GE229; clear hb hbox hg; obtain ⟨hcz23_0, hcz23_1, hcz23_2, hfz23_0, hfz23_1, hfz23_2⟩ := Short.c3 BK229.out) | (go_at_call 68; (with_reducible refine (bV.calls a0_0 a0_1 a0_2 t231 _ A19.out).mono ?_); rintro e w24 ⟨rfl, hb⟩; have n0_ := mk_ (bB_ BK229 hb); have n1_ := mk_ (aG (Short.hB HB) hb); clear BK229 HB; revert n0_ n1_; intro BK229 HB; (try clear hb); (try clear hb2); (try clear hk); (try clear hi); obtain ⟨hcz25_0, hcz25_1, hcz25_2, hfz25_0, hfz25_1, hfz25_2⟩ := Short.c3 BK229.out))
  go_ret
  exact ⟨q0, Short.hB HB⟩
 rw [if_neg c18] at H
 have c18b0 : (a1 == 3) = false := beq_eq_false_iff_ne.mpr c18
 have c18b1 : (a1 != 3) = true := bne_iff_ne.mpr c18
 by_cases c33 : a1 = 4
 rotate_left
 ·
  rw [if_neg c33] at H
  have c33b0 : (a1 == 4) = false := beq_eq_false_iff_ne.mpr c33
  have c33b1 : (a1 != 4) = true := bne_iff_ne.mpr c33
  obtain rfl := Option.some.inj H
  go_enter Try.func69, Try.ntmps69
  go_wp2_with (first | ((with_reducible refine bI (N := 2) rfl ?_); refine bJ ?hg (N := 2) ?hd (cs := #[.int .i64 a0_0, .int .i64 a0_1, .string a0_2]) (t := 29) ?hr ?_; (case hd => rfl); (case hg => rfl); (case hr => first | (go_simp; done) | (go_simp; rfl)); intro gb229 hg w48 hbox hb; have n0_ := mk_ (aG (Short.hB HB) hb); have n1_ := mk_ (hbox); have n2_ := mk_ ((by rw [hg]; exact (aK (Short.hB HB)) : w.heap.size ≤ gb229)); have n3_ := mk_ ((by rw [hg]; exact (aK (Short.hB HB)) : w.heap.size ≤ gb229)); clear HB; revert n0_ n1_ n2_ n3_; intro HB BK229 GW229 GE229; clear hb hbox hg))
  go_ret
  exact ⟨q0, Short.hB HB⟩
 rw [if_pos c33] at H
 have c33b0 : (a1 == 4) = true := beq_iff_eq.mpr c33
 have c33b1 : (a1 != 4) = false := bne_eq_false_iff_eq.mpr c33
 clear c33
 replace H := Option.bind_eq_some_iff.mp H
 obtain ⟨t232, A340, H⟩ := H
 replace H : (if t232 = 0 then (if a0_0 = a1 then (some true) else (some (a0_0 == 1))) else (some false)) = some r := H
 have A34 := mk_ A340
 clear A340
 by_cases c35 : t232 = 0
 rotate_left
 ·
  rw [if_neg c35] at H
  have c35b0 : (t232 == 0) = false := beq_eq_false_iff_ne.mpr c35
  have c35b1 : (t232 != 0) = true := bne_iff_ne.mpr c35
  obtain rfl := Option.some.inj H
  go_enter Try.func69, Try.ntmps69
  go_wp2_with (first | ((with_reducible refine bI (N := 2) rfl ?_); refine bJ ?hg (N := 2) ?hd (cs := #[.int .i64 a0_0, .int .i64 a0_1, .string a0_2]) (t := 29) ?hr ?_; (case hd => rfl); (case hg => rfl); (case hr => first | (go_simp; done) | (go_simp; rfl)); intro gb229 hg w45 hbox hb; have n0_ := mk_ (aG (Short.hB HB) hb); have n1_ := mk_ (hbox); have n2_ := mk_ ((by rw [hg]; exact (aK (Short.hB HB)) : w.heap.size ≤ gb229)); have n3_ := mk_ ((by rw [hg]; exact (aK (Short.hB HB)) : w.heap.size ≤ gb229)); clear HB; revert n0_ n1_ n2_ n3_; intro HB BK229 GW229 GE229; clear hb hbox hg; obtain ⟨hcz46_0, hcz46_1, hcz46_2, hfz46_0, hfz46_1, hfz46_2⟩ := Short.c3 BK229.out) | (go_at_call 68; (with_reducible refine (bV.calls a0_0 a0_1 a0_2 t232 _ A34.out).mono ?_); rintro e w47 ⟨rfl, hb⟩; have n0_ := mk_ (bB_ BK229 hb); have n1_ := mk_ (aG (Short.hB HB) hb); clear BK229 HB; revert n0_ n1_; intro BK229 HB; (try clear hb); (try clear hb2); (try clear hk); (try clear hi)))
  go_ret
  exact ⟨q0, Short.hB HB⟩
 rw [if_pos c35] at H
 have c35b0 : (t232 == 0) = true := beq_iff_eq.mpr c35
 have c35b1 : (t232 != 0) = false := bne_eq_false_iff_eq.mpr c35
 clear c35
 by_cases c36 : a0_0 = a1
 rotate_left
 ·
  rw [if_neg c36] at H
  have c36b0 : (a0_0 == a1) = false := beq_eq_false_iff_ne.mpr c36
  have c36b1 : (a0_0 != a1) = true := bne_iff_ne.mpr c36
  obtain rfl := Option.some.inj H
  go_enter Try.func69, Try.ntmps69
  go_wp2_with (first | ((with_reducible refine bI (N := 2) rfl ?_); refine bJ ?hg (N := 2) ?hd (cs := #[.int .i64 a0_0, .int .i64 a0_1, .string a0_2]) (t := 29) ?hr ?_; (case hd => rfl); (case hg => rfl); (case hr => first | (go_simp; done) | (go_simp; rfl)); intro gb229 hg w41 hbox hb; have n0_ := mk_ (aG (Short.hB HB) hb); have n1_ := mk_ (hbox); have n2_ := mk_ ((by rw [hg]; exact (aK (Short.hB HB)) : w.heap.size ≤ gb229)); have n3_ := mk_ ((by rw [hg]; exact (aK (Short.hB HB)) : w.heap.size ≤ gb229)); clear HB; revert n0_ n1_ n2_ n3_; intro HB BK229 GW229 GE229; clear hb hbox hg; obtain ⟨hcz42_0, hcz42_1, hcz42_2, hfz42_0, hfz42_1, hfz42_2⟩ := Short.c3 BK229.out) | (go_at_call 68; (with_reducible refine (bV.calls a0_0 a0_1 a0_2 t232 _ A34.out).mono ?_); rintro e w43 ⟨rfl, hb⟩; have n0_ := mk_ (bB_ BK229 hb); have n1_ := mk_ (aG (Short.hB HB) hb); clear BK229 HB; revert n0_ n1_; intro BK229 HB; (try clear hb); (try clear hb2); (try clear hk); (try clear hi); obtain ⟨hcz44_0, hcz44_1, hcz44_2, hfz44_0, hfz44_1, hfz44_2⟩ := Short.c3 BK229.out))
  go_ret
  exact ⟨q0, Short.hB HB⟩
 rw [if_pos c36] at H
 have c36b0 : (a0_0 == a1) = true := beq_iff_eq.mpr c36
 have c36b1 : (a0_0 != a1) = false := bne_eq_false_iff_eq.mpr c36
 clear c36
 obtain rfl := Option.some.inj H
 go_enter Try.func69, Try.ntmps69
 go_wp2_with (first | ((with_reducible refine bI (N := 2) rfl ?_); refine bJ ?hg (N := 2) ?hd (cs := #[.int .i64 a0_0, .int .i64 a0_1, .string a0_2]) (t := 29) ?hr ?_; (case hd => rfl); (case hg => rfl); (case hr => first | (go_simp; done) | (go_simp; rfl)); intro gb229 hg w37 hbox hb; have n0_ := mk_ (aG (Short.hB HB) hb); have n1_ := mk_ (hbox); have n2_ := mk_ ((by rw [hg]; exact (aK (Short.hB HB)) : w.heap.size ≤ gb229)); have n3_ := mk_ ((by rw [hg]; exact (aK (Short.hB HB)) : w.heap.size ≤ gb229)); clear HB; revert n0_ n1_ n2_ n3_; intro HB BK229 GW229 GE229; clear hb hbox hg; obtain ⟨hcz38_0, hcz38_1, hcz38_2, hfz38_0, hfz38_1, hfz38_2⟩ := Short.c3 BK229.out) | (go_at_call 68; (with_reducible refine (bV.calls a0_0 a0_1 a0_2 t232 _ A34.out).mono ?_); rintro e w39 ⟨rfl, hb⟩; have n0_ := mk_ (bB_ BK229 hb); have n1_ := mk_ (aG (Short.hB HB) hb); clear BK229 HB; revert n0_ n1_; intro BK229 HB; (try clear hb); (try clear hb2); (try clear hk); (try clear hi); obtain ⟨hcz40_0, hcz40_1, hcz40_2, hfz40_0, hfz40_1, hfz40_2⟩ := Short.c3 BK229.out))
 go_ret
 exact ⟨q0, Short.hB HB⟩
end Go.Proofs.Ytimbbaoodjhdoaa.PAll
end
