-- Put together by a program of this session (wip/slice2.py) out of the seat's texts.
import Derived.Test.YtjnjfogfpmeacaaZOKp1

set_option maxHeartbeats 8000000
set_option maxRecDepth 100000
open Go.Proofs.YtjnjfogfpmeacaaW Go.Proofs.Ytjnjfogfpmeacaa
section
namespace Go.Proofs.Ytjnjfogfpmeacaa.PAll
open Go.RowKit PrintWords PrintLast PrintMore ZipT PrintWords.Kd PrintMore.Kd
attribute [local go_sem] max2_int min2_int max_two min_two max_three min_three max_four min_four   -- for this text's walks alone
set_option linter.unusedVariables false
set_option linter.unusedSimpArgs false
def value_Fits.f (a0_0 : Int) (a0_1 : Int) (a0_2 : ByteArray) (a1 : Int) : Option (Bool) := if a1 = 2 then ((value_Check.f a0_0 a0_1 a0_2).bind fun t287 => (if t287 = 0 then (if a0_0 = a1 then (some true) else (some (a0_0 == 1))) else (some false))) else (if a1 = 3 then ((value_Check.f a0_0 a0_1 a0_2).bind fun t288 => (if t288 = 0 then (if a0_0 = a1 then (some true) else (some (a0_0 == 1))) else (some false))) else (if a1 = 4 then ((value_Check.f a0_0 a0_1 a0_2).bind fun t289 => (if t289 = 0 then (if a0_0 = a1 then (some true) else (some (a0_0 == 1))) else (some false))) else (some false)))
theorem value_Fits.calls (a0_0 : Int) (a0_1 : Int) (a0_2 : ByteArray) (a1 : Int) (r : Bool) (w : World) (h : value_Fits.f a0_0 a0_1 a0_2 a1 = some r) :
  Calls Try.prog 116 #[.agg #[.int .i64 a0_0, .int .i64 a0_1, .string a0_2], .int .i64 a1] w fun e w' => e = .returned (.bool r) ∧ Below w.heap.size w w' := by
 have hu84 := Try.underlying84
 have HB := mk_ (Below.refl w.heap.size w)
 have H : (if a1 = 2 then ((value_Check.f a0_0 a0_1 a0_2).bind fun t287 => (if t287 = 0 then (if a0_0 = a1 then (some true) else (some (a0_0 == 1))) else (some false))) else (if a1 = 3 then ((value_Check.f a0_0 a0_1 a0_2).bind fun t288 => (if t288 = 0 then (if a0_0 = a1 then (some true) else (some (a0_0 == 1))) else (some false))) else (if a1 = 4 then ((value_Check.f a0_0 a0_1 a0_2).bind fun t289 => (if t289 = 0 then (if a0_0 = a1 then (some true) else (some (a0_0 == 1))) else (some false))) else (some false)))) = some r := h
 clear h
 by_cases c3 : a1 = 2
 ·
  rw [if_pos c3] at H
  have c3b0 : (a1 == 2) = true := beq_iff_eq.mpr c3
  have c3b1 : (a1 != 2) = false := bne_eq_false_iff_eq.mpr c3
  clear c3
  obtain ⟨t287, A4, H⟩ := Option.bind_eq_some_iff.mp H
  replace A4 := mk_ A4
  by_cases c5 : t287 = 0
  rotate_left
  ·
   rw [if_neg c5] at H
   have c5b0 : (t287 == 0) = false := beq_eq_false_iff_ne.mpr c5
   have c5b1 : (t287 != 0) = true := bne_iff_ne.mpr c5
   obtain rfl := Option.some.inj H
   go_enter Try.func116, Try.ntmps116
   go_wp2_with (first | ((with_reducible refine gate_dst (N := 2) rfl ?_); refine box_event ?hg (N := 2) ?hd (cs := #[.int .i64 a0_0, .int .i64 a0_1, .string a0_2]) (t := 84) ?hr ?_; (case hd => rfl); (case hg => rfl); (case hr => first | (go_simp; done) | (go_simp; rfl)); intro gb286 hg w15 hbox hb; have n0_ := mk_ (below_step (Short.hB HB) hb); have n1_ := mk_ (hbox); have n2_ := mk_ ((by rw [hg]; exact (below_size (Short.hB HB)) : w.heap.size ≤ gb286)); have n3_ := mk_ ((by rw [hg]; exact (below_size (Short.hB HB)) : w.heap.size ≤ gb286)); clear HB; revert n0_ n1_ n2_ n3_; intro HB BK286 GW286 GE286; clear hb hbox hg; obtain ⟨hcz_0, hcz_1, hcz_2, hfz_0, hfz_1, hfz_2⟩ := Short.c3 BK286.out) | (go_at_call 87; (with_reducible refine (value_Check.calls a0_0 a0_1 a0_2 t287 _ A4.out).mono ?_); rintro e w17 ⟨rfl, hb⟩; have n0_ := mk_ (bB_ BK286 hb); have n1_ := mk_ (below_step (Short.hB HB) hb); clear BK286 HB; revert n0_ n1_; intro BK286 HB; (try clear hb); (try clear hb2); (try clear hk); (try clear hi)))
   go_ret
   exact ⟨q0, Short.hB HB⟩
  rw [if_pos c5] at H
  have c5b0 : (t287 == 0) = true := beq_iff_eq.mpr c5
  have c5b1 : (t287 != 0) = false := bne_eq_false_iff_eq.mpr c5
  clear c5
  by_cases c6 : a0_0 = a1
  rotate_left
  ·
   rw [if_neg c6] at H
   have c6b0 : (a0_0 == a1) = false := beq_eq_false_iff_ne.mpr c6
   have c6b1 : (a0_0 != a1) = true := bne_iff_ne.mpr c6
   obtain rfl := Option.some.inj H
   go_enter Try.func116, Try.ntmps116
   go_wp2_with (first | ((with_reducible refine gate_dst (N := 2) rfl ?_); refine box_event ?hg (N := 2) ?hd (cs := #[.int .i64 a0_0, .int .i64 a0_1, .string a0_2]) (t := 84) ?hr ?_; (case hd => rfl); (case hg => rfl); (case hr => first | (go_simp; done) | (go_simp; rfl)); intro gb286 hg w11 hbox hb; have n0_ := mk_ (below_step (Short.hB HB) hb); have n1_ := mk_ (hbox); have n2_ := mk_ ((by rw [hg]; exact (below_size (Short.hB HB)) : w.heap.size ≤ gb286)); have n3_ := mk_ ((by rw [hg]; exact (below_size (Short.hB HB)) : w.heap.size ≤ gb286)); clear HB; revert n0_ n1_ n2_ n3_; intro HB BK286 GW286 GE286; clear hb hbox hg; obtain ⟨hcz_0, hcz_1, hcz_2, hfz_0, hfz_1, hfz_2⟩ := Short.c3 BK286.out) | (go_at_call 87; (with_reducible refine (value_Check.calls a0_0 a0_1 a0_2 t287 _ A4.out).mono ?_); rintro e w13 ⟨rfl, hb⟩; have n0_ := mk_ (bB_ BK286 hb); have n1_ := mk_ (below_step (Short.hB HB) hb); clear BK286 HB; revert n0_ n1_; intro BK286 HB; (try clear hb); (try clear hb2); (try clear hk); (try clear hi); obtain ⟨hcz_0, hcz_1, hcz_2, hfz_0, hfz_1, hfz_2⟩ := Short.c3 BK286.out))
   go_ret
   exact ⟨q0, Short.hB HB⟩
  rw [if_pos c6] at H
  have c6b0 : (a0_0 == a1) = true := beq_iff_eq.mpr c6
  have c6b1 : (a0_0 != a1) = false := bne_eq_false_iff_eq.mpr c6
  clear c6
  obtain rfl := Option.some.inj H
  go_enter Try.func116, Try.ntmps116
  go_wp2_with (first | ((with_reducible refine gate_dst (N := 2) rfl ?_); refine box_event ?hg (N := 2) ?hd (cs := #[.int .i64 a0_0, .int .i64 a0_1, .string a0_2]) (t := 84) ?hr ?_; (case hd => rfl); (case hg => rfl); (case hr => first | (go_simp; done) | (go_simp; rfl)); intro gb286 hg w7 hbox hb; have n0_ := mk_ (below_step (Short.hB HB) hb); have n1_ := mk_ (hbox); have n2_ := mk_ ((by rw [hg]; exact (below_size (Short.hB HB)) : w.heap.size ≤ gb286)); have n3_ := mk_ ((by rw [hg]; exact (below_size (Short.hB HB)) : w.heap.size ≤ gb286)); clear HB; revert n0_ n1_ n2_ n3_; intro HB BK286 GW286 GE286; clear hb hbox hg; obtain ⟨hcz_0, hcz_1, hcz_2, hfz_0, hfz_1, hfz_2⟩ := Short.c3 BK286.out) | (go_at_call 87; (with_reducible refine (value_Check.calls a0_0 a0_1 a0_2 t287 _ A4.out).mono ?_); rintro e w9 ⟨rfl, hb⟩; have n0_ := mk_ (bB_ BK286 hb); have n1_ := mk_ (below_step (Short.hB HB) hb); clear BK286 HB; revert n0_ n1_; intro BK286 HB; (try clear hb); (try clear hb2); (try clear hk); (try clear hi); obtain ⟨hcz_0, hcz_1, hcz_2, hfz_0, hfz_1, hfz_2⟩ := Short.c3 BK286.out))
  go_ret
  exact ⟨q0, Short.hB HB⟩
 rw [if_neg c3] at H
 have c3b0 : (a1 == 2) = false := beq_eq_false_iff_ne.mpr c3
 have c3b1 : (a1 != 2) = true := bne_iff_ne.mpr c3
 by_cases c18 : a1 = 3
 ·
  rw [if_pos c18] at H
  have c18b0 : (a1 == 3) = true := beq_iff_eq.mpr c18
  have c18b1 : (a1 != 3) = false := bne_eq_false_iff_eq.mpr c18
  clear c18
  obtain ⟨t288, A19, H⟩ := Option.bind_eq_some_iff.mp H
  replace A19 := mk_ A19
  by_cases c20 : t288 = 0
  rotate_left
  ·
   rw [if_neg c20] at H
   have c20b0 : (t288 == 0) = false := beq_eq_false_iff_ne.mpr c20
   have c20b1 : (t288 != 0) = true := bne_iff_ne.mpr c20
   obtain rfl := Option.some.inj H
   go_enter Try.func116, Try.ntmps116
   go_wp2_with (first | ((with_reducible refine gate_dst (N := 2) rfl ?_); refine box_event ?hg (N := 2) ?hd (cs := #[.int .i64 a0_0, .int .i64 a0_1, .string a0_2]) (t := 84) ?hr ?_; (case hd => rfl); (case hg => rfl); (case hr => first | (go_simp; done) | (go_simp; rfl)); intro gb286 hg w30 hbox hb; have n0_ := mk_ (below_step (Short.hB HB) hb); have n1_ := mk_ (hbox); have n2_ := mk_ ((by rw [hg]; exact (below_size (Short.hB HB)) : w.heap.size ≤ gb286)); have n3_ := mk_ ((by rw [hg]; exact (below_size (Short.hB HB)) : w.heap.size ≤ gb286)); clear HB; revert n0_ n1_ n2_ n3_; intro HB BK286 GW286 GE286; clear hb hbox hg; obtain ⟨hcz_0, hcz_1, hcz_2, hfz_0, hfz_1, hfz_2⟩ := Short.c3 BK286.out) | (go_at_call 87; (with_reducible refine (value_Check.calls a0_0 a0_1 a0_2 t288 _ A19.out).mono ?_); rintro e w32 ⟨rfl, hb⟩; have n0_ := mk_ (bB_ BK286 hb); have n1_ := mk_ (below_step (Short.hB HB) hb); clear BK286 HB; revert n0_ n1_; intro BK286 HB; (try clear hb); (try clear hb2); (try clear hk); (try clear hi)))
   go_ret
   exact ⟨q0, Short.hB HB⟩
  rw [if_pos c20] at H
  have c20b0 : (t288 == 0) = true := beq_iff_eq.mpr c20
  have c20b1 : (t288 != 0) = false := bne_eq_false_iff_eq.mpr c20
  clear c20
  by_cases c21 : a0_0 = a1
  rotate_left
  ·
   rw [if_neg c21] at H
   have c21b0 : (a0_0 == a1) = false := beq_eq_false_iff_ne.mpr c21
   have c21b1 : (a0_0 != a1) = true := bne_iff_ne.mpr c21
   obtain rfl := Option.some.inj H
   go_enter Try.func116, Try.ntmps116
   go_wp2_with (first | ((with_reducible refine gate_dst (N := 2) rfl ?_); refine box_event ?hg (N := 2) ?hd (cs := #[.int .i64 a0_0, .int .i64 a0_1, .string a0_2]) (t := 84) ?hr ?_; (case hd => rfl); (case hg => rfl); (case hr => first | (go_simp; done) | (go_simp; rfl)); intro gb286 hg w26 hbox hb; have n0_ := mk_ (below_step (Short.hB HB) hb); have n1_ := mk_ (hbox); have n2_ := mk_ ((by rw [hg]; exact (below_size (Short.hB HB)) : w.heap.size ≤ gb286)); have n3_ := mk_ ((by rw [hg]; exact (below_size (Short.hB HB)) : w.heap.size ≤ gb286)); clear HB; revert n0_ n1_ n2_ n3_; intro HB BK286 GW286 GE286; clear hb hbox hg; obtain ⟨hcz_0, hcz_1, hcz_2, hfz_0, hfz_1, hfz_2⟩ := Short.c3 BK286.out) | (go_at_call 87; (with_reducible refine (value_Check.calls a0_0 a0_1 a0_2 t288 _ A19.out).mono ?_); rintro e w28 ⟨rfl, hb⟩; have n0_ := mk_ (bB_ BK286 hb); have n1_ := mk_ (below_step (Short.hB HB) hb); clear BK286 HB; revert n0_ n1_; intro BK286 HB; (try clear hb); (try clear hb2); (try clear hk); (try clear hi); obtain ⟨hcz_0, hcz_1, hcz_2, hfz_0, hfz_1, hfz_2⟩ := Short.c3 BK286.out))
   go_ret
   exact ⟨q0, Short.hB HB⟩
  rw [if_pos c21] at H
  have c21b0 : (a0_0 == a1) = true := beq_iff_eq.mpr c21
  have c21b1 : (a0_0 != a1) = false := bne_eq_false_iff_eq.mpr c21
  clear c21
  obtain rfl := Option.some.inj H
  go_enter Try.func116, Try.ntmps116
  go_wp2_with (first | ((with_reducible refine gate_dst (N := 2) rfl ?_); refine box_event ?hg (N := 2) ?hd (cs := #[.int .i64 a0_0, .int .i64 a0_1, .string a0_2]) (t := 84) ?hr ?_; (case hd => rfl); (case hg => rfl); (case hr => first | (go_simp; done) | (go_simp; rfl)); intro gb286 hg w22 hbox hb; have n0_ := mk_ (below_step (Short.hB HB) hb); have n1_ := mk_ (hbox); have n2_ := mk_ ((by rw [hg]; exact (below_size (Short.hB HB)) : w.heap.size ≤ gb286)); have n3_ := mk_ ((by rw [hg]; exact (below_size (Short.hB HB)) : w.heap.size ≤ gb286)); clear HB; revert n0_ n1_ n2_ n3_; intro HB BK286 GW286 GE286; clear hb hbox hg; obtain ⟨hcz_0, hcz_1, hcz_2, hfz_0, hfz_1, hfz_2⟩ := Short.c3 BK286.out) | (go_at_call 87; (with_reducible refine (value_Check.calls a0_0 a0_1 a0_2 t288 _ A19.out).mono ?_); rintro e w24 ⟨rfl, hb⟩; have n0_ := mk_ (bB_ BK286 hb); have n1_ := mk_ (below_step (Short.hB HB) hb); clear BK286 HB; revert n0_ n1_; intro BK286 HB; (try clear hb); (try clear hb2); (try clear hk); (try clear hi); obtain ⟨hcz_0, hcz_1, hcz_2, hfz_0, hfz_1, hfz_2⟩ := Short.c3 BK286.out))
  go_ret
  exact ⟨q0, Short.hB HB⟩
 rw [if_neg c18] at H
 have c18b0 : (a1 == 3) = false := beq_eq_false_iff_ne.mpr c18
 have c18b1 : (a1 != 3) = true := bne_iff_ne.mpr c18
 by_cases c33 : a1 = 4
 rotate_left
 ·
  rw [if_neg c33] at H
  have c33b0 : (a1 == 4) = false := beq_eq_false_iff_ne.mpr c33
  have c33b1 : (a1 != 4) = true := bne_iff_ne.mpr c33
  obtain rfl := Option.some.inj H
  go_enter Try.func116, Try.ntmps116
  go_wp2_with (first | ((with_reducible refine gate_dst (N := 2) rfl ?_); refine box_event ?hg (N := 2) ?hd (cs := #[.int .i64 a0_0, .int .i64 a0_1, .string a0_2]) (t := 84) ?hr ?_; (case hd => rfl); (case hg => rfl); (case hr => first | (go_simp; done) | (go_simp; rfl)); intro gb286 hg w48 hbox hb; have n0_ := mk_ (below_step (Short.hB HB) hb); have n1_ := mk_ (hbox); have n2_ := mk_ ((by rw [hg]; exact (below_size (Short.hB HB)) : w.heap.size ≤ gb286)); have n3_ := mk_ ((by rw [hg]; exact (below_size (Short.hB HB)) : w.heap.size ≤ gb286)); clear HB; revert n0_ n1_ n2_ n3_; intro HB BK286 GW286 GE286; clear hb hbox hg))
  go_ret
  exact ⟨q0, Short.hB HB⟩
 rw [if_pos c33] at H
 have c33b0 : (a1 == 4) = true := beq_iff_eq.mpr c33
 have c33b1 : (a1 != 4) = false := bne_eq_false_iff_eq.mpr c33
 clear c33
 obtain ⟨t289, A34, H⟩ := Option.bind_eq_some_iff.mp H
 replace A34 := mk_ A34
 by_cases c35 : t289 = 0
 rotate_left
 ·
  rw [if_neg c35] at H
  have c35b0 : (t289 == 0) = false := beq_eq_false_iff_ne.mpr c35
  have c35b1 : (t289 != 0) = true := bne_iff_ne.mpr c35
  obtain rfl := Option.some.inj H
  go_enter Try.func116, Try.ntmps116
  go_wp2_with (first | ((with_reducible refine gate_dst (N := 2) rfl ?_); refine box_event ?hg (N := 2) ?hd (cs := #[.int .i64 a0_0, .int .i64 a0_1, .string a0_2]) (t := 84) ?hr ?_; (case hd => rfl); (case hg => rfl); (case hr => first | (go_simp; done) | (go_simp; rfl)); intro gb286 hg w45 hbox hb; have n0_ := mk_ (below_step (Short.hB HB) hb); have n1_ := mk_ (hbox); have n2_ := mk_ ((by rw [hg]; exact (below_size (Short.hB HB)) : w.heap.size ≤ gb286)); have n3_ := mk_ ((by rw [hg]; exact (below_size (Short.hB HB)) : w.heap.size ≤ gb286)); clear HB; revert n0_ n1_ n2_ n3_; intro HB BK286 GW286 GE286; clear hb hbox hg; obtain ⟨hcz_0, hcz_1, hcz_2, hfz_0, hfz_1, hfz_2⟩ := Short.c3 BK286.out) | (go_at_call 87; (with_reducible refine (value_Check.calls a0_0 a0_1 a0_2 t289 _ A34.out).mono ?_); rintro e w47 ⟨rfl, hb⟩; have n0_ := mk_ (bB_ BK286 hb); have n1_ := mk_ (below_step (Short.hB HB) hb); clear BK286 HB; revert n0_ n1_; intro BK286 HB; (try clear hb); (try clear hb2); (try clear hk); (try clear hi)))
  go_ret
  exact ⟨q0, Short.hB HB⟩
 rw [if_pos c35] at H
 have c35b0 : (t289 == 0) = true := beq_iff_eq.mpr c35
 have c35b1 : (t289 != 0) = false := bne_eq_false_iff_eq.mpr c35
 clear c35
 by_cases c36 : a0_0 = a1
 rotate_left
 ·
  rw [if_neg c36] at H
  have c36b0 : (a0_0 == a1) = false := beq_eq_false_iff_ne.mpr c36
  have c36b1 : (a0_0 != a1) = true := bne_iff_ne.mpr c36
  obtain rfl := Option.some.inj H
  go_enter Try.func116, Try.ntmps116
  go_wp2_with (first | ((with_reducible refine gate_dst (N := 2) rfl ?_); refine box_event ?hg (N := 2) ?hd (cs := #[.int .i64 a0_0, .int .i64 a0_1, .string a0_2]) (t := 84) ?hr ?_; (case hd => rfl); (case hg => rfl); (case hr => first | (go_simp; done) | (go_simp; rfl)); intro gb286 hg w41 hbox hb; have n0_ := mk_ (below_step (Short.hB HB) hb); have n1_ := mk_ (hbox); have n2_ := mk_ ((by rw [hg]; exact (below_size (Short.hB HB)) : w.heap.size ≤ gb286)); have n3_ := mk_ ((by rw [hg]; exact (below_size (Short.hB HB)) : w.heap.size ≤ gb286)); clear HB; revert n0_ n1_ n2_ n3_; intro HB BK286 GW286 GE286; clear hb hbox hg; obtain ⟨hcz_0, hcz_1, hcz_2, hfz_0, hfz_1, hfz_2⟩ := Short.c3 BK286.out) | (go_at_call 87; (with_reducible refine (value_Check.calls a0_0 a0_1 a0_2 t289 _ A34.out).mono ?_); rintro e w43 ⟨rfl, hb⟩; have n0_ := mk_ (bB_ BK286 hb); have n1_ := mk_ (below_step (Short.hB HB) hb); clear BK286 HB; revert n0_ n1_; intro BK286 HB; (try clear hb); (try clear hb2); (try clear hk); (try clear hi); obtain ⟨hcz_0, hcz_1, hcz_2, hfz_0, hfz_1, hfz_2⟩ := Short.c3 BK286.out))
  go_ret
  exact ⟨q0, Short.hB HB⟩
 rw [if_pos c36] at H
 have c36b0 : (a0_0 == a1) = true := beq_iff_eq.mpr c36
 have c36b1 : (a0_0 != a1) = false := bne_eq_false_iff_eq.mpr c36
 clear c36
 obtain rfl := Option.some.inj H
 go_enter Try.func116, Try.ntmps116
 go_wp2_with (first | ((with_reducible refine gate_dst (N := 2) rfl ?_); refine box_event ?hg (N := 2) ?hd (cs := #[.int .i64 a0_0, .int .i64 a0_1, .string a0_2]) (t := 84) ?hr ?_; (case hd => rfl); (case hg => rfl); (case hr => first | (go_simp; done) | (go_simp; rfl)); intro gb286 hg w37 hbox hb; have n0_ := mk_ (below_step (Short.hB HB) hb); have n1_ := mk_ (hbox); have n2_ := mk_ ((by rw [hg]; exact (below_size (Short.hB HB)) : w.heap.size ≤ gb286)); have n3_ := mk_ ((by rw [hg]; exact (below_size (Short.hB HB)) : w.heap.size ≤ gb286)); clear HB; revert n0_ n1_ n2_ n3_; intro HB BK286 GW286 GE286; clear hb hbox hg; obtain ⟨hcz_0, hcz_1, hcz_2, hfz_0, hfz_1, hfz_2⟩ := Short.c3 BK286.out) | (go_at_call 87; (with_reducible refine (value_Check.calls a0_0 a0_1 a0_2 t289 _ A34.out).mono ?_); rintro e w39 ⟨rfl, hb⟩; have n0_ := mk_ (bB_ BK286 hb); have n1_ := mk_ (below_step (Short.hB HB) hb); clear BK286 HB; revert n0_ n1_; intro BK286 HB; (try clear hb); (try clear hb2); (try clear hk); (try clear hi); obtain ⟨hcz_0, hcz_1, hcz_2, hfz_0, hfz_1, hfz_2⟩ := Short.c3 BK286.out))
 go_ret
 exact ⟨q0, Short.hB HB⟩
def slices_EqualFunc_at_value_Fits.l0 : Nat → List Int → List (S84) → Int → Int → Option (Bool)
 | 0, _, _, _, _ => none
 | k + 1, x1, x15, x16, x17 => if x17 < x16 then (if 0 ≤ x17 then (if x17 < (x15.length : Int) then (if x17 < (x1.length : Int) then ((value_Fits.f ((rd_T84 x15 x17).f0) ((rd_T84 x15 x17).f1) ((rd_T84 x15 x17).f2) (rd x1 x17)).bind fun t293 => (if t293 = true then (slices_EqualFunc_at_value_Fits.l0 k x1 x15 x16 (wrap64 (x17 + 1))) else (some false))) else (none)) else (none)) else (none)) else (some true)
def slices_EqualFunc_at_value_Fits.f (k : Nat) (l0 : List (S84)) (l1 : List Int) (a2 : Unit) : Option (Bool) := if (l0.length : Int) = (l1.length : Int) then (slices_EqualFunc_at_value_Fits.l0 k l1 l0 (l0.length : Int) 0) else (some false)
theorem slices_EqualFunc_at_value_Fits.calls (k : Nat) (A0 : Option Addr) (c0 : Nat) (l0 : List (S84)) (A1 : Option Addr) (c1 : Nat) (l1 : List Int) (a2 : Unit) (r : Bool) (w : World) (hr0 : Kd.C k84 w A0 l0.length l0) (hc0 : l0.length ≤ c0) (hr1 : Kd.C (Kd.int .i64) w A1 l1.length l1) (hc1 : l1.length ≤ c1) (h : slices_EqualFunc_at_value_Fits.f k l0 l1 a2 = some r) :
  Calls Try.prog 115 #[.slice A0 l0.length c0, .slice A1 l1.length c1, .func (.func 116) #[] #[]] w fun e w' => e = .returned (.bool r) ∧ Below w.heap.size w w' := by
 have hu84 := Try.underlying84
 have HR0 := mk_ hr0
 have HC0 := mk_ hc0
 clear hr0 hc0
 have HR1 := mk_ hr1
 have HC1 := mk_ hc1
 clear hr1 hc1
 have HB := mk_ (Below.refl w.heap.size w)
 have H : (if (l0.length : Int) = (l1.length : Int) then (slices_EqualFunc_at_value_Fits.l0 k l1 l0 (l0.length : Int) 0) else (some false)) = some r := h
 clear h
 by_cases c4 : (l0.length : Int) = (l1.length : Int)
 rotate_left
 ·
  rw [if_neg c4] at H
  have c4b0 : ((l0.length : Int) == (l1.length : Int)) = false := beq_eq_false_iff_ne.mpr c4
  have c4b1 : ((l0.length : Int) != (l1.length : Int)) = true := bne_iff_ne.mpr c4
  have c4b2 : (l0.length == l1.length) = false := by first | simpa using c4 | (simp at c4 ⊢; omega)
  obtain rfl := Option.some.inj H
  go_enter Try.func115, Try.ntmps115
  go_wp2
  go_ret
  exact ⟨q0, Short.hB HB⟩
 rw [if_pos c4] at H
 have c4b0 : ((l0.length : Int) == (l1.length : Int)) = true := beq_iff_eq.mpr c4
 have c4b1 : ((l0.length : Int) != (l1.length : Int)) = false := bne_eq_false_iff_eq.mpr c4
 have c4b2 : (l0.length == l1.length) = true := by first | simpa using c4 | (simp at c4 ⊢; omega)
 clear c4
 have H' := mk_ H
 clear H
 go_enter Try.func115, Try.ntmps115
 go_wp2
 go_loopg [17] k (fun kq v17 w' => ∃ (x17_1 : Int), v17 = .int .i64 x17_1 ∧ Aside0 (slices_EqualFunc_at_value_Fits.l0 kq l1 l0 (l0.length : Int) x17_1 = some r) ∧ Aside0 (kq ≤ k) ∧ Aside0 (Below w.heap.size w w'))
 case atStart => exact ⟨(0), z4_, H', ⟨Nat.le_refl _⟩, ⟨Short.hB HB⟩⟩
 case round =>
  clear H'
  try clear c1
  try clear p2
  try clear c4
  try clear c4b0
  try clear c4b1
  try clear c4b2
  obtain ⟨x17_1, rfl, HA, HK1, HB⟩ := hrel
  cases gk with
  | zero => exact absurd HA.out (by simp [slices_EqualFunc_at_value_Fits.l0])
  | succ k1 =>
   have H := HA.out
   clear HA
   simp only [slices_EqualFunc_at_value_Fits.l0] at H
   by_cases c5 : x17_1 < (l0.length : Int)
   rotate_left
   ·
    rw [if_neg c5] at H
    have c5b0 : decide (x17_1 < (l0.length : Int)) = false := decide_eq_false c5
    clear c5
    obtain rfl := Option.some.inj H
    go_wp2
    go_ret
    exact ⟨q0, Short.hB HB⟩
   rw [if_pos c5] at H
   have c5b0 : decide (x17_1 < (l0.length : Int)) = true := decide_eq_true c5
   clear c5
   by_cases c6 : 0 ≤ x17_1
   rotate_left
   ·
    rw [if_neg c6] at H
    exact absurd H (by simp)
   rw [if_pos c6] at H
   have c6b0 : decide (0 ≤ x17_1) = true := decide_eq_true c6
   clear c6
   by_cases c7 : x17_1 < (l0.length : Int)
   rotate_left
   ·
    rw [if_neg c7] at H
    exact absurd H (by simp)
   rw [if_pos c7] at H
   have c7b0 : decide (x17_1 < (l0.length : Int)) = true := decide_eq_true c7
   clear c7
   by_cases c8 : x17_1 < (l1.length : Int)
   rotate_left
   ·
    rw [if_neg c8] at H
    exact absurd H (by simp)
   rw [if_pos c8] at H
   have c8b0 : decide (x17_1 < (l1.length : Int)) = true := decide_eq_true c8
   clear c8
   obtain ⟨t293, A9, H⟩ := Option.bind_eq_some_iff.mp H
   replace A9 := mk_ A9
   by_cases c10 : t293 = true
   rotate_left
   ·
    replace c10 := Bool.eq_false_iff.mpr c10
    subst c10
    rw [if_neg (show ¬ (false = true) by decide)] at H
    obtain rfl := Option.some.inj H
    have p290 : 0 ≤ (x17_1 : Int) := of_decide_eq_true z1_
    have q290 : x17_1 < (l0.length : Int) := of_decide_eq_true z1_
    obtain ⟨ad290, e290, hx290_0, hx290_1, hx290_2⟩ := at_T84 HR0.out x17_1 p290 q290
    cases e290
    replace hx290_0 := up_ HB hx290_0
    replace hx290_1 := up_ HB hx290_1
    replace hx290_2 := up_ HB hx290_2
    replace p290 := eq_true p290
    replace q290 := eq_true q290
    go_wp2_with (first | ((with_reducible refine gate_dst (N := 8) rfl ?_); refine box_event ?hg (N := 8) ?hd (cs := #[.int .i64 0, .int .i64 0, .string (⟨#[]⟩ : ByteArray)]) (t := 84) ?hr ?_; (case hd => rfl); (case hg => rfl); (case hr => first | (go_simp; done) | (go_simp; rfl)); intro gb291 hg w14 hbox hb; have n0_ := mk_ (below_step (Short.hB HB) hb); have n1_ := mk_ (hbox); have n2_ := mk_ ((by rw [hg]; exact (below_size (Short.hB HB)) : w.heap.size ≤ gb291)); have n3_ := mk_ ((by rw [hg]; exact (below_size (Short.hB HB)) : w.heap.size ≤ gb291)); clear HB; revert n0_ n1_ n2_ n3_; intro HB BK291 GW291 GE291; clear hb hbox hg; obtain ⟨hcz_0, hcz_1, hcz_2, hfz_0, hfz_1, hfz_2⟩ := Short.c3 BK291.out; have p292 : 0 ≤ (x17_1 : Int) := of_decide_eq_true z1_; have q292 : x17_1 < (l1.length : Int) := of_decide_eq_true z1_; obtain ⟨ad292, e292, hx292_0⟩ := Kd.at_int HR1.out x17_1 p292 q292; cases e292; have hn292_0 : ad292.block ≠ gb291 := Nat.ne_of_lt (Nat.lt_of_lt_of_le (by have := World.block_lt_of_cell? _ _ hx292_0; first | rwa [add_block] at this | exact this) GW291.out); have hn292_1 : ad292.block ≠ gb291 := Nat.ne_of_lt (Nat.lt_of_lt_of_le (by have := World.block_lt_of_cell? _ _ hx292_0; first | rwa [add_block] at this | exact this) GW291.out); have hn292_2 : ad292.block ≠ gb291 := Nat.ne_of_lt (Nat.lt_of_lt_of_le (by have := World.block_lt_of_cell? _ _ hx292_0; first | rwa [add_block] at this | exact this) GW291.out); replace hx292_0 := up_ HB hx292_0; replace hx292_0 := (cell_far (p := ⟨gb291, 0, none⟩) (by first | (rw [add_block]; exact hn292_0) | (show (Addr.add _ _).block ≠ _; rw [add_block]; exact hn292_0) | exact hn292_0) (.int .i64 ((rd_T84 l0 x17_1).f0))).trans hx292_0; replace hx292_0 := (cell_far (p := ⟨gb291, 1, none⟩) (by first | (rw [add_block]; exact hn292_1) | (show (Addr.add _ _).block ≠ _; rw [add_block]; exact hn292_1) | exact hn292_1) (.int .i64 ((rd_T84 l0 x17_1).f1))).trans hx292_0; replace hx292_0 := (cell_far (p := ⟨gb291, 2, none⟩) (by first | (rw [add_block]; exact hn292_2) | (show (Addr.add _ _).block ≠ _; rw [add_block]; exact hn292_2) | exact hn292_2) (.string ((rd_T84 l0 x17_1).f2))).trans hx292_0; clear hn292_0 hn292_1 hn292_2; replace p292 := eq_true p292; replace q292 := eq_true q292) | ((first | ((with_reducible refine gate_callee (f := 116) rfl ?_); refine Short.gL (some 29) Try.func116 #[.agg #[.int .i64 ((rd_T84 l0 x17_1).f0), .int .i64 ((rd_T84 l0 x17_1).f1), .string ((rd_T84 l0 x17_1).f2)], .int .i64 (rd l1 x17_1)] (h := ?_)) | ((with_reducible refine Go.Proofs.Ytjnjfogfpmeacaa.Steps.gate_any rfl ?_); refine Go.Proofs.Ytjnjfogfpmeacaa.Steps.goesV_ (some 29) rfl rfl Try.func116 z0_ rfl #[.agg #[.int .i64 ((rd_T84 l0 x17_1).f0), .int .i64 ((rd_T84 l0 x17_1).f1), .string ((rd_T84 l0 x17_1).f2)], .int .i64 (rd l1 x17_1)] rfl (by first | rfl | go_simp) z2_ ?_)); (with_reducible refine (value_Fits.calls ((rd_T84 l0 x17_1).f0) ((rd_T84 l0 x17_1).f1) ((rd_T84 l0 x17_1).f2) (rd l1 x17_1) false _ A9.out).mono ?_); rintro e w16 ⟨rfl, hb⟩; refine ⟨_, rfl, ?_⟩; have n0_ := mk_ (blk_below (g := gb291) (o := .cells #[.int .i64 ((rd_T84 l0 x17_1).f0), .int .i64 ((rd_T84 l0 x17_1).f1), .string ((rd_T84 l0 x17_1).f2)] 84 (0, 0)) (by (with_reducible repeat (first | refine blk_drewN ?_ _ | refine blk_drew ?_ | refine blk_alloc ?_ _)); refine blk_put (cs := #[.int .i64 ((rd_T84 l0 x17_1).f0), .int .i64 ((rd_T84 l0 x17_1).f1), .string (⟨#[]⟩ : ByteArray)]) ?_ 2 _ rfl; (with_reducible repeat (first | refine blk_drewN ?_ _ | refine blk_drew ?_ | refine blk_alloc ?_ _)); refine blk_put (cs := #[.int .i64 ((rd_T84 l0 x17_1).f0), .int .i64 0, .string (⟨#[]⟩ : ByteArray)]) ?_ 1 _ rfl; (with_reducible repeat (first | refine blk_drewN ?_ _ | refine blk_drew ?_ | refine blk_alloc ?_ _)); refine blk_put (cs := #[.int .i64 0, .int .i64 0, .string (⟨#[]⟩ : ByteArray)]) ?_ 0 _ rfl; (with_reducible repeat (first | refine blk_drewN ?_ _ | refine blk_drew ?_ | refine blk_alloc ?_ _)); exact BK291.out) hb); have n1_ := mk_ (below_step (Short.hB HB) hb); clear BK291 HB; revert n0_ n1_; intro BK291 HB; (try clear hb)))
    go_ret
    exact ⟨q0, Short.hB HB⟩
   subst c10
   rw [if_pos rfl] at H
   have H' := mk_ H
   clear H
   have p290 : 0 ≤ (x17_1 : Int) := of_decide_eq_true z1_
   have q290 : x17_1 < (l0.length : Int) := of_decide_eq_true z1_
   obtain ⟨ad290, e290, hx290_0, hx290_1, hx290_2⟩ := at_T84 HR0.out x17_1 p290 q290
   cases e290
   replace hx290_0 := up_ HB hx290_0
   replace hx290_1 := up_ HB hx290_1
   replace hx290_2 := up_ HB hx290_2
   replace p290 := eq_true p290
   replace q290 := eq_true q290
   go_wp2_with (first | ((with_reducible refine gate_dst (N := 8) rfl ?_); refine box_event ?hg (N := 8) ?hd (cs := #[.int .i64 0, .int .i64 0, .string (⟨#[]⟩ : ByteArray)]) (t := 84) ?hr ?_; (case hd => rfl); (case hg => rfl); (case hr => first | (go_simp; done) | (go_simp; rfl)); intro gb291 hg w11 hbox hb; have n0_ := mk_ (below_step (Short.hB HB) hb); have n1_ := mk_ (hbox); have n2_ := mk_ ((by rw [hg]; exact (below_size (Short.hB HB)) : w.heap.size ≤ gb291)); have n3_ := mk_ ((by rw [hg]; exact (below_size (Short.hB HB)) : w.heap.size ≤ gb291)); clear HB; revert n0_ n1_ n2_ n3_; intro HB BK291 GW291 GE291; clear hb hbox hg; obtain ⟨hcz_0, hcz_1, hcz_2, hfz_0, hfz_1, hfz_2⟩ := Short.c3 BK291.out; have p292 : 0 ≤ (x17_1 : Int) := of_decide_eq_true z1_; have q292 : x17_1 < (l1.length : Int) := of_decide_eq_true z1_; obtain ⟨ad292, e292, hx292_0⟩ := Kd.at_int HR1.out x17_1 p292 q292; cases e292; have hn292_0 : ad292.block ≠ gb291 := Nat.ne_of_lt (Nat.lt_of_lt_of_le (by have := World.block_lt_of_cell? _ _ hx292_0; first | rwa [add_block] at this | exact this) GW291.out); have hn292_1 : ad292.block ≠ gb291 := Nat.ne_of_lt (Nat.lt_of_lt_of_le (by have := World.block_lt_of_cell? _ _ hx292_0; first | rwa [add_block] at this | exact this) GW291.out); have hn292_2 : ad292.block ≠ gb291 := Nat.ne_of_lt (Nat.lt_of_lt_of_le (by have := World.block_lt_of_cell? _ _ hx292_0; first | rwa [add_block] at this | exact this) GW291.out); replace hx292_0 := up_ HB hx292_0; replace hx292_0 := (cell_far (p := ⟨gb291, 0, none⟩) (by first | (rw [add_block]; exact hn292_0) | (show (Addr.add _ _).block ≠ _; rw [add_block]; exact hn292_0) | exact hn292_0) (.int .i64 ((rd_T84 l0 x17_1).f0))).trans hx292_0; replace hx292_0 := (cell_far (p := ⟨gb291, 1, none⟩) (by first | (rw [add_block]; exact hn292_1) | (show (Addr.add _ _).block ≠ _; rw [add_block]; exact hn292_1) | exact hn292_1) (.int .i64 ((rd_T84 l0 x17_1).f1))).trans hx292_0; replace hx292_0 := (cell_far (p := ⟨gb291, 2, none⟩) (by first | (rw [add_block]; exact hn292_2) | (show (Addr.add _ _).block ≠ _; rw [add_block]; exact hn292_2) | exact hn292_2) (.string ((rd_T84 l0 x17_1).f2))).trans hx292_0; clear hn292_0 hn292_1 hn292_2; replace p292 := eq_true p292; replace q292 := eq_true q292) | ((first | ((with_reducible refine gate_callee (f := 116) rfl ?_); refine Short.gL (some 29) Try.func116 #[.agg #[.int .i64 ((rd_T84 l0 x17_1).f0), .int .i64 ((rd_T84 l0 x17_1).f1), .string ((rd_T84 l0 x17_1).f2)], .int .i64 (rd l1 x17_1)] (h := ?_)) | ((with_reducible refine Go.Proofs.Ytjnjfogfpmeacaa.Steps.gate_any rfl ?_); refine Go.Proofs.Ytjnjfogfpmeacaa.Steps.goesV_ (some 29) rfl rfl Try.func116 z0_ rfl #[.agg #[.int .i64 ((rd_T84 l0 x17_1).f0), .int .i64 ((rd_T84 l0 x17_1).f1), .string ((rd_T84 l0 x17_1).f2)], .int .i64 (rd l1 x17_1)] rfl (by first | rfl | go_simp) z2_ ?_)); (with_reducible refine (value_Fits.calls ((rd_T84 l0 x17_1).f0) ((rd_T84 l0 x17_1).f1) ((rd_T84 l0 x17_1).f2) (rd l1 x17_1) true _ A9.out).mono ?_); rintro e w13 ⟨rfl, hb⟩; refine ⟨_, rfl, ?_⟩; have n0_ := mk_ (blk_below (g := gb291) (o := .cells #[.int .i64 ((rd_T84 l0 x17_1).f0), .int .i64 ((rd_T84 l0 x17_1).f1), .string ((rd_T84 l0 x17_1).f2)] 84 (0, 0)) (by (with_reducible repeat (first | refine blk_drewN ?_ _ | refine blk_drew ?_ | refine blk_alloc ?_ _)); refine blk_put (cs := #[.int .i64 ((rd_T84 l0 x17_1).f0), .int .i64 ((rd_T84 l0 x17_1).f1), .string (⟨#[]⟩ : ByteArray)]) ?_ 2 _ rfl; (with_reducible repeat (first | refine blk_drewN ?_ _ | refine blk_drew ?_ | refine blk_alloc ?_ _)); refine blk_put (cs := #[.int .i64 ((rd_T84 l0 x17_1).f0), .int .i64 0, .string (⟨#[]⟩ : ByteArray)]) ?_ 1 _ rfl; (with_reducible repeat (first | refine blk_drewN ?_ _ | refine blk_drew ?_ | refine blk_alloc ?_ _)); refine blk_put (cs := #[.int .i64 0, .int .i64 0, .string (⟨#[]⟩ : ByteArray)]) ?_ 0 _ rfl; (with_reducible repeat (first | refine blk_drewN ?_ _ | refine blk_drew ?_ | refine blk_alloc ?_ _)); exact BK291.out) hb); have n1_ := mk_ (below_step (Short.hB HB) hb); clear BK291 HB; revert n0_ n1_; intro BK291 HB; (try clear hb)))
   go_roundg k1
   case measure => have := HK1.out; omega
   case rel => exact ⟨(wrap64 (x17_1 + 1)), z4_, H', ⟨by have := HK1.out; omega⟩, ⟨Short.hB HB⟩⟩
def row_Fits.f (k : Nat) (l0 : List (S84)) (l1 : List Int) : Option (Bool) := (slices_EqualFunc_at_value_Fits.f k l0 l1 ()).bind fun t294 => (some t294)
theorem row_Fits.calls (k : Nat) (A0 : Option Addr) (c0 : Nat) (l0 : List (S84)) (A1 : Option Addr) (c1 : Nat) (l1 : List Int) (r : Bool) (w : World) (hr0 : Kd.C k84 w A0 l0.length l0) (hc0 : l0.length ≤ c0) (hr1 : Kd.C (Kd.int .i64) w A1 l1.length l1) (hc1 : l1.length ≤ c1) (h : row_Fits.f k l0 l1 = some r) :
  Calls Try.prog 101 #[.slice A0 l0.length c0, .slice A1 l1.length c1] w fun e w' => e = .returned (.bool r) ∧ Below w.heap.size w w' := by
 have HR0 := mk_ hr0
 have HC0 := mk_ hc0
 clear hr0 hc0
 have HR1 := mk_ hr1
 have HC1 := mk_ hc1
 clear hr1 hc1
 have HB := mk_ (Below.refl w.heap.size w)
 have H : ((slices_EqualFunc_at_value_Fits.f k l0 l1 ()).bind fun t294 => (some t294)) = some r := h
 clear h
 obtain ⟨t294, A3, H⟩ := Option.bind_eq_some_iff.mp H
 replace A3 := mk_ A3
 obtain rfl := Option.some.inj H
 go_enter Try.func101, Try.ntmps101
 go_wp2_with (first | ((with_reducible refine gate_callee (f := 115) rfl ?_); refine Short.gL (some 7) Try.func115 #[.slice A0 l0.length c0, .slice A1 l1.length c1, .func (.func 116) #[] #[]] (h := ?_); (with_reducible refine (slices_EqualFunc_at_value_Fits.calls k _ _ l0 _ _ l1 () t294 _ ?side1 ?side2 ?side3 ?side4 A3.out).mono ?_); (case side1 => repeat (first | exact HR0.out | (with_reducible refine C_alloc ?_ _) | (with_reducible refine C_drewN ?_ _) | (with_reducible refine C_drew ?_))); (case side2 => exact HC0.out); (case side3 => repeat (first | exact HR1.out | (with_reducible refine C_alloc ?_ _) | (with_reducible refine C_drewN ?_ _) | (with_reducible refine C_drew ?_))); (case side4 => exact HC1.out); rintro e w4 ⟨rfl, hb⟩; refine ⟨_, rfl, ?_⟩; have n0_ := mk_ (below_step (Short.hB HB) hb); clear HB; revert n0_; intro HB; (try clear hb)))
 go_ret
 exact ⟨q0, Short.hB HB⟩
def value_Small.f (a0_0 : Int) (a0_1 : Int) (a0_2 : ByteArray) : Option (Bool) := (value_Check.f a0_0 a0_1 a0_2).bind fun t296 => (if t296 = 0 then (if a0_0 = 3 then ((value_within.f a0_1 2147483648).bind fun t297 => (some t297)) else (some true)) else (some false))
theorem value_Small.calls (a0_0 : Int) (a0_1 : Int) (a0_2 : ByteArray) (r : Bool) (w : World) (h : value_Small.f a0_0 a0_1 a0_2 = some r) :
  Calls Try.prog 103 #[.agg #[.int .i64 a0_0, .int .i64 a0_1, .string a0_2]] w fun e w' => e = .returned (.bool r) ∧ Below w.heap.size w w' := by
 have hu84 := Try.underlying84
 have HB := mk_ (Below.refl w.heap.size w)
 have H : ((value_Check.f a0_0 a0_1 a0_2).bind fun t296 => (if t296 = 0 then (if a0_0 = 3 then ((value_within.f a0_1 2147483648).bind fun t297 => (some t297)) else (some true)) else (some false))) = some r := h
 clear h
 obtain ⟨t296, A2, H⟩ := Option.bind_eq_some_iff.mp H
 replace A2 := mk_ A2
 by_cases c3 : t296 = 0
 rotate_left
 ·
  rw [if_neg c3] at H
  have c3b0 : (t296 == 0) = false := beq_eq_false_iff_ne.mpr c3
  have c3b1 : (t296 != 0) = true := bne_iff_ne.mpr c3
  obtain rfl := Option.some.inj H
  go_enter Try.func103, Try.ntmps103
  go_wp2_with (first | ((with_reducible refine gate_dst (N := 1) rfl ?_); refine box_event ?hg (N := 1) ?hd (cs := #[.int .i64 a0_0, .int .i64 a0_1, .string a0_2]) (t := 84) ?hr ?_; (case hd => rfl); (case hg => rfl); (case hr => first | (go_simp; done) | (go_simp; rfl)); intro gb295 hg w14 hbox hb; have n0_ := mk_ (below_step (Short.hB HB) hb); have n1_ := mk_ (hbox); have n2_ := mk_ ((by rw [hg]; exact (below_size (Short.hB HB)) : w.heap.size ≤ gb295)); have n3_ := mk_ ((by rw [hg]; exact (below_size (Short.hB HB)) : w.heap.size ≤ gb295)); clear HB; revert n0_ n1_ n2_ n3_; intro HB BK295 GW295 GE295; clear hb hbox hg; obtain ⟨hcz_0, hcz_1, hcz_2, hfz_0, hfz_1, hfz_2⟩ := Short.c3 BK295.out) | ((with_reducible refine gate_callee (f := 87) rfl ?_); refine Short.gL (some 4) Try.func87 #[.agg #[.int .i64 a0_0, .int .i64 a0_1, .string a0_2]] (h := ?_); (with_reducible refine (value_Check.calls a0_0 a0_1 a0_2 t296 _ A2.out).mono ?_); rintro e w16 ⟨rfl, hb⟩; refine ⟨_, rfl, ?_⟩; have n0_ := mk_ (bB_ BK295 hb); have n1_ := mk_ (below_step (Short.hB HB) hb); clear BK295 HB; revert n0_ n1_; intro BK295 HB; (try clear hb)))
  go_ret
  exact ⟨q0, Short.hB HB⟩
 rw [if_pos c3] at H
 have c3b0 : (t296 == 0) = true := beq_iff_eq.mpr c3
 have c3b1 : (t296 != 0) = false := bne_eq_false_iff_eq.mpr c3
 clear c3
 by_cases c4 : a0_0 = 3
 rotate_left
 ·
  rw [if_neg c4] at H
  have c4b0 : (a0_0 == 3) = false := beq_eq_false_iff_ne.mpr c4
  have c4b1 : (a0_0 != 3) = true := bne_iff_ne.mpr c4
  obtain rfl := Option.some.inj H
  go_enter Try.func103, Try.ntmps103
  go_wp2_with (first | ((with_reducible refine gate_dst (N := 1) rfl ?_); refine box_event ?hg (N := 1) ?hd (cs := #[.int .i64 a0_0, .int .i64 a0_1, .string a0_2]) (t := 84) ?hr ?_; (case hd => rfl); (case hg => rfl); (case hr => first | (go_simp; done) | (go_simp; rfl)); intro gb295 hg w10 hbox hb; have n0_ := mk_ (below_step (Short.hB HB) hb); have n1_ := mk_ (hbox); have n2_ := mk_ ((by rw [hg]; exact (below_size (Short.hB HB)) : w.heap.size ≤ gb295)); have n3_ := mk_ ((by rw [hg]; exact (below_size (Short.hB HB)) : w.heap.size ≤ gb295)); clear HB; revert n0_ n1_ n2_ n3_; intro HB BK295 GW295 GE295; clear hb hbox hg; obtain ⟨hcz_0, hcz_1, hcz_2, hfz_0, hfz_1, hfz_2⟩ := Short.c3 BK295.out) | ((with_reducible refine gate_callee (f := 87) rfl ?_); refine Short.gL (some 4) Try.func87 #[.agg #[.int .i64 a0_0, .int .i64 a0_1, .string a0_2]] (h := ?_); (with_reducible refine (value_Check.calls a0_0 a0_1 a0_2 t296 _ A2.out).mono ?_); rintro e w12 ⟨rfl, hb⟩; refine ⟨_, rfl, ?_⟩; have n0_ := mk_ (bB_ BK295 hb); have n1_ := mk_ (below_step (Short.hB HB) hb); clear BK295 HB; revert n0_ n1_; intro BK295 HB; (try clear hb); obtain ⟨hcz_0, hcz_1, hcz_2, hfz_0, hfz_1, hfz_2⟩ := Short.c3 BK295.out))
  go_ret
  exact ⟨q0, Short.hB HB⟩
 rw [if_pos c4] at H
 have c4b0 : (a0_0 == 3) = true := beq_iff_eq.mpr c4
 have c4b1 : (a0_0 != 3) = false := bne_eq_false_iff_eq.mpr c4
 clear c4
 obtain ⟨t297, A5, H⟩ := Option.bind_eq_some_iff.mp H
 replace A5 := mk_ A5
 obtain rfl := Option.some.inj H
 go_enter Try.func103, Try.ntmps103
 go_wp2_with (first | ((with_reducible refine gate_dst (N := 1) rfl ?_); refine box_event ?hg (N := 1) ?hd (cs := #[.int .i64 a0_0, .int .i64 a0_1, .string a0_2]) (t := 84) ?hr ?_; (case hd => rfl); (case hg => rfl); (case hr => first | (go_simp; done) | (go_simp; rfl)); intro gb295 hg w6 hbox hb; have n0_ := mk_ (below_step (Short.hB HB) hb); have n1_ := mk_ (hbox); have n2_ := mk_ ((by rw [hg]; exact (below_size (Short.hB HB)) : w.heap.size ≤ gb295)); have n3_ := mk_ ((by rw [hg]; exact (below_size (Short.hB HB)) : w.heap.size ≤ gb295)); clear HB; revert n0_ n1_ n2_ n3_; intro HB BK295 GW295 GE295; clear hb hbox hg; obtain ⟨hcz_0, hcz_1, hcz_2, hfz_0, hfz_1, hfz_2⟩ := Short.c3 BK295.out) | ((with_reducible refine gate_callee (f := 87) rfl ?_); refine Short.gL (some 4) Try.func87 #[.agg #[.int .i64 a0_0, .int .i64 a0_1, .string a0_2]] (h := ?_); (with_reducible refine (value_Check.calls a0_0 a0_1 a0_2 t296 _ A2.out).mono ?_); rintro e w8 ⟨rfl, hb⟩; refine ⟨_, rfl, ?_⟩; have n0_ := mk_ (bB_ BK295 hb); have n1_ := mk_ (below_step (Short.hB HB) hb); clear BK295 HB; revert n0_ n1_; intro BK295 HB; (try clear hb); obtain ⟨hcz_0, hcz_1, hcz_2, hfz_0, hfz_1, hfz_2⟩ := Short.c3 BK295.out) | (go_at_call 107; (with_reducible refine (value_within.calls a0_1 2147483648 t297 _ A5.out).mono ?_); rintro e w' ⟨rfl, ⟨nd, rfl⟩⟩))
 go_ret
 exact ⟨q0, Short.hB HB⟩
def op_small_1.f (a0_0 : Int) (a0_1 : Int) (a0_2 : ByteArray) : Option (Bool) := (value_Small.f a0_0 a0_1 a0_2).bind fun t299 => (some (!t299))
theorem op_small_1.calls (a0_0 : Int) (a0_1 : Int) (a0_2 : ByteArray) (r : Bool) (w : World) (h : op_small_1.f a0_0 a0_1 a0_2 = some r) :
  Calls Try.prog 102 #[.agg #[.int .i64 a0_0, .int .i64 a0_1, .string a0_2]] w fun e w' => e = .returned (.bool r) ∧ Below w.heap.size w w' := by
 have hu84 := Try.underlying84
 have HB := mk_ (Below.refl w.heap.size w)
 have H : ((value_Small.f a0_0 a0_1 a0_2).bind fun t299 => (some (!t299))) = some r := h
 clear h
 obtain ⟨t299, A2, H⟩ := Option.bind_eq_some_iff.mp H
 replace A2 := mk_ A2
 obtain rfl := Option.some.inj H
 go_enter Try.func102, Try.ntmps102
 go_wp2_with (first | ((with_reducible refine gate_dst (N := 1) rfl ?_); refine box_event ?hg (N := 1) ?hd (cs := #[.int .i64 a0_0, .int .i64 a0_1, .string a0_2]) (t := 84) ?hr ?_; (case hd => rfl); (case hg => rfl); (case hr => first | (go_simp; done) | (go_simp; rfl)); intro gb298 hg w3 hbox hb; have n0_ := mk_ (below_step (Short.hB HB) hb); have n1_ := mk_ (hbox); have n2_ := mk_ ((by rw [hg]; exact (below_size (Short.hB HB)) : w.heap.size ≤ gb298)); have n3_ := mk_ ((by rw [hg]; exact (below_size (Short.hB HB)) : w.heap.size ≤ gb298)); clear HB; revert n0_ n1_ n2_ n3_; intro HB BK298 GW298 GE298; clear hb hbox hg; obtain ⟨hcz_0, hcz_1, hcz_2, hfz_0, hfz_1, hfz_2⟩ := Short.c3 BK298.out) | ((with_reducible refine gate_callee (f := 103) rfl ?_); refine Short.gL (some 4) Try.func103 #[.agg #[.int .i64 a0_0, .int .i64 a0_1, .string a0_2]] (h := ?_); (with_reducible refine (value_Small.calls a0_0 a0_1 a0_2 t299 _ A2.out).mono ?_); rintro e w5 ⟨rfl, hb⟩; refine ⟨_, rfl, ?_⟩; have n0_ := mk_ (bB_ BK298 hb); have n1_ := mk_ (below_step (Short.hB HB) hb); clear BK298 HB; revert n0_ n1_; intro BK298 HB; (try clear hb)))
 go_ret
 exact ⟨q0, Short.hB HB⟩
def slices_IndexFunc_at_op_small_1.l0 : Nat → List (S84) → Int → Int → Option (Int)
 | 0, _, _, _ => none
 | k + 1, x0, x7, x8 => if x8 < x7 then (if 0 ≤ x8 then (if x8 < (x0.length : Int) then ((op_small_1.f ((rd_T84 x0 x8).f0) ((rd_T84 x0 x8).f1) ((rd_T84 x0 x8).f2)).bind fun t301 => (if t301 = true then (some x8) else (slices_IndexFunc_at_op_small_1.l0 k x0 x7 (wrap64 (x8 + 1))))) else (none)) else (none)) else (some (-1))
def slices_IndexFunc_at_op_small_1.f (k : Nat) (l0 : List (S84)) (a1 : Unit) : Option (Int) := slices_IndexFunc_at_op_small_1.l0 k l0 (l0.length : Int) 0
theorem slices_IndexFunc_at_op_small_1.calls (k : Nat) (A0 : Option Addr) (c0 : Nat) (l0 : List (S84)) (a1 : Unit) (r : Int) (w : World) (hr0 : Kd.C k84 w A0 l0.length l0) (hc0 : l0.length ≤ c0) (h : slices_IndexFunc_at_op_small_1.f k l0 a1 = some r) :
  Calls Try.prog 106 #[.slice A0 l0.length c0, .func (.func 102) #[] #[]] w fun e w' => e = .returned (.int .i64 r) ∧ Below w.heap.size w w' := by
 have hu84 := Try.underlying84
 have HR0 := mk_ hr0
 have HC0 := mk_ hc0
 clear hr0 hc0
 have HB := mk_ (Below.refl w.heap.size w)
 have H : (slices_IndexFunc_at_op_small_1.l0 k l0 (l0.length : Int) 0) = some r := h
 clear h
 have H' := mk_ H
 clear H
 go_enter Try.func106, Try.ntmps106
 go_wp2
 go_loopg [8] k (fun kq v8 w' => ∃ (x8_1 : Int), v8 = .int .i64 x8_1 ∧ Aside0 (slices_IndexFunc_at_op_small_1.l0 kq l0 (l0.length : Int) x8_1 = some r) ∧ Aside0 (kq ≤ k) ∧ Aside0 (Below w.heap.size w w'))
 case atStart => exact ⟨(0), z4_, H', ⟨Nat.le_refl _⟩, ⟨Short.hB HB⟩⟩
 case round =>
  clear H'
  try clear p2
  obtain ⟨x8_1, rfl, HA, HK1, HB⟩ := hrel
  cases gk with
  | zero => exact absurd HA.out (by simp [slices_IndexFunc_at_op_small_1.l0])
  | succ k1 =>
   have H := HA.out
   clear HA
   simp only [slices_IndexFunc_at_op_small_1.l0] at H
   by_cases c3 : x8_1 < (l0.length : Int)
   rotate_left
   ·
    rw [if_neg c3] at H
    have c3b0 : decide (x8_1 < (l0.length : Int)) = false := decide_eq_false c3
    clear c3
    obtain rfl := Option.some.inj H
    go_wp2
    go_ret
    exact ⟨q0, Short.hB HB⟩
   rw [if_pos c3] at H
   have c3b0 : decide (x8_1 < (l0.length : Int)) = true := decide_eq_true c3
   clear c3
   by_cases c4 : 0 ≤ x8_1
   rotate_left
   ·
    rw [if_neg c4] at H
    exact absurd H (by simp)
   rw [if_pos c4] at H
   have c4b0 : decide (0 ≤ x8_1) = true := decide_eq_true c4
   clear c4
   by_cases c5 : x8_1 < (l0.length : Int)
   rotate_left
   ·
    rw [if_neg c5] at H
    exact absurd H (by simp)
   rw [if_pos c5] at H
   have c5b0 : decide (x8_1 < (l0.length : Int)) = true := decide_eq_true c5
   clear c5
   obtain ⟨t301, A6, H⟩ := Option.bind_eq_some_iff.mp H
   replace A6 := mk_ A6
   by_cases c7 : t301 = true
   ·
    subst c7
    rw [if_pos rfl] at H
    obtain rfl := Option.some.inj H
    have p300 : 0 ≤ (x8_1 : Int) := of_decide_eq_true z1_
    have q300 : x8_1 < (l0.length : Int) := of_decide_eq_true z1_
    obtain ⟨ad300, e300, hx300_0, hx300_1, hx300_2⟩ := at_T84 HR0.out x8_1 p300 q300
    cases e300
    replace hx300_0 := up_ HB hx300_0
    replace hx300_1 := up_ HB hx300_1
    replace hx300_2 := up_ HB hx300_2
    replace p300 := eq_true p300
    replace q300 := eq_true q300
    go_wp2_with (first | ((first | ((with_reducible refine gate_callee (f := 102) rfl ?_); refine Short.gL (some 16) Try.func102 #[.agg #[.int .i64 ((rd_T84 l0 x8_1).f0), .int .i64 ((rd_T84 l0 x8_1).f1), .string ((rd_T84 l0 x8_1).f2)]] (h := ?_)) | ((with_reducible refine Go.Proofs.Ytjnjfogfpmeacaa.Steps.gate_any rfl ?_); refine Go.Proofs.Ytjnjfogfpmeacaa.Steps.goesV_ (some 16) rfl rfl Try.func102 z0_ rfl #[.agg #[.int .i64 ((rd_T84 l0 x8_1).f0), .int .i64 ((rd_T84 l0 x8_1).f1), .string ((rd_T84 l0 x8_1).f2)]] rfl (by first | rfl | go_simp) z2_ ?_)); (with_reducible refine (op_small_1.calls ((rd_T84 l0 x8_1).f0) ((rd_T84 l0 x8_1).f1) ((rd_T84 l0 x8_1).f2) true _ A6.out).mono ?_); rintro e w8 ⟨rfl, hb⟩; refine ⟨_, rfl, ?_⟩; have n0_ := mk_ (below_step (Short.hB HB) hb); clear HB; revert n0_; intro HB; (try clear hb)))
    go_ret
    exact ⟨q0, Short.hB HB⟩
   replace c7 := Bool.eq_false_iff.mpr c7
   subst c7
   rw [if_neg (show ¬ (false = true) by decide)] at H
   have H' := mk_ H
   clear H
   have p300 : 0 ≤ (x8_1 : Int) := of_decide_eq_true z1_
   have q300 : x8_1 < (l0.length : Int) := of_decide_eq_true z1_
   obtain ⟨ad300, e300, hx300_0, hx300_1, hx300_2⟩ := at_T84 HR0.out x8_1 p300 q300
   cases e300
   replace hx300_0 := up_ HB hx300_0
   replace hx300_1 := up_ HB hx300_1
   replace hx300_2 := up_ HB hx300_2
   replace p300 := eq_true p300
   replace q300 := eq_true q300
   go_wp2_with (first | ((first | ((with_reducible refine gate_callee (f := 102) rfl ?_); refine Short.gL (some 16) Try.func102 #[.agg #[.int .i64 ((rd_T84 l0 x8_1).f0), .int .i64 ((rd_T84 l0 x8_1).f1), .string ((rd_T84 l0 x8_1).f2)]] (h := ?_)) | ((with_reducible refine Go.Proofs.Ytjnjfogfpmeacaa.Steps.gate_any rfl ?_); refine Go.Proofs.Ytjnjfogfpmeacaa.Steps.goesV_ (some 16) rfl rfl Try.func102 z0_ rfl #[.agg #[.int .i64 ((rd_T84 l0 x8_1).f0), .int .i64 ((rd_T84 l0 x8_1).f1), .string ((rd_T84 l0 x8_1).f2)]] rfl (by first | rfl | go_simp) z2_ ?_)); (with_reducible refine (op_small_1.calls ((rd_T84 l0 x8_1).f0) ((rd_T84 l0 x8_1).f1) ((rd_T84 l0 x8_1).f2) false _ A6.out).mono ?_); rintro e w9 ⟨rfl, hb⟩; refine ⟨_, rfl, ?_⟩; have n0_ := mk_ (below_step (Short.hB HB) hb); clear HB; revert n0_; intro HB; (try clear hb)))
   go_roundg k1
   case measure => have := HK1.out; omega
   case rel => exact ⟨(wrap64 (x8_1 + 1)), z4_, H', ⟨by have := HK1.out; omega⟩, ⟨Short.hB HB⟩⟩
def slices_ContainsFunc_at_op_small_1.f (k : Nat) (l0 : List (S84)) (a1 : Unit) : Option (Bool) := (slices_IndexFunc_at_op_small_1.f k l0 a1).bind fun t302 => (some (decide (t302 ≥ 0)))
theorem slices_ContainsFunc_at_op_small_1.calls (k : Nat) (A0 : Option Addr) (c0 : Nat) (l0 : List (S84)) (a1 : Unit) (r : Bool) (w : World) (hr0 : Kd.C k84 w A0 l0.length l0) (hc0 : l0.length ≤ c0) (h : slices_ContainsFunc_at_op_small_1.f k l0 a1 = some r) :
  Calls Try.prog 85 #[.slice A0 l0.length c0, .func (.func 102) #[] #[]] w fun e w' => e = .returned (.bool r) ∧ Below w.heap.size w w' := by
 have HR0 := mk_ hr0
 have HC0 := mk_ hc0
 clear hr0 hc0
 have HB := mk_ (Below.refl w.heap.size w)
 have H : ((slices_IndexFunc_at_op_small_1.f k l0 a1).bind fun t302 => (some (decide (t302 ≥ 0)))) = some r := h
 clear h
 obtain ⟨t302, A3, H⟩ := Option.bind_eq_some_iff.mp H
 replace A3 := mk_ A3
 obtain rfl := Option.some.inj H
 go_enter Try.func85, Try.ntmps85
 go_wp2_with (first | ((first | ((with_reducible refine gate_callee (f := 106) rfl ?_); refine Short.gL (some 7) Try.func106 #[.slice A0 l0.length c0, .func (.func 102) #[] #[]] (h := ?_)) | ((with_reducible refine Go.Proofs.Ytjnjfogfpmeacaa.Steps.gate_any rfl ?_); refine Go.Proofs.Ytjnjfogfpmeacaa.Steps.goesV_ (some 7) rfl rfl Try.func106 z0_ rfl #[.slice A0 l0.length c0, .func (.func 102) #[] #[]] rfl (by first | rfl | go_simp) z2_ ?_)); (with_reducible refine (slices_IndexFunc_at_op_small_1.calls k _ _ l0 a1 t302 _ ?side1 ?side2 A3.out).mono ?_); (case side1 => repeat (first | exact HR0.out | (with_reducible refine C_alloc ?_ _) | (with_reducible refine C_drewN ?_ _) | (with_reducible refine C_drew ?_))); (case side2 => exact HC0.out); rintro e w4 ⟨rfl, hb⟩; refine ⟨_, rfl, ?_⟩; have n0_ := mk_ (below_step (Short.hB HB) hb); clear HB; revert n0_; intro HB; (try clear hb)))
 go_ret
 exact ⟨q0, Short.hB HB⟩
def op_small.f (k : Nat) (l0 : List (S84)) (l1 : List Int) : Option (Bool) := (row_Fits.f k l0 l1).bind fun t303 => (if t303 = true then ((slices_ContainsFunc_at_op_small_1.f k l0 ()).bind fun t304 => (some (!t304))) else (some false))
theorem op_small.calls (k : Nat) (A0 : Option Addr) (c0 : Nat) (l0 : List (S84)) (A1 : Option Addr) (c1 : Nat) (l1 : List Int) (r : Bool) (w : World) (hr0 : Kd.C k84 w A0 l0.length l0) (hc0 : l0.length ≤ c0) (hr1 : Kd.C (Kd.int .i64) w A1 l1.length l1) (hc1 : l1.length ≤ c1) (h : op_small.f k l0 l1 = some r) :
  Calls Try.prog 74 #[.slice A0 l0.length c0, .slice A1 l1.length c1] w fun e w' => e = .returned (.bool r) ∧ Below w.heap.size w w' := by
 have HR0 := mk_ hr0
 have HC0 := mk_ hc0
 clear hr0 hc0
 have HR1 := mk_ hr1
 have HC1 := mk_ hc1
 clear hr1 hc1
 have HB := mk_ (Below.refl w.heap.size w)
 have H : ((row_Fits.f k l0 l1).bind fun t303 => (if t303 = true then ((slices_ContainsFunc_at_op_small_1.f k l0 ()).bind fun t304 => (some (!t304))) else (some false))) = some r := h
 clear h
 obtain ⟨t303, A3, H⟩ := Option.bind_eq_some_iff.mp H
 replace A3 := mk_ A3
 by_cases c4 : t303 = true
 rotate_left
 ·
  replace c4 := Bool.eq_false_iff.mpr c4
  subst c4
  rw [if_neg (show ¬ (false = true) by decide)] at H
  obtain rfl := Option.some.inj H
  go_enter Try.func74, Try.ntmps74
  go_wp2_with (first | ((with_reducible refine gate_callee (f := 101) rfl ?_); refine Short.gL (some 7) Try.func101 #[.slice A0 l0.length c0, .slice A1 l1.length c1] (h := ?_); (with_reducible refine (row_Fits.calls k _ _ l0 _ _ l1 false _ ?side1 ?side2 ?side3 ?side4 A3.out).mono ?_); (case side1 => repeat (first | exact HR0.out | (with_reducible refine C_alloc ?_ _) | (with_reducible refine C_drewN ?_ _) | (with_reducible refine C_drew ?_))); (case side2 => exact HC0.out); (case side3 => repeat (first | exact HR1.out | (with_reducible refine C_alloc ?_ _) | (with_reducible refine C_drewN ?_ _) | (with_reducible refine C_drew ?_))); (case side4 => exact HC1.out); rintro e w8 ⟨rfl, hb⟩; refine ⟨_, rfl, ?_⟩; have n0_ := mk_ (below_step (Short.hB HB) hb); clear HB; revert n0_; intro HB; (try clear hb)))
  go_ret
  exact ⟨q0, Short.hB HB⟩
 subst c4
 rw [if_pos rfl] at H
 obtain ⟨t304, A5, H⟩ := Option.bind_eq_some_iff.mp H
 replace A5 := mk_ A5
 obtain rfl := Option.some.inj H
 go_enter Try.func74, Try.ntmps74
 go_wp2_with (first | ((with_reducible refine gate_callee (f := 101) rfl ?_); refine Short.gL (some 7) Try.func101 #[.slice A0 l0.length c0, .slice A1 l1.length c1] (h := ?_); (with_reducible refine (row_Fits.calls k _ _ l0 _ _ l1 true _ ?side1 ?side2 ?side3 ?side4 A3.out).mono ?_); (case side1 => repeat (first | exact HR0.out | (with_reducible refine C_alloc ?_ _) | (with_reducible refine C_drewN ?_ _) | (with_reducible refine C_drew ?_))); (case side2 => exact HC0.out); (case side3 => repeat (first | exact HR1.out | (with_reducible refine C_alloc ?_ _) | (with_reducible refine C_drewN ?_ _) | (with_reducible refine C_drew ?_))); (case side4 => exact HC1.out); rintro e w6 ⟨rfl, hb⟩; refine ⟨_, rfl, ?_⟩; have n0_ := mk_ (below_step (Short.hB HB) hb); clear HB; revert n0_; intro HB; (try clear hb)) | (go_at_call 85; (with_reducible refine (slices_ContainsFunc_at_op_small_1.calls k _ _ l0 () t304 _ ?side1 ?side2 A5.out).mono ?_); (case side1 => exact cX_ (C_below HR0.out HB.out)); (case side2 => exact HC0.out); rintro e w7 ⟨rfl, hb⟩; have n0_ := mk_ (below_step (Short.hB HB) hb); clear HB; revert n0_; intro HB; (try clear hb); (try clear hb2); (try clear hk); (try clear hi)))
 go_ret
 exact ⟨q0, Short.hB HB⟩
def dot_in.f (l0 : List Int) (a1 : Int) : Option (Bool) := if a1 ≥ 0 then (some (decide (a1 < (l0.length : Int)))) else (some false)
theorem dot_in.calls (A0 : Option Addr) (c0 : Nat) (l0 : List Int) (a1 : Int) (r : Bool) (w : World) (hr0 : Kd.C (Kd.int .i64) w A0 l0.length l0) (hc0 : l0.length ≤ c0) (h : dot_in.f l0 a1 = some r) :
  Calls Try.prog 117 #[.slice A0 l0.length c0, .int .i64 a1] w fun e w' => e = .returned (.bool r) ∧ Drawn0 w w' := by
 have HR0 := mk_ hr0
 have HC0 := mk_ hc0
 clear hr0 hc0
 have H : (if a1 ≥ 0 then (some (decide (a1 < (l0.length : Int)))) else (some false)) = some r := h
 clear h
 by_cases c3 : a1 ≥ 0
 ·
  rw [if_pos c3] at H
  have c3b0 : decide (0 ≤ a1) = true := decide_eq_true c3
  clear c3
  obtain rfl := Option.some.inj H
  go_enter Try.func117, Try.ntmps117
  go_wp2
  go_ret
  exact ⟨z4_, by repeat (first | exact Drawn0.refl _ | apply Drawn0.step)⟩
 rw [if_neg c3] at H
 have c3b0 : decide (0 ≤ a1) = false := decide_eq_false c3
 clear c3
 obtain rfl := Option.some.inj H
 go_enter Try.func117, Try.ntmps117
 go_wp2
 go_ret
 exact ⟨z4_, by repeat (first | exact Drawn0.refl _ | apply Drawn0.step)⟩
def dot_Has.f (l0 : List Int) (a1_0 : Int) (a1_1 : Int) : Option (Bool) := (dot_in.f l0 a1_0).bind fun t306 => (if t306 = true then (if a1_1 ≥ 1 then (if 0 ≤ a1_0 then (if a1_0 < (l0.length : Int) then (some (decide (a1_1 ≤ (rd l0 a1_0)))) else (none)) else (none)) else (some false)) else (some false))
theorem dot_Has.calls (A0 : Option Addr) (c0 : Nat) (l0 : List Int) (a1_0 : Int) (a1_1 : Int) (r : Bool) (w : World) (hr0 : Kd.C (Kd.int .i64) w A0 l0.length l0) (hc0 : l0.length ≤ c0) (h : dot_Has.f l0 a1_0 a1_1 = some r) :
  Calls Try.prog 104 #[.slice A0 l0.length c0, .agg #[.int .i64 a1_0, .int .i64 a1_1]] w fun e w' => e = .returned (.bool r) ∧ Below w.heap.size w w' := by
 have hu25 := Try.underlying25
 have HR0 := mk_ hr0
 have HC0 := mk_ hc0
 clear hr0 hc0
 have HB := mk_ (Below.refl w.heap.size w)
 have H : ((dot_in.f l0 a1_0).bind fun t306 => (if t306 = true then (if a1_1 ≥ 1 then (if 0 ≤ a1_0 then (if a1_0 < (l0.length : Int) then (some (decide (a1_1 ≤ (rd l0 a1_0)))) else (none)) else (none)) else (some false)) else (some false))) = some r := h
 clear h
 obtain ⟨t306, A3, H⟩ := Option.bind_eq_some_iff.mp H
 replace A3 := mk_ A3
 by_cases c4 : t306 = true
 rotate_left
 ·
  replace c4 := Bool.eq_false_iff.mpr c4
  subst c4
  rw [if_neg (show ¬ (false = true) by decide)] at H
  obtain rfl := Option.some.inj H
  go_enter Try.func104, Try.ntmps104
  go_wp2_with (first | ((with_reducible refine gate_dst (N := 3) rfl ?_); refine box_event ?hg (N := 3) ?hd (cs := #[.int .i64 a1_0, .int .i64 a1_1]) (t := 25) ?hr ?_; (case hd => rfl); (case hg => rfl); (case hr => first | (go_simp; done) | (go_simp; rfl)); intro gb305 hg w12 hbox hb; have n0_ := mk_ (below_step (Short.hB HB) hb); have n1_ := mk_ (hbox); have n2_ := mk_ ((by rw [hg]; exact (below_size (Short.hB HB)) : w.heap.size ≤ gb305)); have n3_ := mk_ ((by rw [hg]; exact (below_size (Short.hB HB)) : w.heap.size ≤ gb305)); clear HB; revert n0_ n1_ n2_ n3_; intro HB BK305 GW305 GE305; clear hb hbox hg; obtain ⟨hcz13_0, hcz13_1, hfz13_0, hfz13_1⟩ := Short.c2 BK305.out) | (go_at_call 117; (with_reducible refine (dot_in.calls _ _ l0 a1_0 false _ ?side1 ?side2 A3.out).mono ?_); (case side1 => exact cX_ (C_below HR0.out HB.out)); (case side2 => exact HC0.out); rintro e w' ⟨rfl, ⟨nd, rfl⟩⟩; (try first | exact ⟨rfl, _, World.drewN_drewN _ _ _⟩ | exact ⟨rfl, _, Eq.trans (World.drewN_drewN _ _ _) (congrArg (World.drewN _) (Nat.add_assoc _ _ _))⟩)))
  repeat (go_quiet (first | ((with_reducible refine gate_dst (N := 3) rfl ?_); refine box_event ?hg (N := 3) ?hd (cs := #[.int .i64 a1_0, .int .i64 a1_1]) (t := 25) ?hr ?_; (case hd => rfl); (case hg => rfl); (case hr => first | (go_simp; done) | (go_simp; rfl)); intro gb305 hg w12 hbox hb; have n0_ := mk_ (below_step (Short.hB HB) hb); have n1_ := mk_ (hbox); have n2_ := mk_ ((by rw [hg]; exact (below_size (Short.hB HB)) : w.heap.size ≤ gb305)); have n3_ := mk_ ((by rw [hg]; exact (below_size (Short.hB HB)) : w.heap.size ≤ gb305)); clear HB; revert n0_ n1_ n2_ n3_; intro HB BK305 GW305 GE305; clear hb hbox hg; obtain ⟨hcz13_0, hcz13_1, hfz13_0, hfz13_1⟩ := Short.c2 BK305.out) | (go_at_call 117; (with_reducible refine (dot_in.calls _ _ l0 a1_0 false _ ?side1 ?side2 A3.out).mono ?_); (case side1 => exact cX_ (C_below HR0.out HB.out)); (case side2 => exact HC0.out); rintro e w' ⟨rfl, ⟨nd, rfl⟩⟩; (try first | exact ⟨rfl, _, World.drewN_drewN _ _ _⟩ | exact ⟨rfl, _, Eq.trans (World.drewN_drewN _ _ _) (congrArg (World.drewN _) (Nat.add_assoc _ _ _))⟩))); try go_wp2_with (first | ((with_reducible refine gate_dst (N := 3) rfl ?_); refine box_event ?hg (N := 3) ?hd (cs := #[.int .i64 a1_0, .int .i64 a1_1]) (t := 25) ?hr ?_; (case hd => rfl); (case hg => rfl); (case hr => first | (go_simp; done) | (go_simp; rfl)); intro gb305 hg w12 hbox hb; have n0_ := mk_ (below_step (Short.hB HB) hb); have n1_ := mk_ (hbox); have n2_ := mk_ ((by rw [hg]; exact (below_size (Short.hB HB)) : w.heap.size ≤ gb305)); have n3_ := mk_ ((by rw [hg]; exact (below_size (Short.hB HB)) : w.heap.size ≤ gb305)); clear HB; revert n0_ n1_ n2_ n3_; intro HB BK305 GW305 GE305; clear hb hbox hg; obtain ⟨hcz13_0, hcz13_1, hfz13_0, hfz13_1⟩ := Short.c2 BK305.out) | (go_at_call 117; (with_reducible refine (dot_in.calls _ _ l0 a1_0 false _ ?side1 ?side2 A3.out).mono ?_); (case side1 => exact cX_ (C_below HR0.out HB.out)); (case side2 => exact HC0.out); rintro e w' ⟨rfl, ⟨nd, rfl⟩⟩; (try first | exact ⟨rfl, _, World.drewN_drewN _ _ _⟩ | exact ⟨rfl, _, Eq.trans (World.drewN_drewN _ _ _) (congrArg (World.drewN _) (Nat.add_assoc _ _ _))⟩))))
  go_ret
  exact ⟨q0, Short.hB HB⟩
 subst c4
 rw [if_pos rfl] at H
 by_cases c5 : a1_1 ≥ 1
 rotate_left
 ·
  rw [if_neg c5] at H
  have c5b0 : decide (1 ≤ a1_1) = false := decide_eq_false c5
  clear c5
  obtain rfl := Option.some.inj H
  go_enter Try.func104, Try.ntmps104
  go_wp2_with (first | ((with_reducible refine gate_dst (N := 3) rfl ?_); refine box_event ?hg (N := 3) ?hd (cs := #[.int .i64 a1_0, .int .i64 a1_1]) (t := 25) ?hr ?_; (case hd => rfl); (case hg => rfl); (case hr => first | (go_simp; done) | (go_simp; rfl)); intro gb305 hg w10 hbox hb; have n0_ := mk_ (below_step (Short.hB HB) hb); have n1_ := mk_ (hbox); have n2_ := mk_ ((by rw [hg]; exact (below_size (Short.hB HB)) : w.heap.size ≤ gb305)); have n3_ := mk_ ((by rw [hg]; exact (below_size (Short.hB HB)) : w.heap.size ≤ gb305)); clear HB; revert n0_ n1_ n2_ n3_; intro HB BK305 GW305 GE305; clear hb hbox hg; obtain ⟨hcz11_0, hcz11_1, hfz11_0, hfz11_1⟩ := Short.c2 BK305.out) | (go_at_call 117; (with_reducible refine (dot_in.calls _ _ l0 a1_0 true _ ?side1 ?side2 A3.out).mono ?_); (case side1 => exact cX_ (C_below HR0.out HB.out)); (case side2 => exact HC0.out); rintro e w' ⟨rfl, ⟨nd, rfl⟩⟩; (try first | exact ⟨rfl, _, World.drewN_drewN _ _ _⟩ | exact ⟨rfl, _, Eq.trans (World.drewN_drewN _ _ _) (congrArg (World.drewN _) (Nat.add_assoc _ _ _))⟩)))
  repeat (go_quiet (first | ((with_reducible refine gate_dst (N := 3) rfl ?_); refine box_event ?hg (N := 3) ?hd (cs := #[.int .i64 a1_0, .int .i64 a1_1]) (t := 25) ?hr ?_; (case hd => rfl); (case hg => rfl); (case hr => first | (go_simp; done) | (go_simp; rfl)); intro gb305 hg w10 hbox hb; have n0_ := mk_ (below_step (Short.hB HB) hb); have n1_ := mk_ (hbox); have n2_ := mk_ ((by rw [hg]; exact (below_size (Short.hB HB)) : w.heap.size ≤ gb305)); have n3_ := mk_ ((by rw [hg]; exact (below_size (Short.hB HB)) : w.heap.size ≤ gb305)); clear HB; revert n0_ n1_ n2_ n3_; intro HB BK305 GW305 GE305; clear hb hbox hg; obtain ⟨hcz11_0, hcz11_1, hfz11_0, hfz11_1⟩ := Short.c2 BK305.out) | (go_at_call 117; (with_reducible refine (dot_in.calls _ _ l0 a1_0 true _ ?side1 ?side2 A3.out).mono ?_); (case side1 => exact cX_ (C_below HR0.out HB.out)); (case side2 => exact HC0.out); rintro e w' ⟨rfl, ⟨nd, rfl⟩⟩; (try first | exact ⟨rfl, _, World.drewN_drewN _ _ _⟩ | exact ⟨rfl, _, Eq.trans (World.drewN_drewN _ _ _) (congrArg (World.drewN _) (Nat.add_assoc _ _ _))⟩))); try go_wp2_with (first | ((with_reducible refine gate_dst (N := 3) rfl ?_); refine box_event ?hg (N := 3) ?hd (cs := #[.int .i64 a1_0, .int .i64 a1_1]) (t := 25) ?hr ?_; (case hd => rfl); (case hg => rfl); (case hr => first | (go_simp; done) | (go_simp; rfl)); intro gb305 hg w10 hbox hb; have n0_ := mk_ (below_step (Short.hB HB) hb); have n1_ := mk_ (hbox); have n2_ := mk_ ((by rw [hg]; exact (below_size (Short.hB HB)) : w.heap.size ≤ gb305)); have n3_ := mk_ ((by rw [hg]; exact (below_size (Short.hB HB)) : w.heap.size ≤ gb305)); clear HB; revert n0_ n1_ n2_ n3_; intro HB BK305 GW305 GE305; clear hb hbox hg; obtain ⟨hcz11_0, hcz11_1, hfz11_0, hfz11_1⟩ := Short.c2 BK305.out) | (go_at_call 117; (with_reducible refine (dot_in.calls _ _ l0 a1_0 true _ ?side1 ?side2 A3.out).mono ?_); (case side1 => exact cX_ (C_below HR0.out HB.out)); (case side2 => exact HC0.out); rintro e w' ⟨rfl, ⟨nd, rfl⟩⟩; (try first | exact ⟨rfl, _, World.drewN_drewN _ _ _⟩ | exact ⟨rfl, _, Eq.trans (World.drewN_drewN _ _ _) (congrArg (World.drewN _) (Nat.add_assoc _ _ _))⟩))))
  go_ret
  exact ⟨q0, Short.hB HB⟩
 rw [if_pos c5] at H
 have c5b0 : decide (1 ≤ a1_1) = true := decide_eq_true c5
 clear c5
 by_cases c6 : 0 ≤ a1_0
 rotate_left
 ·
  rw [if_neg c6] at H
  exact absurd H (by simp)
 rw [if_pos c6] at H
 have c6b0 : decide (0 ≤ a1_0) = true := decide_eq_true c6
 clear c6
 by_cases c7 : a1_0 < (l0.length : Int)
 rotate_left
 ·
  rw [if_neg c7] at H
  exact absurd H (by simp)
 rw [if_pos c7] at H
 have c7b0 : decide (a1_0 < (l0.length : Int)) = true := decide_eq_true c7
 clear c7
 obtain rfl := Option.some.inj H
 go_enter Try.func104, Try.ntmps104
 go_wp2_with (first | ((with_reducible refine gate_dst (N := 3) rfl ?_); refine box_event ?hg (N := 3) ?hd (cs := #[.int .i64 a1_0, .int .i64 a1_1]) (t := 25) ?hr ?_; (case hd => rfl); (case hg => rfl); (case hr => first | (go_simp; done) | (go_simp; rfl)); intro gb305 hg w8 hbox hb; have n0_ := mk_ (below_step (Short.hB HB) hb); have n1_ := mk_ (hbox); have n2_ := mk_ ((by rw [hg]; exact (below_size (Short.hB HB)) : w.heap.size ≤ gb305)); have n3_ := mk_ ((by rw [hg]; exact (below_size (Short.hB HB)) : w.heap.size ≤ gb305)); clear HB; revert n0_ n1_ n2_ n3_; intro HB BK305 GW305 GE305; clear hb hbox hg; obtain ⟨hcz9_0, hcz9_1, hfz9_0, hfz9_1⟩ := Short.c2 BK305.out) | (go_at_call 117; (with_reducible refine (dot_in.calls _ _ l0 a1_0 true _ ?side1 ?side2 A3.out).mono ?_); (case side1 => exact cX_ (C_below HR0.out HB.out)); (case side2 => exact HC0.out); rintro e w' ⟨rfl, ⟨nd, rfl⟩⟩; (try first | exact ⟨rfl, _, World.drewN_drewN _ _ _⟩ | exact ⟨rfl, _, Eq.trans (World.drewN_drewN _ _ _) (congrArg (World.drewN _) (Nat.add_assoc _ _ _))⟩); have p307 : 0 ≤ (a1_0 : Int) := of_decide_eq_true z1_; have q307 : a1_0 < (l0.length : Int) := of_decide_eq_true z1_; obtain ⟨ad307, e307, hx307_0⟩ := Kd.at_int HR0.out a1_0 p307 q307; cases e307; replace hx307_0 := up_ HB hx307_0; replace p307 := eq_true p307; replace q307 := eq_true q307))
 repeat (go_quiet (first | ((with_reducible refine gate_dst (N := 3) rfl ?_); refine box_event ?hg (N := 3) ?hd (cs := #[.int .i64 a1_0, .int .i64 a1_1]) (t := 25) ?hr ?_; (case hd => rfl); (case hg => rfl); (case hr => first | (go_simp; done) | (go_simp; rfl)); intro gb305 hg w8 hbox hb; have n0_ := mk_ (below_step (Short.hB HB) hb); have n1_ := mk_ (hbox); have n2_ := mk_ ((by rw [hg]; exact (below_size (Short.hB HB)) : w.heap.size ≤ gb305)); have n3_ := mk_ ((by rw [hg]; exact (below_size (Short.hB HB)) : w.heap.size ≤ gb305)); clear HB; revert n0_ n1_ n2_ n3_; intro HB BK305 GW305 GE305; clear hb hbox hg; obtain ⟨hcz9_0, hcz9_1, hfz9_0, hfz9_1⟩ := Short.c2 BK305.out) | (go_at_call 117; (with_reducible refine (dot_in.calls _ _ l0 a1_0 true _ ?side1 ?side2 A3.out).mono ?_); (case side1 => exact cX_ (C_below HR0.out HB.out)); (case side2 => exact HC0.out); rintro e w' ⟨rfl, ⟨nd, rfl⟩⟩; (try first | exact ⟨rfl, _, World.drewN_drewN _ _ _⟩ | exact ⟨rfl, _, Eq.trans (World.drewN_drewN _ _ _) (congrArg (World.drewN _) (Nat.add_assoc _ _ _))⟩); have p307 : 0 ≤ (a1_0 : Int) := of_decide_eq_true z1_; have q307 : a1_0 < (l0.length : Int) := of_decide_eq_true z1_; obtain ⟨ad307, e307, hx307_0⟩ := Kd.at_int HR0.out a1_0 p307 q307; cases e307; replace hx307_0 := up_ HB hx307_0; replace p307 := eq_true p307; replace q307 := eq_true q307)); try go_wp2_with (first | ((with_reducible refine gate_dst (N := 3) rfl ?_); refine box_event ?hg (N := 3) ?hd (cs := #[.int .i64 a1_0, .int .i64 a1_1]) (t := 25) ?hr ?_; (case hd => rfl); (case hg => rfl); (case hr => first | (go_simp; done) | (go_simp; rfl)); intro gb305 hg w8 hbox hb; have n0_ := mk_ (below_step (Short.hB HB) hb); have n1_ := mk_ (hbox); have n2_ := mk_ ((by rw [hg]; exact (below_size (Short.hB HB)) : w.heap.size ≤ gb305)); have n3_ := mk_ ((by rw [hg]; exact (below_size (Short.hB HB)) : w.heap.size ≤ gb305)); clear HB; revert n0_ n1_ n2_ n3_; intro HB BK305 GW305 GE305; clear hb hbox hg; obtain ⟨hcz9_0, hcz9_1, hfz9_0, hfz9_1⟩ := Short.c2 BK305.out) | (go_at_call 117; (with_reducible refine (dot_in.calls _ _ l0 a1_0 true _ ?side1 ?side2 A3.out).mono ?_); (case side1 => exact cX_ (C_below HR0.out HB.out)); (case side2 => exact HC0.out); rintro e w' ⟨rfl, ⟨nd, rfl⟩⟩; (try first | exact ⟨rfl, _, World.drewN_drewN _ _ _⟩ | exact ⟨rfl, _, Eq.trans (World.drewN_drewN _ _ _) (congrArg (World.drewN _) (Nat.add_assoc _ _ _))⟩); have p307 : 0 ≤ (a1_0 : Int) := of_decide_eq_true z1_; have q307 : a1_0 < (l0.length : Int) := of_decide_eq_true z1_; obtain ⟨ad307, e307, hx307_0⟩ := Kd.at_int HR0.out a1_0 p307 q307; cases e307; replace hx307_0 := up_ HB hx307_0; replace p307 := eq_true p307; replace q307 := eq_true q307)))
 go_ret
 exact ⟨q0, Short.hB HB⟩
def cmp_Or_int.l0 : Nat → Int → List Int → Int → Int → Option (Int)
 | 0, _, _, _, _ => none
 | k + 1, x3, x6, x7, x8 => if x8 < x7 then (if 0 ≤ x8 then (if x8 < (x6.length : Int) then (if (rd x6 x8) = x3 then (cmp_Or_int.l0 k x3 x6 x7 (wrap64 (x8 + 1))) else (some (rd x6 x8))) else (none)) else (none)) else (some x3)
def cmp_Or_int.f (k : Nat) (l0 : List Int) : Option (Int) := cmp_Or_int.l0 k 0 l0 (l0.length : Int) 0
theorem cmp_Or_int.calls (k : Nat) (A0 : Option Addr) (c0 : Nat) (l0 : List Int) (r : Int) (w : World) (hr0 : Kd.C (Kd.int .i64) w A0 l0.length l0) (hc0 : l0.length ≤ c0) (h : cmp_Or_int.f k l0 = some r) :
  Calls Try.prog 121 #[.slice A0 l0.length c0] w fun e w' => e = .returned (.int .i64 r) ∧ Drawn0 w w' := by
 have HR0 := mk_ hr0
 have HC0 := mk_ hc0
 clear hr0 hc0
 have H : (cmp_Or_int.l0 k 0 l0 (l0.length : Int) 0) = some r := h
 clear h
 have H' := mk_ H
 clear H
 go_enter Try.func121, Try.ntmps121
 go_wp2
 go_loopg [8] k (fun kq v8 w' => ∃ (x8_1 : Int), v8 = .int .i64 x8_1 ∧ Aside0 (cmp_Or_int.l0 kq 0 l0 (l0.length : Int) x8_1 = some r) ∧ Aside0 (kq ≤ k) ∧ Drawn0 w w')
 case atStart => exact ⟨(0), z4_, H', ⟨Nat.le_refl _⟩, by repeat (first | exact Drawn0.refl _ | apply Drawn0.step)⟩
 case round =>
  clear H'
  try clear c1
  obtain ⟨x8_1, rfl, HA, HK1, ⟨m1, rfl⟩⟩ := hrel
  cases gk with
  | zero => exact absurd HA.out (by simp [cmp_Or_int.l0])
  | succ k1 =>
   have H := HA.out
   clear HA
   simp only [cmp_Or_int.l0] at H
   by_cases c2 : x8_1 < (l0.length : Int)
   rotate_left
   ·
    rw [if_neg c2] at H
    have c2b0 : decide (x8_1 < (l0.length : Int)) = false := decide_eq_false c2
    clear c2
    obtain rfl := Option.some.inj H
    go_wp2
    go_ret
    exact ⟨z4_, by repeat (first | exact Drawn0.refl _ | apply Drawn0.step)⟩
   rw [if_pos c2] at H
   have c2b0 : decide (x8_1 < (l0.length : Int)) = true := decide_eq_true c2
   clear c2
   by_cases c3 : 0 ≤ x8_1
   rotate_left
   ·
    rw [if_neg c3] at H
    exact absurd H (by simp)
   rw [if_pos c3] at H
   have c3b0 : decide (0 ≤ x8_1) = true := decide_eq_true c3
   clear c3
   by_cases c4 : x8_1 < (l0.length : Int)
   rotate_left
   ·
    rw [if_neg c4] at H
    exact absurd H (by simp)
   rw [if_pos c4] at H
   have c4b0 : decide (x8_1 < (l0.length : Int)) = true := decide_eq_true c4
   clear c4
   by_cases c5 : (rd l0 x8_1) = 0
   rotate_left
   ·
    rw [if_neg c5] at H
    have c5b0 : ((rd l0 x8_1) == 0) = false := beq_eq_false_iff_ne.mpr c5
    have c5b1 : ((rd l0 x8_1) != 0) = true := bne_iff_ne.mpr c5
    obtain rfl := Option.some.inj H
    have p308 : 0 ≤ (x8_1 : Int) := of_decide_eq_true z1_
    have q308 : x8_1 < (l0.length : Int) := of_decide_eq_true z1_
    obtain ⟨ad308, e308, hx308_0⟩ := Kd.at_int HR0.out x8_1 p308 q308
    cases e308
    replace p308 := eq_true p308
    replace q308 := eq_true q308
    go_wp2
    go_ret
    exact ⟨z4_, by repeat (first | exact Drawn0.refl _ | apply Drawn0.step)⟩
   rw [if_pos c5] at H
   have c5b0 : ((rd l0 x8_1) == 0) = true := beq_iff_eq.mpr c5
   have c5b1 : ((rd l0 x8_1) != 0) = false := bne_eq_false_iff_eq.mpr c5
   clear c5
   have H' := mk_ H
   clear H
   have p308 : 0 ≤ (x8_1 : Int) := of_decide_eq_true z1_
   have q308 : x8_1 < (l0.length : Int) := of_decide_eq_true z1_
   obtain ⟨ad308, e308, hx308_0⟩ := Kd.at_int HR0.out x8_1 p308 q308
   cases e308
   replace p308 := eq_true p308
   replace q308 := eq_true q308
   go_wp2
   go_roundg k1
   case measure => have := HK1.out; omega
   case rel => exact ⟨(wrap64 (x8_1 + 1)), z4_, H', ⟨by have := HK1.out; omega⟩, by repeat (first | exact Drawn0.refl _ | apply Drawn0.step)⟩
def cmp_isNaN_int.f (a0 : Int) : Option (Bool) := some (a0 != a0)
theorem cmp_isNaN_int.calls (a0 : Int) (r : Bool) (w : World) (h : cmp_isNaN_int.f a0 = some r) :
  Calls Try.prog 123 #[.int .i64 a0] w fun e w' => e = .returned (.bool r) ∧ Drawn0 w w' := by
 have H : (some (a0 != a0)) = some r := h
 clear h
 obtain rfl := Option.some.inj H
 go_enter Try.func123, Try.ntmps123
 go_wp2
 go_ret
 exact ⟨z4_, by repeat (first | exact Drawn0.refl _ | apply Drawn0.step)⟩
end Go.Proofs.Ytjnjfogfpmeacaa.PAll
end
section
namespace Go.Proofs.Ytjnjfogfpmeacaa.PAll
open Go.RowKit PrintWords PrintLast PrintMore ZipT PrintWords.Kd PrintMore.Kd
attribute [local go_sem] max2_int min2_int max_two min_two max_three min_three max_four min_four   -- for this text's walks alone
set_option linter.unusedVariables false
set_option linter.unusedSimpArgs false
def cmp_Compare_int.f (a0 : Int) (a1 : Int) : Option (Int) := (cmp_isNaN_int.f a0).bind fun t309 => ((cmp_isNaN_int.f a1).bind fun t310 => (if t309 = true then (if t310 = true then (some 0) else (some (-1))) else (if t310 = true then (some 1) else (if a0 < a1 then (some (-1)) else (if a0 > a1 then (some 1) else (some 0))))))
theorem cmp_Compare_int.calls (a0 : Int) (a1 : Int) (r : Int) (w : World) (h : cmp_Compare_int.f a0 a1 = some r) :
  Calls Try.prog 122 #[.int .i64 a0, .int .i64 a1] w fun e w' => e = .returned (.int .i64 r) ∧ Drawn0 w w' := by
 have H : ((cmp_isNaN_int.f a0).bind fun t309 => ((cmp_isNaN_int.f a1).bind fun t310 => (if t309 = true then (if t310 = true then (some 0) else (some (-1))) else (if t310 = true then (some 1) else (if a0 < a1 then (some (-1)) else (if a0 > a1 then (some 1) else (some 0))))))) = some r := h
 clear h
 obtain ⟨t309, A3, H⟩ := Option.bind_eq_some_iff.mp H
 replace A3 := mk_ A3
 obtain ⟨t310, A4, H⟩ := Option.bind_eq_some_iff.mp H
 replace A4 := mk_ A4
 by_cases c5 : t309 = true
 ·
  subst c5
  rw [if_pos rfl] at H
  by_cases c6 : t310 = true
  ·
   subst c6
   rw [if_pos rfl] at H
   obtain rfl := Option.some.inj H
   go_enter Try.func122, Try.ntmps122
   go_wp2_with (first | ((with_reducible refine gate_callee (f := 123) rfl ?_); refine Short.gL (some 8) Try.func123 #[.int .i64 a0] (h := ?_); (with_reducible refine (cmp_isNaN_int.calls a0 true _ A3.out).mono ?_); rintro e w' ⟨rfl, ⟨nd, rfl⟩⟩; refine ⟨_, rfl, ?_⟩) | ((with_reducible refine gate_callee (f := 123) rfl ?_); refine Short.gL (some 10) Try.func123 #[.int .i64 a1] (h := ?_); (with_reducible refine (cmp_isNaN_int.calls a1 true _ A4.out).mono ?_); rintro e w' ⟨rfl, ⟨nd, rfl⟩⟩; refine ⟨_, rfl, ?_⟩))
   go_ret
   exact ⟨z4_, by repeat (first | exact Drawn0.refl _ | apply Drawn0.step)⟩
  replace c6 := Bool.eq_false_iff.mpr c6
  subst c6
  rw [if_neg (show ¬ (false = true) by decide)] at H
  obtain rfl := Option.some.inj H
  go_enter Try.func122, Try.ntmps122
  go_wp2_with (first | ((with_reducible refine gate_callee (f := 123) rfl ?_); refine Short.gL (some 8) Try.func123 #[.int .i64 a0] (h := ?_); (with_reducible refine (cmp_isNaN_int.calls a0 true _ A3.out).mono ?_); rintro e w' ⟨rfl, ⟨nd, rfl⟩⟩; refine ⟨_, rfl, ?_⟩) | ((with_reducible refine gate_callee (f := 123) rfl ?_); refine Short.gL (some 10) Try.func123 #[.int .i64 a1] (h := ?_); (with_reducible refine (cmp_isNaN_int.calls a1 false _ A4.out).mono ?_); rintro e w' ⟨rfl, ⟨nd, rfl⟩⟩; refine ⟨_, rfl, ?_⟩))
  go_ret
  exact ⟨z4_, by repeat (first | exact Drawn0.refl _ | apply Drawn0.step)⟩
 replace c5 := Bool.eq_false_iff.mpr c5
 subst c5
 rw [if_neg (show ¬ (false = true) by decide)] at H
 by_cases c7 : t310 = true
 ·
  subst c7
  rw [if_pos rfl] at H
  obtain rfl := Option.some.inj H
  go_enter Try.func122, Try.ntmps122
  go_wp2_with (first | ((with_reducible refine gate_callee (f := 123) rfl ?_); refine Short.gL (some 8) Try.func123 #[.int .i64 a0] (h := ?_); (with_reducible refine (cmp_isNaN_int.calls a0 false _ A3.out).mono ?_); rintro e w' ⟨rfl, ⟨nd, rfl⟩⟩; refine ⟨_, rfl, ?_⟩) | ((with_reducible refine gate_callee (f := 123) rfl ?_); refine Short.gL (some 10) Try.func123 #[.int .i64 a1] (h := ?_); (with_reducible refine (cmp_isNaN_int.calls a1 true _ A4.out).mono ?_); rintro e w' ⟨rfl, ⟨nd, rfl⟩⟩; refine ⟨_, rfl, ?_⟩))
  go_ret
  exact ⟨z4_, by repeat (first | exact Drawn0.refl _ | apply Drawn0.step)⟩
 replace c7 := Bool.eq_false_iff.mpr c7
 subst c7
 rw [if_neg (show ¬ (false = true) by decide)] at H
 by_cases c8 : a0 < a1
 ·
  rw [if_pos c8] at H
  have c8b0 : decide (a0 < a1) = true := decide_eq_true c8
  clear c8
  obtain rfl := Option.some.inj H
  go_enter Try.func122, Try.ntmps122
  go_wp2_with (first | ((with_reducible refine gate_callee (f := 123) rfl ?_); refine Short.gL (some 8) Try.func123 #[.int .i64 a0] (h := ?_); (with_reducible refine (cmp_isNaN_int.calls a0 false _ A3.out).mono ?_); rintro e w' ⟨rfl, ⟨nd, rfl⟩⟩; refine ⟨_, rfl, ?_⟩) | ((with_reducible refine gate_callee (f := 123) rfl ?_); refine Short.gL (some 10) Try.func123 #[.int .i64 a1] (h := ?_); (with_reducible refine (cmp_isNaN_int.calls a1 false _ A4.out).mono ?_); rintro e w' ⟨rfl, ⟨nd, rfl⟩⟩; refine ⟨_, rfl, ?_⟩))
  go_ret
  exact ⟨z4_, by repeat (first | exact Drawn0.refl _ | apply Drawn0.step)⟩
 rw [if_neg c8] at H
 have c8b0 : decide (a0 < a1) = false := decide_eq_false c8
 clear c8
 by_cases c9 : a0 > a1
 ·
  rw [if_pos c9] at H
  have c9b0 : decide (a1 < a0) = true := decide_eq_true c9
  clear c9
  obtain rfl := Option.some.inj H
  go_enter Try.func122, Try.ntmps122
  go_wp2_with (first | ((with_reducible refine gate_callee (f := 123) rfl ?_); refine Short.gL (some 8) Try.func123 #[.int .i64 a0] (h := ?_); (with_reducible refine (cmp_isNaN_int.calls a0 false _ A3.out).mono ?_); rintro e w' ⟨rfl, ⟨nd, rfl⟩⟩; refine ⟨_, rfl, ?_⟩) | ((with_reducible refine gate_callee (f := 123) rfl ?_); refine Short.gL (some 10) Try.func123 #[.int .i64 a1] (h := ?_); (with_reducible refine (cmp_isNaN_int.calls a1 false _ A4.out).mono ?_); rintro e w' ⟨rfl, ⟨nd, rfl⟩⟩; refine ⟨_, rfl, ?_⟩))
  go_ret
  exact ⟨z4_, by repeat (first | exact Drawn0.refl _ | apply Drawn0.step)⟩
 rw [if_neg c9] at H
 have c9b0 : decide (a1 < a0) = false := decide_eq_false c9
 clear c9
 obtain rfl := Option.some.inj H
 go_enter Try.func122, Try.ntmps122
 go_wp2_with (first | ((with_reducible refine gate_callee (f := 123) rfl ?_); refine Short.gL (some 8) Try.func123 #[.int .i64 a0] (h := ?_); (with_reducible refine (cmp_isNaN_int.calls a0 false _ A3.out).mono ?_); rintro e w' ⟨rfl, ⟨nd, rfl⟩⟩; refine ⟨_, rfl, ?_⟩) | ((with_reducible refine gate_callee (f := 123) rfl ?_); refine Short.gL (some 10) Try.func123 #[.int .i64 a1] (h := ?_); (with_reducible refine (cmp_isNaN_int.calls a1 false _ A4.out).mono ?_); rintro e w' ⟨rfl, ⟨nd, rfl⟩⟩; refine ⟨_, rfl, ?_⟩))
 go_ret
 exact ⟨z4_, by repeat (first | exact Drawn0.refl _ | apply Drawn0.step)⟩
def dot_Compare.f (k : Nat) (a0_0 : Int) (a0_1 : Int) (a1_0 : Int) (a1_1 : Int) : Option (Int) := (cmp_Compare_int.f a0_0 a1_0).bind fun t313 => ((cmp_Compare_int.f a0_1 a1_1).bind fun t314 => ((cmp_Or_int.f k (([t313, t314] : List Int))).bind fun t318 => (some t318)))
def dot_Compare.T1 : Bool × List (List Nat × List Nat) := (true, [([], []), ([0], [0]), ([], []), ([2], [2]), ([1, 3], [1, 3]), ([], []), ([5], [5]), ([], []), ([7], [7]), ([6, 8, 4], [6, 8]), ([4, 9], [4, 9]), ([10, 9], [10]), ([11, 11, 0, 1, 2, 3, 4, 5, 6, 7, 8, 9, 10, 11], [11])])
def dot_Compare.B1 : List Nat := [0, 1, 0, 4, 15, 0, 32, 0, 128, 511, 1023, 2047, 4095]
theorem dot_Compare.tab1 : rtab .any (opsOf Try.f118 1) = dot_Compare.T1 := by kernel_rfl
theorem dot_Compare.bits1 : waitsOk dot_Compare.T1.2 dot_Compare.B1 = true := by kernel_rfl
theorem dot_Compare.calls (k : Nat) (a0_0 : Int) (a0_1 : Int) (a1_0 : Int) (a1_1 : Int) (r : Int) (w : World) (h : dot_Compare.f k a0_0 a0_1 a1_0 a1_1 = some r) :
  Calls Try.prog 118 #[.agg #[.int .i64 a0_0, .int .i64 a0_1], .agg #[.int .i64 a1_0, .int .i64 a1_1]] w fun e w' => e = .returned (.int .i64 r) ∧ Below w.heap.size w w' := by
 have hu25 := Try.underlying25
 have HB := mk_ (Below.refl w.heap.size w)
 have H : ((cmp_Compare_int.f a0_0 a1_0).bind fun t313 => ((cmp_Compare_int.f a0_1 a1_1).bind fun t314 => ((cmp_Or_int.f k (([t313, t314] : List Int))).bind fun t318 => (some t318)))) = some r := h
 clear h
 obtain ⟨t313, A3, H⟩ := Option.bind_eq_some_iff.mp H
 replace A3 := mk_ A3
 obtain ⟨t314, A4, H⟩ := Option.bind_eq_some_iff.mp H
 replace A4 := mk_ A4
 obtain ⟨y315, hy315⟩ : ∃ y_ : List Int, y_ = (([t313, t314] : List Int)) := ⟨_, rfl⟩
 replace H : ((cmp_Or_int.f k y315).bind fun t318 => (some t318)) = some r := by first | (rw [hy315]; with_reducible exact H) | (have H2_ := (Option.bind_some _ _).symm.trans H; rw [hy315]; with_reducible exact H2_) | (have H2_ := (Option.bind_some _ _).symm.trans H; with_reducible exact H2_) | with_reducible exact H | (rw [hy315]; exact H) | exact H
 have Ny315 := mk_ hy315
 clear hy315
 obtain ⟨t318, A5, H⟩ := Option.bind_eq_some_iff.mp H
 replace A5 := mk_ A5
 obtain rfl := Option.some.inj H
 go_enter Try.func118, Try.ntmps118
 try go_wp2_with (first | ((with_reducible refine gate_dst (N := 2) rfl ?_); refine box_event ?hg (N := 2) ?hd (cs := #[.int .i64 a0_0, .int .i64 a0_1]) (t := 25) ?hr ?_; (case hd => rfl); (case hg => rfl); (case hr => first | (go_simp; done) | (go_simp; rfl)); intro gb311 hg w6 hbox hb; have n0_ := mk_ (below_step (Short.hB HB) hb); have n1_ := mk_ (hbox); have n2_ := mk_ ((by rw [hg]; exact (below_size (Short.hB HB)) : w.heap.size ≤ gb311)); have n3_ := mk_ ((by rw [hg]; exact (below_size (Short.hB HB)) : w.heap.size ≤ gb311)); clear HB; revert n0_ n1_ n2_ n3_; intro HB BK311 GW311 GE311; clear hb hbox hg) | ((with_reducible refine gate_dst (N := 3) rfl ?_); refine box_event ?hg (N := 3) ?hd (cs := #[.int .i64 a1_0, .int .i64 a1_1]) (t := 25) ?hr ?_; (case hd => rfl); (case hg => rfl); (case hr => first | (go_simp; done) | (go_simp; rfl)); intro gb312 hg w7 hbox hb; have n0_ := mk_ (bB_ BK311 hb); have n1_ := mk_ (below_step (Short.hB HB) hb); have n2_ := mk_ (hbox); have n3_ := mk_ ((by rw [hg]; exact (below_size (Short.hB HB)) : w.heap.size ≤ gb312)); have n4_ := mk_ ((by rw [hg]; exact (below_size (Short.hB HB)) : w.heap.size ≤ gb312)); have n5_ := mk_ ((by rw [hg]; exact Nat.ne_of_lt (blk_lt (Short.bK BK311)) : gb311 ≠ gb312)); have n6_ := mk_ ((by rw [hg]; exact Nat.ne_of_gt (blk_lt (Short.bK BK311)) : gb312 ≠ gb311)); clear BK311 HB; revert n0_ n1_ n2_ n3_ n4_ n5_ n6_; intro BK311 HB BK312 GW312 GE312 NB311_312 NB312_311; clear hb hbox hg))
 have n0_ := mk_ (blk_drew BK311.out)
 have n1_ := mk_ (blk_drew BK312.out)
 have n2_ := mk_ (below_drew1 HB.out)
 clear BK311 BK312 HB
 revert n0_ n1_ n2_
 intro BK311 BK312 HB
 refine start_ (n := 13) (S := fun w' => w'.cell? ⟨gb311, 0, none⟩ = some (.int .i64 a0_0) ∧ w'.cell? ⟨gb311, 1, none⟩ = some (.int .i64 a0_1) ∧ w'.cell? ⟨gb312, 0, none⟩ = some (.int .i64 a1_0) ∧ w'.cell? ⟨gb312, 1, none⟩ = some (.int .i64 a1_1)) (ds := []) (Steps.Bs 13 0) z0_ rfl rfl ⟨kc_ BK311 0, kc_ BK311 1, kc_ BK312 0, kc_ BK312 1⟩ (fun hHeld => ?_); refine with_tabW dot_Compare.tab1 dot_Compare.bits1 (fun HT_ HW_ => ?_)
 generalize w7.drew = w8 at BK311 BK312 HB hHeld ⊢
 refine tI HT_ 0 5 13 1 ?_
 refine tI HT_ 2 7 13 5 ?_
 refine tI HT_ 5 10 13 37 ?_
 refine tI HT_ 7 12 13 165 ?_
 refine tT HT_ HW_ hHeld 1 6 13 167 ?_
 refine tT HT_ HW_ hHeld 3 8 13 175 ?_
 refine tT HT_ HW_ hHeld 6 11 13 239 ?_
 refine tT HT_ HW_ hHeld 8 13 13 495 ?_
 refine one_ (i := 4) (N := some 9) (Steps.Bs 13 511) rfl rfl (one_of HT_.out z0_) z5_ (fun K hK => ?_)
 refine goes_ Try.func122 z0_ rfl #[.int .i64 a0_0, .int .i64 a1_0] (by rfl) rfl rfl z2_ ?_
 with_reducible refine (cmp_Compare_int.calls a0_0 a1_0 t313 _ A3.out).mono ?_
 rintro e w' ⟨rfl, ⟨nd, rfl⟩⟩
 refine ⟨_, rfl, ?_⟩
 refine hK.out _ _ ⟨kc_ BK311 0, kc_ BK311 1, kc_ BK312 0, kc_ BK312 1⟩ (fun hHeld => ?_)
 clear hK K
 refine nrm 9 ?_
 refine one_ (i := 9) (N := some 14) (Steps.Bs 13 1023) rfl rfl (one_of HT_.out z0_) z5_ (fun K hK => ?_)
 refine goes_ Try.func122 z0_ rfl #[.int .i64 a0_1, .int .i64 a1_1] (by rfl) rfl rfl z2_ ?_
 with_reducible refine (cmp_Compare_int.calls a0_1 a1_1 t314 _ A4.out).mono ?_
 rintro e w' ⟨rfl, ⟨nd, rfl⟩⟩
 refine ⟨_, rfl, ?_⟩
 refine hK.out _ _ ⟨kc_ BK311 0, kc_ BK311 1, kc_ BK312 0, kc_ BK312 1⟩ (fun hHeld => ?_)
 clear hK K
 refine nrm 14 ?_
 refine one_ (i := 10) (N := some 15) (Steps.Bs 13 2047) rfl rfl (one_of HT_.out z0_) z5_ (fun K hK => ?_)
 refine R_lit_step (Kd.int .i64) _ 3 ?hg (N := 15) ?hd (xs := ([t313, t314] : List Int)) (inner := [.int .i64 t313, .int .i64 t314]) (ok := fun _ => True) (okp := fun _ => True) ?hr ?hp (fun _ hk => hk) trivial (Below.refl _ _) (Nat.le_refl _) (by simp) ?_; (case hd => rfl); (case hg => rfl); (case hr => first | (go_simp; done) | (go_simp; rfl)); (case hp => exact (Reps.one (show Kd.M (Kd.int .i64) _ _ _ t313 [.int .i64 t313] from rfl) (Reps.one (show Kd.M (Kd.int .i64) _ _ _ t314 [.int .i64 t314] from rfl) (Reps.none _ _))))
 intro v316 w9 ho10 hb hg_ hnew_
 clear hg_ hnew_
 (first | rw [← Ny315.out] at ho10 | (simp only [Int.reduceToNat] at ho10; rw [← Ny315.out] at ho10))
 have n0_ := mk_ (R_lower ho10 (below_size (Short.hB HB)))
 have n1_ := mk_ (bB_ BK311 hb)
 have n2_ := mk_ (bB_ BK312 hb)
 have n3_ := mk_ (below_step (Short.hB HB) hb)
 clear BK311 BK312 HB
 revert n0_ n1_ n2_ n3_
 intro HO317 BK311 BK312 HB
 clear hb ho10
 obtain ⟨Ao11, co11, eo11⟩ := R_slice HO317.out
 (first | subst eo11 | (injection eo11 with f1_ f2_ f3_; have f4_ := f1_.symm; have f5_ := f3_.symm; clear f1_ f2_ f3_; subst f4_; subst f5_))
 refine hK.out _ _ ⟨kc_ BK311 0, kc_ BK311 1, kc_ BK312 0, kc_ BK312 1⟩ (fun hHeld => ?_)
 clear hK K
 refine nrm 15 ?_
 refine one_ (i := 11) (N := some 16) (Steps.Bs 13 4095) rfl rfl (one_of HT_.out z0_) z5_ (fun K hK => ?_)
 refine goes_ Try.func121 z0_ rfl #[.slice Ao11 y315.length co11] (by rfl) rfl rfl z2_ ?_
 with_reducible refine (cmp_Or_int.calls k _ _ y315 t318 _ ?side1 ?side2 A5.out).mono ?_
 (case side1 => exact cX_ (R_reads' HO317.out).2.2)
 (case side2 => exact (R_reads' HO317.out).2.1)
 rintro e w' ⟨rfl, ⟨nd, rfl⟩⟩
 refine ⟨_, rfl, ?_⟩
 refine hK.out _ _ ⟨kc_ BK311 0, kc_ BK311 1, kc_ BK312 0, kc_ BK312 1⟩ (fun hHeld => ?_)
 clear hK K
 refine nrm 16 ?_
 refine tI HT_ 12 4 13 8191 ?_
 refine done_ (done_of HT_.out z0_) ?_
 try go_wp2
 go_ret
 exact ⟨q0, Short.hB HB⟩
def dot_Less.f (k : Nat) (a0_0 : Int) (a0_1 : Int) (a1_0 : Int) (a1_1 : Int) : Option (Bool) := (dot_Compare.f k a0_0 a0_1 a1_0 a1_1).bind fun t321 => (some (decide (t321 < 0)))
theorem dot_Less.calls (k : Nat) (a0_0 : Int) (a0_1 : Int) (a1_0 : Int) (a1_1 : Int) (r : Bool) (w : World) (h : dot_Less.f k a0_0 a0_1 a1_0 a1_1 = some r) :
  Calls Try.prog 105 #[.agg #[.int .i64 a0_0, .int .i64 a0_1], .agg #[.int .i64 a1_0, .int .i64 a1_1]] w fun e w' => e = .returned (.bool r) ∧ Below w.heap.size w w' := by
 have hu25 := Try.underlying25
 have HB := mk_ (Below.refl w.heap.size w)
 have H : ((dot_Compare.f k a0_0 a0_1 a1_0 a1_1).bind fun t321 => (some (decide (t321 < 0)))) = some r := h
 clear h
 obtain ⟨t321, A3, H⟩ := Option.bind_eq_some_iff.mp H
 replace A3 := mk_ A3
 obtain rfl := Option.some.inj H
 go_enter Try.func105, Try.ntmps105
 go_wp2_with (first | ((with_reducible refine gate_dst (N := 2) rfl ?_); refine box_event ?hg (N := 2) ?hd (cs := #[.int .i64 a0_0, .int .i64 a0_1]) (t := 25) ?hr ?_; (case hd => rfl); (case hg => rfl); (case hr => first | (go_simp; done) | (go_simp; rfl)); intro gb319 hg w4 hbox hb; have n0_ := mk_ (below_step (Short.hB HB) hb); have n1_ := mk_ (hbox); have n2_ := mk_ ((by rw [hg]; exact (below_size (Short.hB HB)) : w.heap.size ≤ gb319)); have n3_ := mk_ ((by rw [hg]; exact (below_size (Short.hB HB)) : w.heap.size ≤ gb319)); clear HB; revert n0_ n1_ n2_ n3_; intro HB BK319 GW319 GE319; clear hb hbox hg) | ((with_reducible refine gate_dst (N := 3) rfl ?_); refine box_event ?hg (N := 3) ?hd (cs := #[.int .i64 a1_0, .int .i64 a1_1]) (t := 25) ?hr ?_; (case hd => rfl); (case hg => rfl); (case hr => first | (go_simp; done) | (go_simp; rfl)); intro gb320 hg w5 hbox hb; have n0_ := mk_ (bB_ BK319 hb); have n1_ := mk_ (below_step (Short.hB HB) hb); have n2_ := mk_ (hbox); have n3_ := mk_ ((by rw [hg]; exact (below_size (Short.hB HB)) : w.heap.size ≤ gb320)); have n4_ := mk_ ((by rw [hg]; exact (below_size (Short.hB HB)) : w.heap.size ≤ gb320)); have n5_ := mk_ ((by rw [hg]; exact Nat.ne_of_lt (blk_lt (Short.bK BK319)) : gb319 ≠ gb320)); have n6_ := mk_ ((by rw [hg]; exact Nat.ne_of_gt (blk_lt (Short.bK BK319)) : gb320 ≠ gb319)); clear BK319 HB; revert n0_ n1_ n2_ n3_ n4_ n5_ n6_; intro BK319 HB BK320 GW320 GE320 NB319_320 NB320_319; clear hb hbox hg; have hnb6 := NB319_320.out; have hnc6 := NB320_319.out; obtain ⟨hcz_0, hcz_1, hfz_0, hfz_1⟩ := Short.c2 BK319.out; obtain ⟨hcz_0, hcz_1, hfz_0, hfz_1⟩ := Short.c2 BK320.out) | ((with_reducible refine gate_callee (f := 118) rfl ?_); refine Short.gL (some 7) Try.func118 #[.agg #[.int .i64 a0_0, .int .i64 a0_1], .agg #[.int .i64 a1_0, .int .i64 a1_1]] (h := ?_); (with_reducible refine (dot_Compare.calls k a0_0 a0_1 a1_0 a1_1 t321 _ A3.out).mono ?_); rintro e w9 ⟨rfl, hb⟩; refine ⟨_, rfl, ?_⟩; have n0_ := mk_ (bB_ BK319 hb); have n1_ := mk_ (bB_ BK320 hb); have n2_ := mk_ (below_step (Short.hB HB) hb); clear BK319 BK320 HB; revert n0_ n1_ n2_; intro BK319 BK320 HB; (try clear hb)))
 go_ret
 exact ⟨q0, Short.hB HB⟩
end Go.Proofs.Ytjnjfogfpmeacaa.PAll
end
section
namespace Go.Proofs.Ytjnjfogfpmeacaa.PAll
open Go.RowKit PrintWords PrintLast PrintMore ZipT PrintWords.Kd PrintMore.Kd
attribute [local go_sem] max2_int min2_int max_two min_two max_three min_three max_four min_four   -- for this text's walks alone
set_option linter.unusedVariables false
set_option linter.unusedSimpArgs false
def op_had.l0 : Nat → List Int → List (S25) → List (S25) → Int → Int → Option (Bool)
 | 0, _, _, _, _, _ => none
 | k + 1, x0, x1, x7, x8, x9 => if x9 < x8 then (if 0 ≤ x9 then (if x9 < (x7.length : Int) then ((dot_Has.f x0 ((rd_T25 x7 x9).f0) ((rd_T25 x7 x9).f1)).bind fun t324 => (if t324 = true then (if x9 > 0 then (if 0 ≤ (wrap64 (x9 - 1)) then (if (wrap64 (x9 - 1)) < (x1.length : Int) then ((dot_Less.f k ((rd_T25 x1 (wrap64 (x9 - 1))).f0) ((rd_T25 x1 (wrap64 (x9 - 1))).f1) ((rd_T25 x7 x9).f0) ((rd_T25 x7 x9).f1)).bind fun t326 => (if t326 = true then (op_had.l0 k x0 x1 x7 x8 (wrap64 (x9 + 1))) else (some false))) else (none)) else (none)) else (op_had.l0 k x0 x1 x7 x8 (wrap64 (x9 + 1)))) else (some false))) else (none)) else (none)) else (some true)
def op_had.f (k : Nat) (l0 : List Int) (l1 : List (S25)) : Option (Bool) := op_had.l0 k l0 l1 l1 (l1.length : Int) 0
def op_had.T4 : Bool × List (List Nat × List Nat) := (true, [([], []), ([], []), ([0, 1], [0, 1]), ([2], [2]), ([3, 2], [3]), ([4], [4]), ([5, 4], [4, 5]), ([6, 4, 4], [4, 6]), ([7], [7]), ([7], [7]), ([9, 7], [7, 9]), ([8, 10, 7], [7, 8, 10]), ([11, 7], [7, 11]), ([7], [7]), ([12, 13, 7, 7], [7, 12, 13]), ([14, 7], [7, 14]), ([7, 15, 4], [4, 7, 15]), ([4, 16], [4, 16])])
def op_had.B4 : List Nat := [0, 0, 3, 7, 15, 31, 63, 127, 255, 255, 767, 2047, 4095, 255, 16383, 32767, 65535, 131071]
theorem op_had.tab4 : rtab .any (opsOf Try.f75 4) = op_had.T4 := by kernel_rfl
theorem op_had.bits4 : waitsOk op_had.T4.2 op_had.B4 = true := by kernel_rfl
theorem op_had.calls (k : Nat) (A0 : Option Addr) (c0 : Nat) (l0 : List Int) (A1 : Option Addr) (c1 : Nat) (l1 : List (S25)) (r : Bool) (w : World) (hr0 : Kd.C (Kd.int .i64) w A0 l0.length l0) (hc0 : l0.length ≤ c0) (hr1 : Kd.C k25 w A1 l1.length l1) (hc1 : l1.length ≤ c1) (h : op_had.f k l0 l1 = some r) :
  Calls Try.prog 75 #[.slice A0 l0.length c0, .slice A1 l1.length c1] w fun e w' => e = .returned (.bool r) ∧ Below w.heap.size w w' := by
 have hu25 := Try.underlying25
 have HR0 := mk_ hr0
 have HC0 := mk_ hc0
 clear hr0 hc0
 have HR1 := mk_ hr1
 have HC1 := mk_ hc1
 clear hr1 hc1
 have HB := mk_ (Below.refl w.heap.size w)
 have H : (op_had.l0 k l0 l1 l1 (l1.length : Int) 0) = some r := h
 clear h
 have H' := mk_ H
 clear H
 go_enter Try.func75, Try.ntmps75
 go_wp2
 go_loopg [9] k (fun kq v9 w' => ∃ (x9_1 : Int), v9 = .int .i64 x9_1 ∧ Aside0 (op_had.l0 kq l0 l1 l1 (l1.length : Int) x9_1 = some r) ∧ Aside0 (kq ≤ k) ∧ Aside0 (Below w.heap.size w w'))
 case atStart => exact ⟨(0), z4_, H', ⟨Nat.le_refl _⟩, ⟨Short.hB HB⟩⟩
 case round =>
  clear H'
  try clear c1
  try clear p2
  obtain ⟨x9_1, rfl, HA, HK1, HB⟩ := hrel
  cases gk with
  | zero => exact absurd HA.out (by simp [op_had.l0])
  | succ k1 =>
   have H := HA.out
   clear HA
   simp only [op_had.l0] at H
   by_cases c3 : x9_1 < (l1.length : Int)
   rotate_left
   ·
    rw [if_neg c3] at H
    have c3b0 : decide (x9_1 < (l1.length : Int)) = false := decide_eq_false c3
    clear c3
    obtain rfl := Option.some.inj H
    go_wp2
    go_ret
    exact ⟨q0, Short.hB HB⟩
   rw [if_pos c3] at H
   have c3b0 : decide (x9_1 < (l1.length : Int)) = true := decide_eq_true c3
   clear c3
   by_cases c4 : 0 ≤ x9_1
   rotate_left
   ·
    rw [if_neg c4] at H
    exact absurd H (by simp)
   rw [if_pos c4] at H
   have c4b0 : decide (0 ≤ x9_1) = true := decide_eq_true c4
   clear c4
   by_cases c5 : x9_1 < (l1.length : Int)
   rotate_left
   ·
    rw [if_neg c5] at H
    exact absurd H (by simp)
   rw [if_pos c5] at H
   have c5b0 : decide (x9_1 < (l1.length : Int)) = true := decide_eq_true c5
   clear c5
   obtain ⟨t324, A6, H⟩ := Option.bind_eq_some_iff.mp H
   replace A6 := mk_ A6
   by_cases c7 : t324 = true
   rotate_left
   ·
    replace c7 := Bool.eq_false_iff.mpr c7
    subst c7
    rw [if_neg (show ¬ (false = true) by decide)] at H
    obtain rfl := Option.some.inj H
    have p322 : 0 ≤ (x9_1 : Int) := of_decide_eq_true z1_
    have q322 : x9_1 < (l1.length : Int) := of_decide_eq_true z1_
    obtain ⟨ad322, e322, hx322_0, hx322_1⟩ := at_T25 HR1.out x9_1 p322 q322
    cases e322
    replace hx322_0 := up_ HB hx322_0
    replace hx322_1 := up_ HB hx322_1
    replace p322 := eq_true p322
    replace q322 := eq_true q322
    try go_wp2_with (first | ((with_reducible refine gate_dst (N := 6) rfl ?_); refine box_event ?hg (N := 6) ?hd (cs := #[.int .i64 0, .int .i64 0]) (t := 25) ?hr ?_; (case hd => rfl); (case hg => rfl); (case hr => first | (go_simp; done) | (go_simp; rfl)); intro gb323 hg w31 hbox hb; have n0_ := mk_ (below_step (Short.hB HB) hb); have n1_ := mk_ (hbox); have n2_ := mk_ ((by rw [hg]; exact (below_size (Short.hB HB)) : w.heap.size ≤ gb323)); have n3_ := mk_ ((by rw [hg]; exact (below_size (Short.hB HB)) : w.heap.size ≤ gb323)); clear HB; revert n0_ n1_ n2_ n3_; intro HB BK323 GW323 GE323; clear hb hbox hg; obtain ⟨hcz_0, hcz_1, hfz_0, hfz_1⟩ := Short.c2 BK323.out))
    have n0_ : Aside0 (((w31.setCell ⟨gb323, 0, none⟩ (.int .i64 ((rd_T25 l1 x9_1).f0))).setCell ⟨gb323, 1, none⟩ (.int .i64 ((rd_T25 l1 x9_1).f1))).heap[gb323]? = some (.cells #[.int .i64 ((rd_T25 l1 x9_1).f0), .int .i64 ((rd_T25 l1 x9_1).f1)] 25 (0, 0))) := ⟨by (with_reducible repeat (first | refine blk_drewN ?_ _ | refine blk_drew ?_ | refine blk_alloc ?_ _)); refine blk_put (cs := #[.int .i64 ((rd_T25 l1 x9_1).f0), .int .i64 0]) ?_ 1 _ rfl; (with_reducible repeat (first | refine blk_drewN ?_ _ | refine blk_drew ?_ | refine blk_alloc ?_ _)); refine blk_put (cs := #[.int .i64 0, .int .i64 0]) ?_ 0 _ rfl; (with_reducible repeat (first | refine blk_drewN ?_ _ | refine blk_drew ?_ | refine blk_alloc ?_ _)); exact BK323.out⟩
    have n1_ : Aside0 (Below w.heap.size w ((w31.setCell ⟨gb323, 0, none⟩ (.int .i64 ((rd_T25 l1 x9_1).f0))).setCell ⟨gb323, 1, none⟩ (.int .i64 ((rd_T25 l1 x9_1).f1)))) := ⟨Short.hB HB⟩
    (try clear BK323)
    (try clear HB)
    generalize ((w31.setCell ⟨gb323, 0, none⟩ (.int .i64 ((rd_T25 l1 x9_1).f0))).setCell ⟨gb323, 1, none⟩ (.int .i64 ((rd_T25 l1 x9_1).f1))) = w33 at n0_ n1_ ⊢
    revert n0_ n1_
    intro BK323 HB
    have n0_ := mk_ (blk_drew BK323.out)
    have n1_ := mk_ (below_drew1 HB.out)
    clear BK323 HB
    revert n0_ n1_
    intro BK323 HB
    refine start_ (n := 18) (S := fun w' => w'.cell? ⟨gb323, 0, none⟩ = some (.int .i64 ((rd_T25 l1 x9_1).f0)) ∧ w'.cell? ⟨gb323, 1, none⟩ = some (.int .i64 ((rd_T25 l1 x9_1).f1))) (ds := []) (Steps.Bs 18 0) z0_ rfl rfl ⟨kc_ BK323 0, kc_ BK323 1⟩ (fun hHeld => ?_); refine with_tabW op_had.tab4 op_had.bits4 (fun HT_ HW_ => ?_)
    generalize w33.drew = w34 at BK323 HB hHeld ⊢
    refine tI HT_ 0 14 18 1 ?_
    refine tT HT_ HW_ hHeld 1 15 18 3 ?_
    refine one_ (i := 2) (N := some 16) (Steps.Bs 18 7) rfl rfl (one_of HT_.out z0_) z5_ (fun K hK => ?_)
    refine goes_ Try.func104 z0_ rfl #[.slice A0 l0.length c0, .agg #[.int .i64 ((rd_T25 l1 x9_1).f0), .int .i64 ((rd_T25 l1 x9_1).f1)]] (by rfl) rfl rfl z2_ ?_
    with_reducible refine (dot_Has.calls _ _ l0 ((rd_T25 l1 x9_1).f0) ((rd_T25 l1 x9_1).f1) false _ ?side1 ?side2 A6.out).mono ?_
    (case side1 => exact cX_ (C_below HR0.out HB.out))
    (case side2 => exact HC0.out)
    rintro e w35 ⟨rfl, hb⟩
    refine ⟨_, rfl, ?_⟩
    have n0_ := mk_ (bB_ BK323 hb)
    have n1_ := mk_ (below_step (Short.hB HB) hb)
    clear BK323 HB
    revert n0_ n1_
    intro BK323 HB
    (try clear hb)
    (try clear hb2)
    (try clear hk)
    (try clear hi)
    refine hK.out _ _ ⟨kc_ BK323 0, kc_ BK323 1⟩ (fun hHeld => ?_)
    clear hK K
    refine nrm 16 ?_
    refine tI HT_ 3 17 18 15 ?_
    refine tI HT_ 4 18 18 31 ?_
    refine tR HT_ 5 19 18 63 ?_
    refine tR HT_ 6 20 18 127 ?_
    refine tR HT_ 7 21 18 255 ?_
    refine tR HT_ 8 22 18 511 ?_
    refine tR HT_ 9 23 18 1023 ?_
    refine tR HT_ 10 24 18 2047 ?_
    refine tR HT_ 11 25 18 4095 ?_
    refine tR HT_ 12 26 18 8191 ?_
    refine tR HT_ 13 27 18 16383 ?_
    refine tR HT_ 14 28 18 32767 ?_
    refine tR HT_ 15 29 18 65535 ?_
    refine tR HT_ 16 30 18 131071 ?_
    refine tI HT_ 17 31 18 262143 ?_
    refine done_ (done_of HT_.out z0_) ?_
    try go_wp2
    go_ret
    exact ⟨q0, Short.hB HB⟩
   subst c7
   rw [if_pos rfl] at H
   by_cases c8 : x9_1 > 0
   rotate_left
   ·
    rw [if_neg c8] at H
    have c8b0 : decide (0 < x9_1) = false := decide_eq_false c8
    clear c8
    have H' := mk_ H
    clear H
    have p322 : 0 ≤ (x9_1 : Int) := of_decide_eq_true z1_
    have q322 : x9_1 < (l1.length : Int) := of_decide_eq_true z1_
    obtain ⟨ad322, e322, hx322_0, hx322_1⟩ := at_T25 HR1.out x9_1 p322 q322
    cases e322
    replace hx322_0 := up_ HB hx322_0
    replace hx322_1 := up_ HB hx322_1
    replace p322 := eq_true p322
    replace q322 := eq_true q322
    try go_wp2_with (first | ((with_reducible refine gate_dst (N := 6) rfl ?_); refine box_event ?hg (N := 6) ?hd (cs := #[.int .i64 0, .int .i64 0]) (t := 25) ?hr ?_; (case hd => rfl); (case hg => rfl); (case hr => first | (go_simp; done) | (go_simp; rfl)); intro gb323 hg w26 hbox hb; have n0_ := mk_ (below_step (Short.hB HB) hb); have n1_ := mk_ (hbox); have n2_ := mk_ ((by rw [hg]; exact (below_size (Short.hB HB)) : w.heap.size ≤ gb323)); have n3_ := mk_ ((by rw [hg]; exact (below_size (Short.hB HB)) : w.heap.size ≤ gb323)); clear HB; revert n0_ n1_ n2_ n3_; intro HB BK323 GW323 GE323; clear hb hbox hg; obtain ⟨hcz_0, hcz_1, hfz_0, hfz_1⟩ := Short.c2 BK323.out))
    have n0_ : Aside0 (((w26.setCell ⟨gb323, 0, none⟩ (.int .i64 ((rd_T25 l1 x9_1).f0))).setCell ⟨gb323, 1, none⟩ (.int .i64 ((rd_T25 l1 x9_1).f1))).heap[gb323]? = some (.cells #[.int .i64 ((rd_T25 l1 x9_1).f0), .int .i64 ((rd_T25 l1 x9_1).f1)] 25 (0, 0))) := ⟨by (with_reducible repeat (first | refine blk_drewN ?_ _ | refine blk_drew ?_ | refine blk_alloc ?_ _)); refine blk_put (cs := #[.int .i64 ((rd_T25 l1 x9_1).f0), .int .i64 0]) ?_ 1 _ rfl; (with_reducible repeat (first | refine blk_drewN ?_ _ | refine blk_drew ?_ | refine blk_alloc ?_ _)); refine blk_put (cs := #[.int .i64 0, .int .i64 0]) ?_ 0 _ rfl; (with_reducible repeat (first | refine blk_drewN ?_ _ | refine blk_drew ?_ | refine blk_alloc ?_ _)); exact BK323.out⟩
    have n1_ : Aside0 (Below w.heap.size w ((w26.setCell ⟨gb323, 0, none⟩ (.int .i64 ((rd_T25 l1 x9_1).f0))).setCell ⟨gb323, 1, none⟩ (.int .i64 ((rd_T25 l1 x9_1).f1)))) := ⟨Short.hB HB⟩
    (try clear BK323)
    (try clear HB)
    generalize ((w26.setCell ⟨gb323, 0, none⟩ (.int .i64 ((rd_T25 l1 x9_1).f0))).setCell ⟨gb323, 1, none⟩ (.int .i64 ((rd_T25 l1 x9_1).f1))) = w28 at n0_ n1_ ⊢
    revert n0_ n1_
    intro BK323 HB
    have n0_ := mk_ (blk_drew BK323.out)
    have n1_ := mk_ (below_drew1 HB.out)
    clear BK323 HB
    revert n0_ n1_
    intro BK323 HB
    refine start_ (n := 18) (S := fun w' => w'.cell? ⟨gb323, 0, none⟩ = some (.int .i64 ((rd_T25 l1 x9_1).f0)) ∧ w'.cell? ⟨gb323, 1, none⟩ = some (.int .i64 ((rd_T25 l1 x9_1).f1))) (ds := []) (Steps.Bs 18 0) z0_ rfl rfl ⟨kc_ BK323 0, kc_ BK323 1⟩ (fun hHeld => ?_); refine with_tabW op_had.tab4 op_had.bits4 (fun HT_ HW_ => ?_)
    generalize w28.drew = w29 at BK323 HB hHeld ⊢
    refine tI HT_ 0 14 18 1 ?_
    refine tT HT_ HW_ hHeld 1 15 18 3 ?_
    refine one_ (i := 2) (N := some 16) (Steps.Bs 18 7) rfl rfl (one_of HT_.out z0_) z5_ (fun K hK => ?_)
    refine goes_ Try.func104 z0_ rfl #[.slice A0 l0.length c0, .agg #[.int .i64 ((rd_T25 l1 x9_1).f0), .int .i64 ((rd_T25 l1 x9_1).f1)]] (by rfl) rfl rfl z2_ ?_
    with_reducible refine (dot_Has.calls _ _ l0 ((rd_T25 l1 x9_1).f0) ((rd_T25 l1 x9_1).f1) true _ ?side1 ?side2 A6.out).mono ?_
    (case side1 => exact cX_ (C_below HR0.out HB.out))
    (case side2 => exact HC0.out)
    rintro e w30 ⟨rfl, hb⟩
    refine ⟨_, rfl, ?_⟩
    have n0_ := mk_ (bB_ BK323 hb)
    have n1_ := mk_ (below_step (Short.hB HB) hb)
    clear BK323 HB
    revert n0_ n1_
    intro BK323 HB
    (try clear hb)
    (try clear hb2)
    (try clear hk)
    (try clear hi)
    refine hK.out _ _ ⟨kc_ BK323 0, kc_ BK323 1⟩ (fun hHeld => ?_)
    clear hK K
    refine nrm 16 ?_
    refine tI HT_ 3 17 18 15 ?_
    refine tI HT_ 4 18 18 31 ?_
    refine tI HT_ 5 19 18 63 ?_
    refine tI HT_ 6 20 18 127 ?_
    refine tI HT_ 7 21 18 255 ?_
    refine tR HT_ 8 22 18 511 ?_
    refine tR HT_ 9 23 18 1023 ?_
    refine tR HT_ 10 24 18 2047 ?_
    refine tR HT_ 11 25 18 4095 ?_
    refine tR HT_ 12 26 18 8191 ?_
    refine tR HT_ 13 27 18 16383 ?_
    refine tR HT_ 14 28 18 32767 ?_
    refine tR HT_ 15 29 18 65535 ?_
    refine tI HT_ 16 30 18 131071 ?_
    refine tI HT_ 17 31 18 262143 ?_
    refine done_ (done_of HT_.out z0_) ?_
    try go_wp2
    go_roundg k1
    case measure => have := HK1.out; omega
    case rel => exact ⟨(wrap64 (x9_1 + 1)), z4_, H', ⟨by have := HK1.out; omega⟩, ⟨Short.hB HB⟩⟩
   rw [if_pos c8] at H
   have c8b0 : decide (0 < x9_1) = true := decide_eq_true c8
   clear c8
   obtain ⟨ji9, hji9⟩ : ∃ j_ : Int, (wrap64 (x9_1 - 1)) = j_ := ⟨_, rfl⟩
   replace H : (if 0 ≤ (ji9) then (if (ji9) < (l1.length : Int) then ((dot_Less.f k1 ((rd_T25 l1 (ji9)).f0) ((rd_T25 l1 (ji9)).f1) ((rd_T25 l1 x9_1).f0) ((rd_T25 l1 x9_1).f1)).bind fun t326 => (if t326 = true then (op_had.l0 k1 l0 l1 l1 (l1.length : Int) (wrap64 (x9_1 + 1))) else (some false))) else (none)) else (none)) = some r := by first | (rw [hji9] at H; exact H) | (simp only [hji9] at H ⊢; exact H)
   (try rw [hji9] at A6)
   have hji9w : (IntKind.i64.wrap (x9_1 - 1)) = ji9 := (i64_w _).trans hji9
   by_cases c10 : 0 ≤ (ji9)
   rotate_left
   ·
    rw [if_neg c10] at H
    exact absurd H (by simp)
   rw [if_pos c10] at H
   have c10b0 : decide (0 ≤ (ji9)) = true := decide_eq_true c10
   clear c10
   by_cases c11 : (ji9) < (l1.length : Int)
   rotate_left
   ·
    rw [if_neg c11] at H
    exact absurd H (by simp)
   rw [if_pos c11] at H
   have c11b0 : decide ((ji9) < (l1.length : Int)) = true := decide_eq_true c11
   clear c11
   obtain ⟨t326, A12, H⟩ := Option.bind_eq_some_iff.mp H
   replace A12 := mk_ A12
   by_cases c13 : t326 = true
   rotate_left
   ·
    replace c13 := Bool.eq_false_iff.mpr c13
    subst c13
    rw [if_neg (show ¬ (false = true) by decide)] at H
    obtain rfl := Option.some.inj H
    have p322 : 0 ≤ (x9_1 : Int) := of_decide_eq_true z1_
    have q322 : x9_1 < (l1.length : Int) := of_decide_eq_true z1_
    obtain ⟨ad322, e322, hx322_0, hx322_1⟩ := at_T25 HR1.out x9_1 p322 q322
    cases e322
    replace hx322_0 := up_ HB hx322_0
    replace hx322_1 := up_ HB hx322_1
    replace p322 := eq_true p322
    replace q322 := eq_true q322
    try go_wp2_with (first | ((with_reducible refine gate_dst (N := 6) rfl ?_); refine box_event ?hg (N := 6) ?hd (cs := #[.int .i64 0, .int .i64 0]) (t := 25) ?hr ?_; (case hd => rfl); (case hg => rfl); (case hr => first | (go_simp; done) | (go_simp; rfl)); intro gb323 hg w20 hbox hb; have n0_ := mk_ (below_step (Short.hB HB) hb); have n1_ := mk_ (hbox); have n2_ := mk_ ((by rw [hg]; exact (below_size (Short.hB HB)) : w.heap.size ≤ gb323)); have n3_ := mk_ ((by rw [hg]; exact (below_size (Short.hB HB)) : w.heap.size ≤ gb323)); clear HB; revert n0_ n1_ n2_ n3_; intro HB BK323 GW323 GE323; clear hb hbox hg; obtain ⟨hcz_0, hcz_1, hfz_0, hfz_1⟩ := Short.c2 BK323.out))
    have n0_ : Aside0 (((w20.setCell ⟨gb323, 0, none⟩ (.int .i64 ((rd_T25 l1 x9_1).f0))).setCell ⟨gb323, 1, none⟩ (.int .i64 ((rd_T25 l1 x9_1).f1))).heap[gb323]? = some (.cells #[.int .i64 ((rd_T25 l1 x9_1).f0), .int .i64 ((rd_T25 l1 x9_1).f1)] 25 (0, 0))) := ⟨by (with_reducible repeat (first | refine blk_drewN ?_ _ | refine blk_drew ?_ | refine blk_alloc ?_ _)); refine blk_put (cs := #[.int .i64 ((rd_T25 l1 x9_1).f0), .int .i64 0]) ?_ 1 _ rfl; (with_reducible repeat (first | refine blk_drewN ?_ _ | refine blk_drew ?_ | refine blk_alloc ?_ _)); refine blk_put (cs := #[.int .i64 0, .int .i64 0]) ?_ 0 _ rfl; (with_reducible repeat (first | refine blk_drewN ?_ _ | refine blk_drew ?_ | refine blk_alloc ?_ _)); exact BK323.out⟩
    have n1_ : Aside0 (Below w.heap.size w ((w20.setCell ⟨gb323, 0, none⟩ (.int .i64 ((rd_T25 l1 x9_1).f0))).setCell ⟨gb323, 1, none⟩ (.int .i64 ((rd_T25 l1 x9_1).f1)))) := ⟨Short.hB HB⟩
    (try clear BK323)
    (try clear HB)
    generalize ((w20.setCell ⟨gb323, 0, none⟩ (.int .i64 ((rd_T25 l1 x9_1).f0))).setCell ⟨gb323, 1, none⟩ (.int .i64 ((rd_T25 l1 x9_1).f1))) = w22 at n0_ n1_ ⊢
    revert n0_ n1_
    intro BK323 HB
    have n0_ := mk_ (blk_drew BK323.out)
    have n1_ := mk_ (below_drew1 HB.out)
    clear BK323 HB
    revert n0_ n1_
    intro BK323 HB
    have p325 : 0 ≤ ((ji9) : Int) := of_decide_eq_true z1_
    have q325 : (ji9) < (l1.length : Int) := of_decide_eq_true z1_
    obtain ⟨ad325, e325, hx325_0, hx325_1⟩ := at_T25 HR1.out (ji9) p325 q325
    have hw325_1 := hx325_1
    have hw325_0 := hx325_0
    obtain rfl : ad322 = ad325 := (by injection e325)
    replace hx325_0 := up_ HB hx325_0
    replace hx325_1 := up_ HB hx325_1
    replace p325 := eq_true p325
    replace q325 := eq_true q325
    refine start_ (n := 18) (S := fun w' => w'.cell? ⟨gb323, 0, none⟩ = some (.int .i64 ((rd_T25 l1 x9_1).f0)) ∧ w'.cell? ⟨gb323, 1, none⟩ = some (.int .i64 ((rd_T25 l1 x9_1).f1)) ∧ w'.cell? (ad322.add (((ji9)).toNat * 2)) = some (.int .i64 ((rd_T25 l1 (ji9)).f0)) ∧ w'.cell? ⟨(ad322.add (((ji9)).toNat * 2)).block, (ad322.add (((ji9)).toNat * 2)).off + 1, none⟩ = some (.int .i64 ((rd_T25 l1 (ji9)).f1))) (ds := []) (Steps.Bs 18 0) z0_ rfl rfl ⟨kc_ BK323 0, kc_ BK323 1, ((HB.out.cell (World.block_lt_of_cell? w _ hw325_0)).trans hw325_0), ((HB.out.cell (World.block_lt_of_cell? w _ hw325_1)).trans hw325_1)⟩ (fun hHeld => ?_); refine with_tabW op_had.tab4 op_had.bits4 (fun HT_ HW_ => ?_)
    generalize w22.drew = w23 at BK323 HB hx325_0 hx325_1 hHeld ⊢
    refine tI HT_ 0 14 18 1 ?_
    refine tT HT_ HW_ hHeld 1 15 18 3 ?_
    refine one_ (i := 2) (N := some 16) (Steps.Bs 18 7) rfl rfl (one_of HT_.out z0_) z5_ (fun K hK => ?_)
    refine goes_ Try.func104 z0_ rfl #[.slice A0 l0.length c0, .agg #[.int .i64 ((rd_T25 l1 x9_1).f0), .int .i64 ((rd_T25 l1 x9_1).f1)]] (by rfl) rfl rfl z2_ ?_
    with_reducible refine (dot_Has.calls _ _ l0 ((rd_T25 l1 x9_1).f0) ((rd_T25 l1 x9_1).f1) true _ ?side1 ?side2 A6.out).mono ?_
    (case side1 => exact cX_ (C_below HR0.out HB.out))
    (case side2 => exact HC0.out)
    rintro e w24 ⟨rfl, hb⟩
    refine ⟨_, rfl, ?_⟩
    have n0_ := mk_ (bB_ BK323 hb)
    have n1_ := mk_ (below_step (Short.hB HB) hb)
    clear BK323 HB
    revert n0_ n1_
    intro BK323 HB
    (try clear hb)
    (try clear hb2)
    (try clear hk)
    (try clear hi)
    refine hK.out _ _ ⟨kc_ BK323 0, kc_ BK323 1, ((HB.out.cell (World.block_lt_of_cell? w _ hw325_0)).trans hw325_0), ((HB.out.cell (World.block_lt_of_cell? w _ hw325_1)).trans hw325_1)⟩ (fun hHeld => ?_)
    clear hK K
    refine nrm 16 ?_
    refine tI HT_ 3 17 18 15 ?_
    refine tI HT_ 4 18 18 31 ?_
    refine tI HT_ 5 19 18 63 ?_
    refine tI HT_ 6 20 18 127 ?_
    refine tI HT_ 7 21 18 255 ?_
    refine tI HT_ 8 22 18 511 ?_
    refine tI HT_ 9 23 18 1023 ?_
    refine tI HT_ 10 24 18 2047 ?_
    refine tI HT_ 11 25 18 4095 ?_
    refine tT HT_ HW_ hHeld 12 26 18 8191 ?_
    refine tT HT_ HW_ hHeld 13 27 18 16383 ?_
    refine one_ (i := 14) (N := some 28) (Steps.Bs 18 32767) rfl rfl (one_of HT_.out z0_) z5_ (fun K hK => ?_)
    refine goes_ Try.func105 z0_ rfl #[.agg #[.int .i64 ((rd_T25 l1 (ji9)).f0), .int .i64 ((rd_T25 l1 (ji9)).f1)], .agg #[.int .i64 ((rd_T25 l1 x9_1).f0), .int .i64 ((rd_T25 l1 x9_1).f1)]] (by rfl) rfl rfl (by (try simp only [List.map_toArray, List.map_cons, List.map_nil]); first | done | (simp only [hji9]; rfl) | rfl | (simp only [List.length_drop, List.length_take]; rfl) | (go_simp; done) | (simp; done)) ?_
    with_reducible refine (dot_Less.calls k1 ((rd_T25 l1 (ji9)).f0) ((rd_T25 l1 (ji9)).f1) ((rd_T25 l1 x9_1).f0) ((rd_T25 l1 x9_1).f1) false _ A12.out).mono ?_
    rintro e w25 ⟨rfl, hb⟩
    refine ⟨_, rfl, ?_⟩
    have n0_ := mk_ (bB_ BK323 hb)
    have n1_ := mk_ (below_step (Short.hB HB) hb)
    clear BK323 HB
    revert n0_ n1_
    intro BK323 HB
    (try clear hb)
    (try clear hb2)
    (try clear hk)
    (try clear hi)
    refine hK.out _ _ ⟨kc_ BK323 0, kc_ BK323 1, ((HB.out.cell (World.block_lt_of_cell? w _ hw325_0)).trans hw325_0), ((HB.out.cell (World.block_lt_of_cell? w _ hw325_1)).trans hw325_1)⟩ (fun hHeld => ?_)
    clear hK K
    refine nrm 28 ?_
    refine tI HT_ 15 29 18 65535 ?_
    refine tI HT_ 16 30 18 131071 ?_
    refine tI HT_ 17 31 18 262143 ?_
    refine done_ (done_of HT_.out z0_) ?_
    try go_wp2
    go_ret
    exact ⟨by first | rfl | (simp [errW_none, errW_some] <;> rfl) | (simp only [← hji9]; first | rfl | (simp [errW_none, errW_some] <;> rfl)) | (simp [*, errW_none, errW_some] <;> rfl), Short.hB HB⟩
   subst c13
   rw [if_pos rfl] at H
   have H' := mk_ H
   clear H
   have p322 : 0 ≤ (x9_1 : Int) := of_decide_eq_true z1_
   have q322 : x9_1 < (l1.length : Int) := of_decide_eq_true z1_
   obtain ⟨ad322, e322, hx322_0, hx322_1⟩ := at_T25 HR1.out x9_1 p322 q322
   cases e322
   replace hx322_0 := up_ HB hx322_0
   replace hx322_1 := up_ HB hx322_1
   replace p322 := eq_true p322
   replace q322 := eq_true q322
   try go_wp2_with (first | ((with_reducible refine gate_dst (N := 6) rfl ?_); refine box_event ?hg (N := 6) ?hd (cs := #[.int .i64 0, .int .i64 0]) (t := 25) ?hr ?_; (case hd => rfl); (case hg => rfl); (case hr => first | (go_simp; done) | (go_simp; rfl)); intro gb323 hg w14 hbox hb; have n0_ := mk_ (below_step (Short.hB HB) hb); have n1_ := mk_ (hbox); have n2_ := mk_ ((by rw [hg]; exact (below_size (Short.hB HB)) : w.heap.size ≤ gb323)); have n3_ := mk_ ((by rw [hg]; exact (below_size (Short.hB HB)) : w.heap.size ≤ gb323)); clear HB; revert n0_ n1_ n2_ n3_; intro HB BK323 GW323 GE323; clear hb hbox hg; obtain ⟨hcz_0, hcz_1, hfz_0, hfz_1⟩ := Short.c2 BK323.out))
   have n0_ : Aside0 (((w14.setCell ⟨gb323, 0, none⟩ (.int .i64 ((rd_T25 l1 x9_1).f0))).setCell ⟨gb323, 1, none⟩ (.int .i64 ((rd_T25 l1 x9_1).f1))).heap[gb323]? = some (.cells #[.int .i64 ((rd_T25 l1 x9_1).f0), .int .i64 ((rd_T25 l1 x9_1).f1)] 25 (0, 0))) := ⟨by (with_reducible repeat (first | refine blk_drewN ?_ _ | refine blk_drew ?_ | refine blk_alloc ?_ _)); refine blk_put (cs := #[.int .i64 ((rd_T25 l1 x9_1).f0), .int .i64 0]) ?_ 1 _ rfl; (with_reducible repeat (first | refine blk_drewN ?_ _ | refine blk_drew ?_ | refine blk_alloc ?_ _)); refine blk_put (cs := #[.int .i64 0, .int .i64 0]) ?_ 0 _ rfl; (with_reducible repeat (first | refine blk_drewN ?_ _ | refine blk_drew ?_ | refine blk_alloc ?_ _)); exact BK323.out⟩
   have n1_ : Aside0 (Below w.heap.size w ((w14.setCell ⟨gb323, 0, none⟩ (.int .i64 ((rd_T25 l1 x9_1).f0))).setCell ⟨gb323, 1, none⟩ (.int .i64 ((rd_T25 l1 x9_1).f1)))) := ⟨Short.hB HB⟩
   (try clear BK323)
   (try clear HB)
   generalize ((w14.setCell ⟨gb323, 0, none⟩ (.int .i64 ((rd_T25 l1 x9_1).f0))).setCell ⟨gb323, 1, none⟩ (.int .i64 ((rd_T25 l1 x9_1).f1))) = w16 at n0_ n1_ ⊢
   revert n0_ n1_
   intro BK323 HB
   have n0_ := mk_ (blk_drew BK323.out)
   have n1_ := mk_ (below_drew1 HB.out)
   clear BK323 HB
   revert n0_ n1_
   intro BK323 HB
   have p325 : 0 ≤ ((ji9) : Int) := of_decide_eq_true z1_
   have q325 : (ji9) < (l1.length : Int) := of_decide_eq_true z1_
   obtain ⟨ad325, e325, hx325_0, hx325_1⟩ := at_T25 HR1.out (ji9) p325 q325
   have hw325_1 := hx325_1
   have hw325_0 := hx325_0
   obtain rfl : ad322 = ad325 := (by injection e325)
   replace hx325_0 := up_ HB hx325_0
   replace hx325_1 := up_ HB hx325_1
   replace p325 := eq_true p325
   replace q325 := eq_true q325
   refine start_ (n := 18) (S := fun w' => w'.cell? ⟨gb323, 0, none⟩ = some (.int .i64 ((rd_T25 l1 x9_1).f0)) ∧ w'.cell? ⟨gb323, 1, none⟩ = some (.int .i64 ((rd_T25 l1 x9_1).f1)) ∧ w'.cell? (ad322.add (((ji9)).toNat * 2)) = some (.int .i64 ((rd_T25 l1 (ji9)).f0)) ∧ w'.cell? ⟨(ad322.add (((ji9)).toNat * 2)).block, (ad322.add (((ji9)).toNat * 2)).off + 1, none⟩ = some (.int .i64 ((rd_T25 l1 (ji9)).f1))) (ds := []) (Steps.Bs 18 0) z0_ rfl rfl ⟨kc_ BK323 0, kc_ BK323 1, ((HB.out.cell (World.block_lt_of_cell? w _ hw325_0)).trans hw325_0), ((HB.out.cell (World.block_lt_of_cell? w _ hw325_1)).trans hw325_1)⟩ (fun hHeld => ?_); refine with_tabW op_had.tab4 op_had.bits4 (fun HT_ HW_ => ?_)
   generalize w16.drew = w17 at BK323 HB hx325_0 hx325_1 hHeld ⊢
   refine tI HT_ 0 14 18 1 ?_
   refine tT HT_ HW_ hHeld 1 15 18 3 ?_
   refine one_ (i := 2) (N := some 16) (Steps.Bs 18 7) rfl rfl (one_of HT_.out z0_) z5_ (fun K hK => ?_)
   refine goes_ Try.func104 z0_ rfl #[.slice A0 l0.length c0, .agg #[.int .i64 ((rd_T25 l1 x9_1).f0), .int .i64 ((rd_T25 l1 x9_1).f1)]] (by rfl) rfl rfl z2_ ?_
   with_reducible refine (dot_Has.calls _ _ l0 ((rd_T25 l1 x9_1).f0) ((rd_T25 l1 x9_1).f1) true _ ?side1 ?side2 A6.out).mono ?_
   (case side1 => exact cX_ (C_below HR0.out HB.out))
   (case side2 => exact HC0.out)
   rintro e w18 ⟨rfl, hb⟩
   refine ⟨_, rfl, ?_⟩
   have n0_ := mk_ (bB_ BK323 hb)
   have n1_ := mk_ (below_step (Short.hB HB) hb)
   clear BK323 HB
   revert n0_ n1_
   intro BK323 HB
   (try clear hb)
   (try clear hb2)
   (try clear hk)
   (try clear hi)
   refine hK.out _ _ ⟨kc_ BK323 0, kc_ BK323 1, ((HB.out.cell (World.block_lt_of_cell? w _ hw325_0)).trans hw325_0), ((HB.out.cell (World.block_lt_of_cell? w _ hw325_1)).trans hw325_1)⟩ (fun hHeld => ?_)
   clear hK K
   refine nrm 16 ?_
   refine tI HT_ 3 17 18 15 ?_
   refine tI HT_ 4 18 18 31 ?_
   refine tI HT_ 5 19 18 63 ?_
   refine tI HT_ 6 20 18 127 ?_
   refine tI HT_ 7 21 18 255 ?_
   refine tI HT_ 8 22 18 511 ?_
   refine tI HT_ 9 23 18 1023 ?_
   refine tI HT_ 10 24 18 2047 ?_
   refine tI HT_ 11 25 18 4095 ?_
   refine tT HT_ HW_ hHeld 12 26 18 8191 ?_
   refine tT HT_ HW_ hHeld 13 27 18 16383 ?_
   refine one_ (i := 14) (N := some 28) (Steps.Bs 18 32767) rfl rfl (one_of HT_.out z0_) z5_ (fun K hK => ?_)
   refine goes_ Try.func105 z0_ rfl #[.agg #[.int .i64 ((rd_T25 l1 (ji9)).f0), .int .i64 ((rd_T25 l1 (ji9)).f1)], .agg #[.int .i64 ((rd_T25 l1 x9_1).f0), .int .i64 ((rd_T25 l1 x9_1).f1)]] (by rfl) rfl rfl (by (try simp only [List.map_toArray, List.map_cons, List.map_nil]); first | done | (simp only [hji9]; rfl) | rfl | (simp only [List.length_drop, List.length_take]; rfl) | (go_simp; done) | (simp; done)) ?_
   with_reducible refine (dot_Less.calls k1 ((rd_T25 l1 (ji9)).f0) ((rd_T25 l1 (ji9)).f1) ((rd_T25 l1 x9_1).f0) ((rd_T25 l1 x9_1).f1) true _ A12.out).mono ?_
   rintro e w19 ⟨rfl, hb⟩
   refine ⟨_, rfl, ?_⟩
   have n0_ := mk_ (bB_ BK323 hb)
   have n1_ := mk_ (below_step (Short.hB HB) hb)
   clear BK323 HB
   revert n0_ n1_
   intro BK323 HB
   (try clear hb)
   (try clear hb2)
   (try clear hk)
   (try clear hi)
   refine hK.out _ _ ⟨kc_ BK323 0, kc_ BK323 1, ((HB.out.cell (World.block_lt_of_cell? w _ hw325_0)).trans hw325_0), ((HB.out.cell (World.block_lt_of_cell? w _ hw325_1)).trans hw325_1)⟩ (fun hHeld => ?_)
   clear hK K
   refine nrm 28 ?_
   refine tI HT_ 15 29 18 65535 ?_
   refine tI HT_ 16 30 18 131071 ?_
   refine tI HT_ 17 31 18 262143 ?_
   refine done_ (done_of HT_.out z0_) ?_
   try go_wp2
   go_roundg k1
   case measure => have := HK1.out; omega
   case rel => exact ⟨(wrap64 (x9_1 + 1)), z4_, H', ⟨by have := HK1.out; omega⟩, ⟨Short.hB HB⟩⟩
end Go.Proofs.Ytjnjfogfpmeacaa.PAll
end
section
namespace Go.Proofs.Ytjnjfogfpmeacaa.PAll
open Go.RowKit PrintWords PrintLast PrintMore ZipT PrintWords.Kd PrintMore.Kd
attribute [local go_sem] max2_int min2_int max_two min_two max_three min_three max_four min_four   -- for this text's walks alone
set_option linter.unusedVariables false
set_option linter.unusedSimpArgs false
def op_right.j0 : Nat → List (S51) → Bool → Int → Int → List Int → Int → Int → Int → Int → Int → ByteArray → Int → List (S84) → List (S25) → Option (Bool)
 | 0, _, _, _, _, _, _, _, _, _, _, _, _, _, _ => none
 | k + 1, x1, x29, x328000, x328001, x328002, x328003, x328004, x328005, x328006, x328007, x328008, x328009, x328010, x328011 => if x29 = true then (some false) else (if 0 ≤ x328007 then (if x328007 < (x1.length : Int) then (if x328006 = 1 then ((op_small.f k x328010 ((rd_T51 x1 x328007).f0)).bind fun t331 => (if t331 = true then (if x328009 = 0 then (some ((x328011.length : Int) == 0)) else (some false)) else (some false))) else (if x328006 = 2 then (if x328009 ≥ 0 then (if x328009 < (((rd_T51 x1 x328007).f0).length : Int) then (if 0 ≤ x328009 then (if x328009 ≤ (wrap64 (x328009 + 1)) then (if (wrap64 (x328009 + 1)) ≤ (((rd_T51 x1 x328007).f0).length : Int) then ((op_small.f k x328010 ((((rd_T51 x1 x328007).f0).take ((wrap64 (x328009 + 1)) : Int).toNat).drop (x328009 : Int).toNat)).bind fun t333 => (if t333 = true then (some ((x328011.length : Int) == 0)) else (some false))) else (none)) else (none)) else (none)) else (some false)) else (some false)) else (if x328006 = 3 then (if (x328011.length : Int) ≥ 1 then (if (x328011.length : Int) ≤ 64 then ((op_had.f k x328002 x328011).bind fun t334 => (if t334 = true then (if x328009 = 0 then (some ((x328010.length : Int) == 0)) else (some false)) else (some false))) else (some false)) else (some false)) else (some false)))) else (none)) else (none))
def op_right.f (k : Nat) (a0 : Int) (l1 : List (S51)) (a2_0 : Int) (a2_1 : Int) (l2_2 : List Int) (a2_3 : Int) (a2_4 : Int) (a2_5 : Int) (a2_6 : Int) (a2_7 : Int) (a2_8 : ByteArray) (a2_9 : Int) (l2_10 : List (S84)) (l2_11 : List (S25)) : Option (Bool) := (op_whole.f k a0 a2_0 a2_1 l2_2 a2_3 a2_4 a2_5 a2_6 a2_7 a2_8 a2_9 l2_10 l2_11).bind fun t328 => (if t328 = true then (if a2_7 < 0 then (op_right.j0 k l1 true a2_0 a2_1 l2_2 a2_3 a2_4 a2_5 a2_6 a2_7 a2_8 a2_9 l2_10 l2_11) else (if a2_7 ≥ (l1.length : Int) then (op_right.j0 k l1 true a2_0 a2_1 l2_2 a2_3 a2_4 a2_5 a2_6 a2_7 a2_8 a2_9 l2_10 l2_11) else ((op_Key.f a2_8).bind fun t329 => (op_right.j0 k l1 (!t329) a2_0 a2_1 l2_2 a2_3 a2_4 a2_5 a2_6 a2_7 a2_8 a2_9 l2_10 l2_11)))) else (op_right.j0 k l1 true a2_0 a2_1 l2_2 a2_3 a2_4 a2_5 a2_6 a2_7 a2_8 a2_9 l2_10 l2_11))
def op_right.T8 : Bool × List (List Nat × List Nat) := (true, [([], []), ([0], [0]), ([1], [1]), ([2], [2]), ([3], [3]), ([4, 3], [3, 4]), ([3], [3]), ([6, 3], [3, 6]), ([5, 7, 3], [3, 5, 7]), ([3, 8], [3, 8]), ([9, 3], [9]), ([10], [10]), ([11, 10], [10, 11]), ([10], [10]), ([10], [10]), ([14, 10], [10, 14]), ([10], [10]), ([16, 10], [10, 16]), ([17, 10], [10, 17]), ([13, 15, 18, 10], [10, 13, 15, 18]), ([12, 19, 10, 10], [10, 12, 19]), ([10, 20], [10, 20]), ([21, 20], [21]), ([22], [22]), ([23, 22], [22, 23]), ([24, 22], [22, 24]), ([25, 22], [22, 25]), ([22, 26], [22, 26]), ([27, 22, 0, 1, 2, 3, 4, 5, 6, 7, 8, 9, 10, 11, 12, 13, 14, 15, 16, 17, 18, 19, 20, 21, 22, 23, 24, 25, 26, 27], [27])])
def op_right.B8 : List Nat := [0, 1, 3, 7, 15, 31, 15, 79, 255, 511, 1023, 2047, 4095, 2047, 2047, 18431, 2047, 67583, 198655, 518143, 1048575, 2097151, 4194303, 8388607, 16777215, 33554431, 67108863, 134217727, 268435455]
theorem op_right.tab8 : rtab .any (opsOf Try.f36 8) = op_right.T8 := by kernel_rfl
theorem op_right.bits8 : waitsOk op_right.T8.2 op_right.B8 = true := by kernel_rfl
theorem op_right.calls (k : Nat) (a0 : Int) (A1 : Option Addr) (c1 : Nat) (l1 : List (S51)) (a2_0 : Int) (a2_1 : Int) (A2_2 : Option Addr) (c2_2 : Nat) (l2_2 : List Int) (a2_3 : Int) (a2_4 : Int) (a2_5 : Int) (a2_6 : Int) (a2_7 : Int) (a2_8 : ByteArray) (a2_9 : Int) (A2_10 : Option Addr) (c2_10 : Nat) (l2_10 : List (S84)) (A2_11 : Option Addr) (c2_11 : Nat) (l2_11 : List (S25)) (r : Bool) (w : World) (hr1 : Kd.C k51 w A1 l1.length l1) (hc1 : l1.length ≤ c1) (hr2_2 : Kd.C (Kd.int .i64) w A2_2 l2_2.length l2_2) (hc2_2 : l2_2.length ≤ c2_2) (hr2_10 : Kd.C k84 w A2_10 l2_10.length l2_10) (hc2_10 : l2_10.length ≤ c2_10) (hr2_11 : Kd.C k25 w A2_11 l2_11.length l2_11) (hc2_11 : l2_11.length ≤ c2_11) (h : op_right.f k a0 l1 a2_0 a2_1 l2_2 a2_3 a2_4 a2_5 a2_6 a2_7 a2_8 a2_9 l2_10 l2_11 = some r) :
  Calls Try.prog 36 #[.int .i64 a0, .slice A1 l1.length c1, .agg #[.int .i64 a2_0, .int .i64 a2_1, .slice A2_2 l2_2.length c2_2, .int .i64 a2_3, .int .i64 a2_4, .int .i64 a2_5, .int .i64 a2_6, .int .i64 a2_7, .string a2_8, .int .i64 a2_9, .slice A2_10 l2_10.length c2_10, .slice A2_11 l2_11.length c2_11]] w fun e w' => e = .returned (.bool r) ∧ Below w.heap.size w w' := by
 have hu32 := Try.underlying32
 have HR1 := mk_ hr1
 have HC1 := mk_ hc1
 clear hr1 hc1
 have HR2_2 := mk_ hr2_2
 have HC2_2 := mk_ hc2_2
 clear hr2_2 hc2_2
 have HR2_10 := mk_ hr2_10
 have HC2_10 := mk_ hc2_10
 clear hr2_10 hc2_10
 have HR2_11 := mk_ hr2_11
 have HC2_11 := mk_ hc2_11
 clear hr2_11 hc2_11
 have HB := mk_ (Below.refl w.heap.size w)
 have H : ((op_whole.f k a0 a2_0 a2_1 l2_2 a2_3 a2_4 a2_5 a2_6 a2_7 a2_8 a2_9 l2_10 l2_11).bind fun t328 => (if t328 = true then (if a2_7 < 0 then (op_right.j0 k l1 true a2_0 a2_1 l2_2 a2_3 a2_4 a2_5 a2_6 a2_7 a2_8 a2_9 l2_10 l2_11) else (if a2_7 ≥ (l1.length : Int) then (op_right.j0 k l1 true a2_0 a2_1 l2_2 a2_3 a2_4 a2_5 a2_6 a2_7 a2_8 a2_9 l2_10 l2_11) else ((op_Key.f a2_8).bind fun t329 => (op_right.j0 k l1 (!t329) a2_0 a2_1 l2_2 a2_3 a2_4 a2_5 a2_6 a2_7 a2_8 a2_9 l2_10 l2_11)))) else (op_right.j0 k l1 true a2_0 a2_1 l2_2 a2_3 a2_4 a2_5 a2_6 a2_7 a2_8 a2_9 l2_10 l2_11))) = some r := h
 clear h
 have HC4 := mk_ H
 clear H
 go_enter Try.func36, Try.ntmps36
 go_upto_region 1 with (first | ((with_reducible refine gate_dst (N := 5) rfl ?_); (try (refine gate_guard (by rfl) ?_; dsimp only)); refine box_event ?hg (N := 5) ?hd (cs := #[.int .i64 a2_0, .int .i64 a2_1, .slice A2_2 l2_2.length c2_2, .int .i64 a2_3, .int .i64 a2_4, .int .i64 a2_5, .int .i64 a2_6, .int .i64 a2_7, .string a2_8, .int .i64 a2_9, .slice A2_10 l2_10.length c2_10, .slice A2_11 l2_11.length c2_11]) (t := 32) ?hr ?_; (case hd => rfl); (case hg => rfl); (case hr => first | (go_simp; done) | (go_simp; rfl)); intro gb327 hg w5 hbox hb; have n0_ := mk_ (below_step (Short.hB HB) hb); have n1_ := mk_ (hbox); have n2_ := mk_ ((by rw [hg]; exact (below_size (Short.hB HB)) : w.heap.size ≤ gb327)); have n3_ := mk_ ((by rw [hg]; exact (below_size (Short.hB HB)) : w.heap.size ≤ gb327)); clear HB; revert n0_ n1_ n2_ n3_; intro HB BK327 GW327 GE327; clear hb hbox hg))
 (try simp only [Act.put, List.setIfInBounds_toArray, List.set_cons_zero, List.set_cons_succ])
 go_cut [29] (fun v29 wc => ∃ (kq : Nat) (x29_3 : Bool), v29 = .bool x29_3 ∧ Aside0 (op_right.j0 kq l1 x29_3 a2_0 a2_1 l2_2 a2_3 a2_4 a2_5 a2_6 a2_7 a2_8 a2_9 l2_10 l2_11 = some r) ∧ Aside0 (kq ≤ k) ∧ Aside0 (wc.heap[gb327]? = some (.cells #[.int .i64 a2_0, .int .i64 a2_1, (.slice A2_2 l2_2.length c2_2), .int .i64 a2_3, .int .i64 a2_4, .int .i64 a2_5, .int .i64 a2_6, .int .i64 a2_7, .string a2_8, .int .i64 a2_9, (.slice A2_10 l2_10.length c2_10), (.slice A2_11 l2_11.length c2_11)] 32 (0, 0))) ∧ Aside0 (Below w.heap.size w wc))
 case first =>
  have H := HC4.out
  clear HC4
  obtain ⟨t328, A6, H⟩ := Option.bind_eq_some_iff.mp H
  replace A6 := mk_ A6
  by_cases c7 : t328 = true
  rotate_left
  ·
   replace c7 := Bool.eq_false_iff.mpr c7
   subst c7
   rw [if_neg (show ¬ (false = true) by decide)] at H
   have H' := mk_ H
   clear H
   have hcz20_0 : w5.cell? ⟨gb327, 0, none⟩ = some (.int .i64 a2_0) := kc_ BK327 0
   have hcz20_1 : w5.cell? ⟨gb327, 1, none⟩ = some (.int .i64 a2_1) := kc_ BK327 1
   have hcz20_2 : w5.cell? ⟨gb327, 2, none⟩ = some (.slice A2_2 l2_2.length c2_2) := kc_ BK327 2
   have hcz20_3 : w5.cell? ⟨gb327, 3, none⟩ = some (.int .i64 a2_3) := kc_ BK327 3
   have hcz20_4 : w5.cell? ⟨gb327, 4, none⟩ = some (.int .i64 a2_4) := kc_ BK327 4
   have hcz20_5 : w5.cell? ⟨gb327, 5, none⟩ = some (.int .i64 a2_5) := kc_ BK327 5
   have hcz20_6 : w5.cell? ⟨gb327, 6, none⟩ = some (.int .i64 a2_6) := kc_ BK327 6
   have hcz20_7 : w5.cell? ⟨gb327, 7, none⟩ = some (.int .i64 a2_7) := kc_ BK327 7
   have hcz20_8 : w5.cell? ⟨gb327, 8, none⟩ = some (.string a2_8) := kc_ BK327 8
   have hcz20_9 : w5.cell? ⟨gb327, 9, none⟩ = some (.int .i64 a2_9) := kc_ BK327 9
   have hcz20_10 : w5.cell? ⟨gb327, 10, none⟩ = some (.slice A2_10 l2_10.length c2_10) := kc_ BK327 10
   have hcz20_11 : w5.cell? ⟨gb327, 11, none⟩ = some (.slice A2_11 l2_11.length c2_11) := kc_ BK327 11
   have hfz20_0 := blk_frozen BK327.out 0
   have hfz20_1 := blk_frozen BK327.out 1
   have hfz20_2 := blk_frozen BK327.out 2
   have hfz20_3 := blk_frozen BK327.out 3
   have hfz20_4 := blk_frozen BK327.out 4
   have hfz20_5 := blk_frozen BK327.out 5
   have hfz20_6 := blk_frozen BK327.out 6
   have hfz20_7 := blk_frozen BK327.out 7
   have hfz20_8 := blk_frozen BK327.out 8
   have hfz20_9 := blk_frozen BK327.out 9
   have hfz20_10 := blk_frozen BK327.out 10
   have hfz20_11 := blk_frozen BK327.out 11
   go_wp2_with (first | ((with_reducible refine gate_callee (f := 73) rfl ?_); refine Short.gL (some 10) Try.func73 #[.int .i64 a0, .agg #[.int .i64 a2_0, .int .i64 a2_1, .slice A2_2 l2_2.length c2_2, .int .i64 a2_3, .int .i64 a2_4, .int .i64 a2_5, .int .i64 a2_6, .int .i64 a2_7, .string a2_8, .int .i64 a2_9, .slice A2_10 l2_10.length c2_10, .slice A2_11 l2_11.length c2_11]] (h := ?_); (with_reducible refine (op_whole.calls k a0 a2_0 a2_1 _ _ l2_2 a2_3 a2_4 a2_5 a2_6 a2_7 a2_8 a2_9 _ _ l2_10 _ _ l2_11 false _ ?side1 ?side2 ?side3 ?side4 ?side5 ?side6 A6.out).mono ?_); (case side1 => exact cX_ (C_below HR2_2.out HB.out)); (case side2 => exact HC2_2.out); (case side3 => exact cX_ (C_below HR2_10.out HB.out)); (case side4 => exact HC2_10.out); (case side5 => exact cX_ (C_below HR2_11.out HB.out)); (case side6 => exact HC2_11.out); rintro e w21 ⟨rfl, hb⟩; refine ⟨_, rfl, ?_⟩; have n0_ := mk_ (bB_ BK327 hb); have n1_ := mk_ (below_step (Short.hB HB) hb); clear BK327 HB; revert n0_ n1_; intro BK327 HB; (try clear hb)))
   go_meet
   case rel => exact ⟨_, (true), z4_, H', ⟨by first | omega | exact Nat.le_refl _⟩, ⟨by (with_reducible repeat (first | refine blk_drewN ?_ _ | refine blk_drew ?_ | refine blk_alloc ?_ _)); exact BK327.out⟩, ⟨Short.hB HB⟩⟩
  subst c7
  rw [if_pos rfl] at H
  by_cases c8 : a2_7 < 0
  ·
   rw [if_pos c8] at H
   have c8b0 : decide (a2_7 < 0) = true := decide_eq_true c8
   clear c8
   (first | rw [c8b0] | (simp only [i64_w, i32_w]; rw [c8b0]) | skip)
   have H' := mk_ H
   clear H
   have hcz9_0 : w5.cell? ⟨gb327, 0, none⟩ = some (.int .i64 a2_0) := kc_ BK327 0
   have hcz9_1 : w5.cell? ⟨gb327, 1, none⟩ = some (.int .i64 a2_1) := kc_ BK327 1
   have hcz9_2 : w5.cell? ⟨gb327, 2, none⟩ = some (.slice A2_2 l2_2.length c2_2) := kc_ BK327 2
   have hcz9_3 : w5.cell? ⟨gb327, 3, none⟩ = some (.int .i64 a2_3) := kc_ BK327 3
   have hcz9_4 : w5.cell? ⟨gb327, 4, none⟩ = some (.int .i64 a2_4) := kc_ BK327 4
   have hcz9_5 : w5.cell? ⟨gb327, 5, none⟩ = some (.int .i64 a2_5) := kc_ BK327 5
   have hcz9_6 : w5.cell? ⟨gb327, 6, none⟩ = some (.int .i64 a2_6) := kc_ BK327 6
   have hcz9_7 : w5.cell? ⟨gb327, 7, none⟩ = some (.int .i64 a2_7) := kc_ BK327 7
   have hcz9_8 : w5.cell? ⟨gb327, 8, none⟩ = some (.string a2_8) := kc_ BK327 8
   have hcz9_9 : w5.cell? ⟨gb327, 9, none⟩ = some (.int .i64 a2_9) := kc_ BK327 9
   have hcz9_10 : w5.cell? ⟨gb327, 10, none⟩ = some (.slice A2_10 l2_10.length c2_10) := kc_ BK327 10
   have hcz9_11 : w5.cell? ⟨gb327, 11, none⟩ = some (.slice A2_11 l2_11.length c2_11) := kc_ BK327 11
   have hfz9_0 := blk_frozen BK327.out 0
   have hfz9_1 := blk_frozen BK327.out 1
   have hfz9_2 := blk_frozen BK327.out 2
   have hfz9_3 := blk_frozen BK327.out 3
   have hfz9_4 := blk_frozen BK327.out 4
   have hfz9_5 := blk_frozen BK327.out 5
   have hfz9_6 := blk_frozen BK327.out 6
   have hfz9_7 := blk_frozen BK327.out 7
   have hfz9_8 := blk_frozen BK327.out 8
   have hfz9_9 := blk_frozen BK327.out 9
   have hfz9_10 := blk_frozen BK327.out 10
   have hfz9_11 := blk_frozen BK327.out 11
   go_wp2_with (first | ((with_reducible refine gate_callee (f := 73) rfl ?_); refine Short.gL (some 10) Try.func73 #[.int .i64 a0, .agg #[.int .i64 a2_0, .int .i64 a2_1, .slice A2_2 l2_2.length c2_2, .int .i64 a2_3, .int .i64 a2_4, .int .i64 a2_5, .int .i64 a2_6, .int .i64 a2_7, .string a2_8, .int .i64 a2_9, .slice A2_10 l2_10.length c2_10, .slice A2_11 l2_11.length c2_11]] (h := ?_); (with_reducible refine (op_whole.calls k a0 a2_0 a2_1 _ _ l2_2 a2_3 a2_4 a2_5 a2_6 a2_7 a2_8 a2_9 _ _ l2_10 _ _ l2_11 true _ ?side1 ?side2 ?side3 ?side4 ?side5 ?side6 A6.out).mono ?_); (case side1 => exact cX_ (C_below HR2_2.out HB.out)); (case side2 => exact HC2_2.out); (case side3 => exact cX_ (C_below HR2_10.out HB.out)); (case side4 => exact HC2_10.out); (case side5 => exact cX_ (C_below HR2_11.out HB.out)); (case side6 => exact HC2_11.out); rintro e w10 ⟨rfl, hb⟩; refine ⟨_, rfl, ?_⟩; have n0_ := mk_ (bB_ BK327 hb); have n1_ := mk_ (below_step (Short.hB HB) hb); clear BK327 HB; revert n0_ n1_; intro BK327 HB; (try clear hb); have hcz11_0 : w10.cell? ⟨gb327, 0, none⟩ = some (.int .i64 a2_0) := kc_ BK327 0; have hcz11_1 : w10.cell? ⟨gb327, 1, none⟩ = some (.int .i64 a2_1) := kc_ BK327 1; have hcz11_2 : w10.cell? ⟨gb327, 2, none⟩ = some (.slice A2_2 l2_2.length c2_2) := kc_ BK327 2; have hcz11_3 : w10.cell? ⟨gb327, 3, none⟩ = some (.int .i64 a2_3) := kc_ BK327 3; have hcz11_4 : w10.cell? ⟨gb327, 4, none⟩ = some (.int .i64 a2_4) := kc_ BK327 4; have hcz11_5 : w10.cell? ⟨gb327, 5, none⟩ = some (.int .i64 a2_5) := kc_ BK327 5; have hcz11_6 : w10.cell? ⟨gb327, 6, none⟩ = some (.int .i64 a2_6) := kc_ BK327 6; have hcz11_7 : w10.cell? ⟨gb327, 7, none⟩ = some (.int .i64 a2_7) := kc_ BK327 7; have hcz11_8 : w10.cell? ⟨gb327, 8, none⟩ = some (.string a2_8) := kc_ BK327 8; have hcz11_9 : w10.cell? ⟨gb327, 9, none⟩ = some (.int .i64 a2_9) := kc_ BK327 9; have hcz11_10 : w10.cell? ⟨gb327, 10, none⟩ = some (.slice A2_10 l2_10.length c2_10) := kc_ BK327 10; have hcz11_11 : w10.cell? ⟨gb327, 11, none⟩ = some (.slice A2_11 l2_11.length c2_11) := kc_ BK327 11; have hfz11_0 := blk_frozen BK327.out 0; have hfz11_1 := blk_frozen BK327.out 1; have hfz11_2 := blk_frozen BK327.out 2; have hfz11_3 := blk_frozen BK327.out 3; have hfz11_4 := blk_frozen BK327.out 4; have hfz11_5 := blk_frozen BK327.out 5; have hfz11_6 := blk_frozen BK327.out 6; have hfz11_7 := blk_frozen BK327.out 7; have hfz11_8 := blk_frozen BK327.out 8; have hfz11_9 := blk_frozen BK327.out 9; have hfz11_10 := blk_frozen BK327.out 10; have hfz11_11 := blk_frozen BK327.out 11))
   go_meet
   case rel => exact ⟨_, (true), z4_, H', ⟨by first | omega | exact Nat.le_refl _⟩, ⟨by (with_reducible repeat (first | refine blk_drewN ?_ _ | refine blk_drew ?_ | refine blk_alloc ?_ _)); exact BK327.out⟩, ⟨Short.hB HB⟩⟩
  rw [if_neg c8] at H
  have c8b0 : decide (a2_7 < 0) = false := decide_eq_false c8
  clear c8
  (first | rw [c8b0] | (simp only [i64_w, i32_w]; rw [c8b0]) | skip)
  by_cases c12 : a2_7 ≥ (l1.length : Int)
  ·
   rw [if_pos c12] at H
   have c12b0 : decide ((l1.length : Int) ≤ a2_7) = true := decide_eq_true c12
   clear c12
   have H' := mk_ H
   clear H
   have hcz13_0 : w5.cell? ⟨gb327, 0, none⟩ = some (.int .i64 a2_0) := kc_ BK327 0
   have hcz13_1 : w5.cell? ⟨gb327, 1, none⟩ = some (.int .i64 a2_1) := kc_ BK327 1
   have hcz13_2 : w5.cell? ⟨gb327, 2, none⟩ = some (.slice A2_2 l2_2.length c2_2) := kc_ BK327 2
   have hcz13_3 : w5.cell? ⟨gb327, 3, none⟩ = some (.int .i64 a2_3) := kc_ BK327 3
   have hcz13_4 : w5.cell? ⟨gb327, 4, none⟩ = some (.int .i64 a2_4) := kc_ BK327 4
   have hcz13_5 : w5.cell? ⟨gb327, 5, none⟩ = some (.int .i64 a2_5) := kc_ BK327 5
   have hcz13_6 : w5.cell? ⟨gb327, 6, none⟩ = some (.int .i64 a2_6) := kc_ BK327 6
   have hcz13_7 : w5.cell? ⟨gb327, 7, none⟩ = some (.int .i64 a2_7) := kc_ BK327 7
   have hcz13_8 : w5.cell? ⟨gb327, 8, none⟩ = some (.string a2_8) := kc_ BK327 8
   have hcz13_9 : w5.cell? ⟨gb327, 9, none⟩ = some (.int .i64 a2_9) := kc_ BK327 9
   have hcz13_10 : w5.cell? ⟨gb327, 10, none⟩ = some (.slice A2_10 l2_10.length c2_10) := kc_ BK327 10
   have hcz13_11 : w5.cell? ⟨gb327, 11, none⟩ = some (.slice A2_11 l2_11.length c2_11) := kc_ BK327 11
   have hfz13_0 := blk_frozen BK327.out 0
   have hfz13_1 := blk_frozen BK327.out 1
   have hfz13_2 := blk_frozen BK327.out 2
   have hfz13_3 := blk_frozen BK327.out 3
   have hfz13_4 := blk_frozen BK327.out 4
   have hfz13_5 := blk_frozen BK327.out 5
   have hfz13_6 := blk_frozen BK327.out 6
   have hfz13_7 := blk_frozen BK327.out 7
   have hfz13_8 := blk_frozen BK327.out 8
   have hfz13_9 := blk_frozen BK327.out 9
   have hfz13_10 := blk_frozen BK327.out 10
   have hfz13_11 := blk_frozen BK327.out 11
   go_wp2_with (first | ((with_reducible refine gate_callee (f := 73) rfl ?_); refine Short.gL (some 10) Try.func73 #[.int .i64 a0, .agg #[.int .i64 a2_0, .int .i64 a2_1, .slice A2_2 l2_2.length c2_2, .int .i64 a2_3, .int .i64 a2_4, .int .i64 a2_5, .int .i64 a2_6, .int .i64 a2_7, .string a2_8, .int .i64 a2_9, .slice A2_10 l2_10.length c2_10, .slice A2_11 l2_11.length c2_11]] (h := ?_); (with_reducible refine (op_whole.calls k a0 a2_0 a2_1 _ _ l2_2 a2_3 a2_4 a2_5 a2_6 a2_7 a2_8 a2_9 _ _ l2_10 _ _ l2_11 true _ ?side1 ?side2 ?side3 ?side4 ?side5 ?side6 A6.out).mono ?_); (case side1 => exact cX_ (C_below HR2_2.out HB.out)); (case side2 => exact HC2_2.out); (case side3 => exact cX_ (C_below HR2_10.out HB.out)); (case side4 => exact HC2_10.out); (case side5 => exact cX_ (C_below HR2_11.out HB.out)); (case side6 => exact HC2_11.out); rintro e w14 ⟨rfl, hb⟩; refine ⟨_, rfl, ?_⟩; have n0_ := mk_ (bB_ BK327 hb); have n1_ := mk_ (below_step (Short.hB HB) hb); clear BK327 HB; revert n0_ n1_; intro BK327 HB; (try clear hb); have hcz15_0 : w14.cell? ⟨gb327, 0, none⟩ = some (.int .i64 a2_0) := kc_ BK327 0; have hcz15_1 : w14.cell? ⟨gb327, 1, none⟩ = some (.int .i64 a2_1) := kc_ BK327 1; have hcz15_2 : w14.cell? ⟨gb327, 2, none⟩ = some (.slice A2_2 l2_2.length c2_2) := kc_ BK327 2; have hcz15_3 : w14.cell? ⟨gb327, 3, none⟩ = some (.int .i64 a2_3) := kc_ BK327 3; have hcz15_4 : w14.cell? ⟨gb327, 4, none⟩ = some (.int .i64 a2_4) := kc_ BK327 4; have hcz15_5 : w14.cell? ⟨gb327, 5, none⟩ = some (.int .i64 a2_5) := kc_ BK327 5; have hcz15_6 : w14.cell? ⟨gb327, 6, none⟩ = some (.int .i64 a2_6) := kc_ BK327 6; have hcz15_7 : w14.cell? ⟨gb327, 7, none⟩ = some (.int .i64 a2_7) := kc_ BK327 7; have hcz15_8 : w14.cell? ⟨gb327, 8, none⟩ = some (.string a2_8) := kc_ BK327 8; have hcz15_9 : w14.cell? ⟨gb327, 9, none⟩ = some (.int .i64 a2_9) := kc_ BK327 9; have hcz15_10 : w14.cell? ⟨gb327, 10, none⟩ = some (.slice A2_10 l2_10.length c2_10) := kc_ BK327 10; have hcz15_11 : w14.cell? ⟨gb327, 11, none⟩ = some (.slice A2_11 l2_11.length c2_11) := kc_ BK327 11; have hfz15_0 := blk_frozen BK327.out 0; have hfz15_1 := blk_frozen BK327.out 1; have hfz15_2 := blk_frozen BK327.out 2; have hfz15_3 := blk_frozen BK327.out 3; have hfz15_4 := blk_frozen BK327.out 4; have hfz15_5 := blk_frozen BK327.out 5; have hfz15_6 := blk_frozen BK327.out 6; have hfz15_7 := blk_frozen BK327.out 7; have hfz15_8 := blk_frozen BK327.out 8; have hfz15_9 := blk_frozen BK327.out 9; have hfz15_10 := blk_frozen BK327.out 10; have hfz15_11 := blk_frozen BK327.out 11))
   go_meet
   case rel => exact ⟨_, (true), z4_, H', ⟨by first | omega | exact Nat.le_refl _⟩, ⟨by (with_reducible repeat (first | refine blk_drewN ?_ _ | refine blk_drew ?_ | refine blk_alloc ?_ _)); exact BK327.out⟩, ⟨Short.hB HB⟩⟩
  rw [if_neg c12] at H
  have c12b0 : decide ((l1.length : Int) ≤ a2_7) = false := decide_eq_false c12
  clear c12
  obtain ⟨t329, A16, H⟩ := Option.bind_eq_some_iff.mp H
  replace A16 := mk_ A16
  have H' := mk_ H
  clear H
  have hcz17_0 : w5.cell? ⟨gb327, 0, none⟩ = some (.int .i64 a2_0) := kc_ BK327 0
  have hcz17_1 : w5.cell? ⟨gb327, 1, none⟩ = some (.int .i64 a2_1) := kc_ BK327 1
  have hcz17_2 : w5.cell? ⟨gb327, 2, none⟩ = some (.slice A2_2 l2_2.length c2_2) := kc_ BK327 2
  have hcz17_3 : w5.cell? ⟨gb327, 3, none⟩ = some (.int .i64 a2_3) := kc_ BK327 3
  have hcz17_4 : w5.cell? ⟨gb327, 4, none⟩ = some (.int .i64 a2_4) := kc_ BK327 4
  have hcz17_5 : w5.cell? ⟨gb327, 5, none⟩ = some (.int .i64 a2_5) := kc_ BK327 5
  have hcz17_6 : w5.cell? ⟨gb327, 6, none⟩ = some (.int .i64 a2_6) := kc_ BK327 6
  have hcz17_7 : w5.cell? ⟨gb327, 7, none⟩ = some (.int .i64 a2_7) := kc_ BK327 7
  have hcz17_8 : w5.cell? ⟨gb327, 8, none⟩ = some (.string a2_8) := kc_ BK327 8
  have hcz17_9 : w5.cell? ⟨gb327, 9, none⟩ = some (.int .i64 a2_9) := kc_ BK327 9
  have hcz17_10 : w5.cell? ⟨gb327, 10, none⟩ = some (.slice A2_10 l2_10.length c2_10) := kc_ BK327 10
  have hcz17_11 : w5.cell? ⟨gb327, 11, none⟩ = some (.slice A2_11 l2_11.length c2_11) := kc_ BK327 11
  have hfz17_0 := blk_frozen BK327.out 0
  have hfz17_1 := blk_frozen BK327.out 1
  have hfz17_2 := blk_frozen BK327.out 2
  have hfz17_3 := blk_frozen BK327.out 3
  have hfz17_4 := blk_frozen BK327.out 4
  have hfz17_5 := blk_frozen BK327.out 5
  have hfz17_6 := blk_frozen BK327.out 6
  have hfz17_7 := blk_frozen BK327.out 7
  have hfz17_8 := blk_frozen BK327.out 8
  have hfz17_9 := blk_frozen BK327.out 9
  have hfz17_10 := blk_frozen BK327.out 10
  have hfz17_11 := blk_frozen BK327.out 11
  go_wp2_with (first | ((with_reducible refine gate_callee (f := 73) rfl ?_); refine Short.gL (some 10) Try.func73 #[.int .i64 a0, .agg #[.int .i64 a2_0, .int .i64 a2_1, .slice A2_2 l2_2.length c2_2, .int .i64 a2_3, .int .i64 a2_4, .int .i64 a2_5, .int .i64 a2_6, .int .i64 a2_7, .string a2_8, .int .i64 a2_9, .slice A2_10 l2_10.length c2_10, .slice A2_11 l2_11.length c2_11]] (h := ?_); (with_reducible refine (op_whole.calls k a0 a2_0 a2_1 _ _ l2_2 a2_3 a2_4 a2_5 a2_6 a2_7 a2_8 a2_9 _ _ l2_10 _ _ l2_11 true _ ?side1 ?side2 ?side3 ?side4 ?side5 ?side6 A6.out).mono ?_); (case side1 => exact cX_ (C_below HR2_2.out HB.out)); (case side2 => exact HC2_2.out); (case side3 => exact cX_ (C_below HR2_10.out HB.out)); (case side4 => exact HC2_10.out); (case side5 => exact cX_ (C_below HR2_11.out HB.out)); (case side6 => exact HC2_11.out); rintro e w18 ⟨rfl, hb⟩; refine ⟨_, rfl, ?_⟩; have n0_ := mk_ (bB_ BK327 hb); have n1_ := mk_ (below_step (Short.hB HB) hb); clear BK327 HB; revert n0_ n1_; intro BK327 HB; (try clear hb); have hcz19_0 : w18.cell? ⟨gb327, 0, none⟩ = some (.int .i64 a2_0) := kc_ BK327 0; have hcz19_1 : w18.cell? ⟨gb327, 1, none⟩ = some (.int .i64 a2_1) := kc_ BK327 1; have hcz19_2 : w18.cell? ⟨gb327, 2, none⟩ = some (.slice A2_2 l2_2.length c2_2) := kc_ BK327 2; have hcz19_3 : w18.cell? ⟨gb327, 3, none⟩ = some (.int .i64 a2_3) := kc_ BK327 3; have hcz19_4 : w18.cell? ⟨gb327, 4, none⟩ = some (.int .i64 a2_4) := kc_ BK327 4; have hcz19_5 : w18.cell? ⟨gb327, 5, none⟩ = some (.int .i64 a2_5) := kc_ BK327 5; have hcz19_6 : w18.cell? ⟨gb327, 6, none⟩ = some (.int .i64 a2_6) := kc_ BK327 6; have hcz19_7 : w18.cell? ⟨gb327, 7, none⟩ = some (.int .i64 a2_7) := kc_ BK327 7; have hcz19_8 : w18.cell? ⟨gb327, 8, none⟩ = some (.string a2_8) := kc_ BK327 8; have hcz19_9 : w18.cell? ⟨gb327, 9, none⟩ = some (.int .i64 a2_9) := kc_ BK327 9; have hcz19_10 : w18.cell? ⟨gb327, 10, none⟩ = some (.slice A2_10 l2_10.length c2_10) := kc_ BK327 10; have hcz19_11 : w18.cell? ⟨gb327, 11, none⟩ = some (.slice A2_11 l2_11.length c2_11) := kc_ BK327 11; have hfz19_0 := blk_frozen BK327.out 0; have hfz19_1 := blk_frozen BK327.out 1; have hfz19_2 := blk_frozen BK327.out 2; have hfz19_3 := blk_frozen BK327.out 3; have hfz19_4 := blk_frozen BK327.out 4; have hfz19_5 := blk_frozen BK327.out 5; have hfz19_6 := blk_frozen BK327.out 6; have hfz19_7 := blk_frozen BK327.out 7; have hfz19_8 := blk_frozen BK327.out 8; have hfz19_9 := blk_frozen BK327.out 9; have hfz19_10 := blk_frozen BK327.out 10; have hfz19_11 := blk_frozen BK327.out 11) | (go_at_call 25; (with_reducible refine (op_Key.calls a2_8 t329 _ A16.out).mono ?_); rintro e w' ⟨rfl, ⟨nd, rfl⟩⟩))
  go_meet
  case rel => exact ⟨_, (!t329), z4_, H', ⟨by first | omega | exact Nat.le_refl _⟩, ⟨by (with_reducible repeat (first | refine blk_drewN ?_ _ | refine blk_drew ?_ | refine blk_alloc ?_ _)); exact BK327.out⟩, ⟨Short.hB HB⟩⟩
 case rest => as_aux_lemma =>
  clear HC4
  try clear c1
  try clear c2
  try clear p2
  try clear c3
  try clear c7
  try clear c8
  try clear c8b0
  try clear c12
  try clear c12b0
  try clear hcz11_0
  try clear hcz11_1
  try clear hcz11_10
  try clear hcz11_11
  try clear hcz11_2
  try clear hcz11_3
  try clear hcz11_4
  try clear hcz11_5
  try clear hcz11_6
  try clear hcz11_7
  try clear hcz11_8
  try clear hcz11_9
  try clear hcz13_0
  try clear hcz13_1
  try clear hcz13_10
  try clear hcz13_11
  try clear hcz13_2
  try clear hcz13_3
  try clear hcz13_4
  try clear hcz13_5
  try clear hcz13_6
  try clear hcz13_7
  try clear hcz13_8
  try clear hcz13_9
  try clear hcz15_0
  try clear hcz15_1
  try clear hcz15_10
  try clear hcz15_11
  try clear hcz15_2
  try clear hcz15_3
  try clear hcz15_4
  try clear hcz15_5
  try clear hcz15_6
  try clear hcz15_7
  try clear hcz15_8
  try clear hcz15_9
  try clear hcz17_0
  try clear hcz17_1
  try clear hcz17_10
  try clear hcz17_11
  try clear hcz17_2
  try clear hcz17_3
  try clear hcz17_4
  try clear hcz17_5
  try clear hcz17_6
  try clear hcz17_7
  try clear hcz17_8
  try clear hcz17_9
  try clear hcz19_0
  try clear hcz19_1
  try clear hcz19_10
  try clear hcz19_11
  try clear hcz19_2
  try clear hcz19_3
  try clear hcz19_4
  try clear hcz19_5
  try clear hcz19_6
  try clear hcz19_7
  try clear hcz19_8
  try clear hcz19_9
  try clear hcz20_0
  try clear hcz20_1
  try clear hcz20_10
  try clear hcz20_11
  try clear hcz20_2
  try clear hcz20_3
  try clear hcz20_4
  try clear hcz20_5
  try clear hcz20_6
  try clear hcz20_7
  try clear hcz20_8
  try clear hcz20_9
  try clear hcz9_0
  try clear hcz9_1
  try clear hcz9_10
  try clear hcz9_11
  try clear hcz9_2
  try clear hcz9_3
  try clear hcz9_4
  try clear hcz9_5
  try clear hcz9_6
  try clear hcz9_7
  try clear hcz9_8
  try clear hcz9_9
  try clear hfz11_0
  try clear hfz11_1
  try clear hfz11_10
  try clear hfz11_11
  try clear hfz11_2
  try clear hfz11_3
  try clear hfz11_4
  try clear hfz11_5
  try clear hfz11_6
  try clear hfz11_7
  try clear hfz11_8
  try clear hfz11_9
  try clear hfz13_0
  try clear hfz13_1
  try clear hfz13_10
  try clear hfz13_11
  try clear hfz13_2
  try clear hfz13_3
  try clear hfz13_4
  try clear hfz13_5
  try clear hfz13_6
  try clear hfz13_7
  try clear hfz13_8
  try clear hfz13_9
  try clear hfz15_0
  try clear hfz15_1
  try clear hfz15_10
  try clear hfz15_11
  try clear hfz15_2
  try clear hfz15_3
  try clear hfz15_4
  try clear hfz15_5
  try clear hfz15_6
  try clear hfz15_7
  try clear hfz15_8
  try clear hfz15_9
  try clear hfz17_0
  try clear hfz17_1
  try clear hfz17_10
  try clear hfz17_11
  try clear hfz17_2
  try clear hfz17_3
  try clear hfz17_4
  try clear hfz17_5
  try clear hfz17_6
  try clear hfz17_7
  try clear hfz17_8
  try clear hfz17_9
  try clear hfz19_0
  try clear hfz19_1
  try clear hfz19_10
  try clear hfz19_11
  try clear hfz19_2
  try clear hfz19_3
  try clear hfz19_4
  try clear hfz19_5
  try clear hfz19_6
  try clear hfz19_7
  try clear hfz19_8
  try clear hfz19_9
  try clear hfz20_0
  try clear hfz20_1
  try clear hfz20_10
  try clear hfz20_11
  try clear hfz20_2
  try clear hfz20_3
  try clear hfz20_4
  try clear hfz20_5
  try clear hfz20_6
  try clear hfz20_7
  try clear hfz20_8
  try clear hfz20_9
  try clear hfz9_0
  try clear hfz9_1
  try clear hfz9_10
  try clear hfz9_11
  try clear hfz9_2
  try clear hfz9_3
  try clear hfz9_4
  try clear hfz9_5
  try clear hfz9_6
  try clear hfz9_7
  try clear hfz9_8
  try clear hfz9_9
  obtain ⟨kq, x29_3, rfl, HA, HJ3, BK327, HB⟩ := hcut
  cases kq with
  | zero => exact absurd HA.out (by simp [op_right.j0])
  | succ kj3 =>
   have H := HA.out
   clear HA
   simp only [op_right.j0] at H
   by_cases c22 : x29_3 = true
   ·
    subst c22
    rw [if_pos rfl] at H
    obtain rfl := Option.some.inj H
    go_wp2
    go_ret
    exact ⟨q0, Short.hB HB⟩
   ·
    replace c22 := Bool.eq_false_iff.mpr c22
    subst c22
    rw [if_neg (show ¬ (false = true) by decide)] at H
    by_cases c23 : 0 ≤ a2_7
    ·
     rw [if_pos c23] at H
     have c23b0 : decide (0 ≤ a2_7) = true := decide_eq_true c23
     clear c23
     by_cases c24 : a2_7 < (l1.length : Int)
     ·
      rw [if_pos c24] at H
      have c24b0 : decide (a2_7 < (l1.length : Int)) = true := decide_eq_true c24
      clear c24
      by_cases c25 : a2_6 = 1
      ·
       rw [if_pos c25] at H
       have c25b0 : (a2_6 == 1) = true := beq_iff_eq.mpr c25
       have c25b1 : (a2_6 != 1) = false := bne_eq_false_iff_eq.mpr c25
       clear c25
       obtain ⟨t331, A26, H⟩ := Option.bind_eq_some_iff.mp H
       replace A26 := mk_ A26
       by_cases c27 : t331 = true
       ·
        subst c27
        rw [if_pos rfl] at H
        by_cases c28 : a2_9 = 0
        ·
         rw [if_pos c28] at H
         have c28b0 : (a2_9 == 0) = true := beq_iff_eq.mpr c28
         have c28b1 : (a2_9 != 0) = false := bne_eq_false_iff_eq.mpr c28
         clear c28
         obtain rfl := Option.some.inj H
         have hcz_0 := blk_cell BK327.out
         have hfz_0 := blk_frozen BK327.out
         have p330 : 0 ≤ (a2_7 : Int) := of_decide_eq_true z1_
         have q330 : a2_7 < (l1.length : Int) := of_decide_eq_true z1_
         obtain ⟨ad330, A330_0, c330_0, e330, hx330_0, hl330_0, hi330_0⟩ := at_T51 HR1.out a2_7 p330 q330
         cases e330
         replace hx330_0 := up_ HB hx330_0
         have HR330_0 := mk_ hi330_0
         have HC330_0 := mk_ hl330_0
         clear hi330_0 hl330_0
         replace p330 := eq_true p330
         replace q330 := eq_true q330
         go_wp2_with (first | ((with_reducible refine gate_callee (f := 74) rfl ?_); refine Short.gL (some 43) Try.func74 #[.slice A2_10 l2_10.length c2_10, .slice A330_0 ((rd_T51 l1 a2_7).f0).length c330_0] (h := ?_); (with_reducible refine (op_small.calls kj3 _ _ l2_10 _ _ ((rd_T51 l1 a2_7).f0) true _ ?side1 ?side2 ?side3 ?side4 A26.out).mono ?_); (case side1 => exact cX_ (C_below HR2_10.out HB.out)); (case side2 => exact HC2_10.out); (case side3 => exact cX_ (C_below HR330_0.out HB.out)); (case side4 => exact HC330_0.out); rintro e w30 ⟨rfl, hb⟩; refine ⟨_, rfl, ?_⟩; have n0_ := mk_ (bB_ BK327 hb); have n1_ := mk_ (below_step (Short.hB HB) hb); clear BK327 HB; revert n0_ n1_; intro BK327 HB; (try clear hb); have hcz_0 := blk_cell BK327.out; have hfz_0 := blk_frozen BK327.out))
         go_ret
         exact ⟨q0, Short.hB HB⟩
        ·
         rw [if_neg c28] at H
         have c28b0 : (a2_9 == 0) = false := beq_eq_false_iff_ne.mpr c28
         have c28b1 : (a2_9 != 0) = true := bne_iff_ne.mpr c28
         obtain rfl := Option.some.inj H
         have hcz_0 := blk_cell BK327.out
         have hfz_0 := blk_frozen BK327.out
         have p330 : 0 ≤ (a2_7 : Int) := of_decide_eq_true z1_
         have q330 : a2_7 < (l1.length : Int) := of_decide_eq_true z1_
         obtain ⟨ad330, A330_0, c330_0, e330, hx330_0, hl330_0, hi330_0⟩ := at_T51 HR1.out a2_7 p330 q330
         cases e330
         replace hx330_0 := up_ HB hx330_0
         have HR330_0 := mk_ hi330_0
         have HC330_0 := mk_ hl330_0
         clear hi330_0 hl330_0
         replace p330 := eq_true p330
         replace q330 := eq_true q330
         go_wp2_with (first | ((with_reducible refine gate_callee (f := 74) rfl ?_); refine Short.gL (some 43) Try.func74 #[.slice A2_10 l2_10.length c2_10, .slice A330_0 ((rd_T51 l1 a2_7).f0).length c330_0] (h := ?_); (with_reducible refine (op_small.calls kj3 _ _ l2_10 _ _ ((rd_T51 l1 a2_7).f0) true _ ?side1 ?side2 ?side3 ?side4 A26.out).mono ?_); (case side1 => exact cX_ (C_below HR2_10.out HB.out)); (case side2 => exact HC2_10.out); (case side3 => exact cX_ (C_below HR330_0.out HB.out)); (case side4 => exact HC330_0.out); rintro e w33 ⟨rfl, hb⟩; refine ⟨_, rfl, ?_⟩; have n0_ := mk_ (bB_ BK327 hb); have n1_ := mk_ (below_step (Short.hB HB) hb); clear BK327 HB; revert n0_ n1_; intro BK327 HB; (try clear hb); have hcz_0 := blk_cell BK327.out; have hfz_0 := blk_frozen BK327.out))
         go_ret
         exact ⟨q0, Short.hB HB⟩
       ·
        replace c27 := Bool.eq_false_iff.mpr c27
        subst c27
        rw [if_neg (show ¬ (false = true) by decide)] at H
        obtain rfl := Option.some.inj H
        have hcz_0 := blk_cell BK327.out
        have hfz_0 := blk_frozen BK327.out
        have p330 : 0 ≤ (a2_7 : Int) := of_decide_eq_true z1_
        have q330 : a2_7 < (l1.length : Int) := of_decide_eq_true z1_
        obtain ⟨ad330, A330_0, c330_0, e330, hx330_0, hl330_0, hi330_0⟩ := at_T51 HR1.out a2_7 p330 q330
        cases e330
        replace hx330_0 := up_ HB hx330_0
        have HR330_0 := mk_ hi330_0
        have HC330_0 := mk_ hl330_0
        clear hi330_0 hl330_0
        replace p330 := eq_true p330
        replace q330 := eq_true q330
        go_wp2_with (first | ((with_reducible refine gate_callee (f := 74) rfl ?_); refine Short.gL (some 43) Try.func74 #[.slice A2_10 l2_10.length c2_10, .slice A330_0 ((rd_T51 l1 a2_7).f0).length c330_0] (h := ?_); (with_reducible refine (op_small.calls kj3 _ _ l2_10 _ _ ((rd_T51 l1 a2_7).f0) false _ ?side1 ?side2 ?side3 ?side4 A26.out).mono ?_); (case side1 => exact cX_ (C_below HR2_10.out HB.out)); (case side2 => exact HC2_10.out); (case side3 => exact cX_ (C_below HR330_0.out HB.out)); (case side4 => exact HC330_0.out); rintro e w36 ⟨rfl, hb⟩; refine ⟨_, rfl, ?_⟩; have n0_ := mk_ (bB_ BK327 hb); have n1_ := mk_ (below_step (Short.hB HB) hb); clear BK327 HB; revert n0_ n1_; intro BK327 HB; (try clear hb)))
        go_ret
        exact ⟨q0, Short.hB HB⟩
      ·
       rw [if_neg c25] at H
       have c25b0 : (a2_6 == 1) = false := beq_eq_false_iff_ne.mpr c25
       have c25b1 : (a2_6 != 1) = true := bne_iff_ne.mpr c25
       by_cases c37 : a2_6 = 2
       ·
        rw [if_pos c37] at H
        have c37b0 : (a2_6 == 2) = true := beq_iff_eq.mpr c37
        have c37b1 : (a2_6 != 2) = false := bne_eq_false_iff_eq.mpr c37
        clear c37
        by_cases c38 : a2_9 ≥ 0
        ·
         rw [if_pos c38] at H
         have c38b0 : decide (0 ≤ a2_9) = true := decide_eq_true c38
         clear c38
         by_cases c39 : a2_9 < (((rd_T51 l1 a2_7).f0).length : Int)
         ·
          rw [if_pos c39] at H
          have c39b0 : decide (a2_9 < (((rd_T51 l1 a2_7).f0).length : Int)) = true := decide_eq_true c39
          clear c39
          by_cases c40 : 0 ≤ a2_9
          ·
           rw [if_pos c40] at H
           have c40b0 := eq_true c40
           have c40b1 : decide (0 ≤ a2_9) = true := decide_eq_true c40
           clear c40
           by_cases c41 : a2_9 ≤ (wrap64 (a2_9 + 1))
           ·
            rw [if_pos c41] at H
            have c41b0 := eq_true c41
            have c41b1 : decide (a2_9 ≤ (wrap64 (a2_9 + 1))) = true := decide_eq_true c41
            by_cases c42 : (wrap64 (a2_9 + 1)) ≤ (((rd_T51 l1 a2_7).f0).length : Int)
            ·
             rw [if_pos c42] at H
             have c42b0 := eq_true c42
             have c42b1 : decide ((wrap64 (a2_9 + 1)) ≤ (((rd_T51 l1 a2_7).f0).length : Int)) = true := decide_eq_true c42
             obtain ⟨t333, A43, H⟩ := Option.bind_eq_some_iff.mp H
             replace A43 := mk_ A43
             by_cases c44 : t333 = true
             ·
              subst c44
              rw [if_pos rfl] at H
              obtain rfl := Option.some.inj H
              have hcz_0 := blk_cell BK327.out
              have hfz_0 := blk_frozen BK327.out
              have p330 : 0 ≤ (a2_7 : Int) := of_decide_eq_true z1_
              have q330 : a2_7 < (l1.length : Int) := of_decide_eq_true z1_
              obtain ⟨ad330, A330_0, c330_0, e330, hx330_0, hl330_0, hi330_0⟩ := at_T51 HR1.out a2_7 p330 q330
              cases e330
              replace hx330_0 := up_ HB hx330_0
              have HR330_0 := mk_ hi330_0
              have HC330_0 := mk_ hl330_0
              clear hi330_0 hl330_0
              replace p330 := eq_true p330
              replace q330 := eq_true q330
              try go_wp2
              have n0_ := mk_ (blk_drew BK327.out)
              have n1_ := mk_ (below_drew1 HB.out)
              clear BK327 HB
              revert n0_ n1_
              intro BK327 HB
              obtain ⟨i047, hi047, _, hsz47, _⟩ := info_parts info3
              obtain ⟨A47, hcut47, hA47, hC47⟩ := print_mid_of (P := Try.prog) (Value.int .i64) 0 26 3 .i64 .i64 Try.underlying26 hi047 hsz47 A330_0 c330_0 ((rd_T51 l1 a2_7).f0) a2_9 (wrap64 (a2_9 + 1)) (of_decide_eq_true z1_) (by first | omega | exact of_decide_eq_true z1_) (of_decide_eq_true z1_) HC330_0.out
              have HR332 := mk_ (C_of_reads (h1 := fun _ => rfl) (hA47 _ (Kd.reads_of_C HR330_0.out)))
              have HC332 := mk_ hC47
              clear hA47 hC47 hi047 hsz47
              refine start_ (n := 29) (S := fun w' => w'.cell? ⟨gb327, 0, none⟩ = some (.int .i64 a2_0) ∧ w'.cell? ⟨gb327, 1, none⟩ = some (.int .i64 a2_1) ∧ w'.cell? ⟨gb327, 2, none⟩ = some (.slice A2_2 l2_2.length c2_2) ∧ w'.cell? ⟨gb327, 3, none⟩ = some (.int .i64 a2_3) ∧ w'.cell? ⟨gb327, 4, none⟩ = some (.int .i64 a2_4) ∧ w'.cell? ⟨gb327, 5, none⟩ = some (.int .i64 a2_5) ∧ w'.cell? ⟨gb327, 6, none⟩ = some (.int .i64 a2_6) ∧ w'.cell? ⟨gb327, 7, none⟩ = some (.int .i64 a2_7) ∧ w'.cell? ⟨gb327, 8, none⟩ = some (.string a2_8) ∧ w'.cell? ⟨gb327, 9, none⟩ = some (.int .i64 a2_9) ∧ w'.cell? ⟨gb327, 10, none⟩ = some (.slice A2_10 l2_10.length c2_10) ∧ w'.cell? ⟨gb327, 11, none⟩ = some (.slice A2_11 l2_11.length c2_11)) (ds := []) (Steps.Bs 29 0) z0_ rfl rfl (k12e_ BK327) (fun hHeld => ?_); refine with_tabW op_right.tab8 op_right.bits8 (fun HT_ HW_ => ?_)
              generalize wc.drew = w46 at BK327 HB HR332 hHeld ⊢
              refine tI HT_ 0 57 29 1 ?_
              refine tT HT_ HW_ hHeld 1 58 29 3 ?_
              refine tI HT_ 2 59 29 7 ?_
              refine tI HT_ 3 60 29 15 ?_
              refine tI HT_ 4 61 29 31 ?_
              refine tI HT_ 6 63 29 95 ?_
              refine tI HT_ 7 64 29 223 ?_
              refine tT HT_ HW_ hHeld 5 62 29 255 ?_
              refine tI HT_ 8 65 29 511 ?_
              refine tI HT_ 9 66 29 1023 ?_
              refine tI HT_ 10 67 29 2047 ?_
              refine tI HT_ 11 68 29 4095 ?_
              refine tI HT_ 13 70 29 12287 ?_
              refine tI HT_ 14 71 29 28671 ?_
              refine tI HT_ 16 73 29 94207 ?_
              refine tT HT_ HW_ hHeld 12 69 29 98303 ?_
              refine tT HT_ HW_ hHeld 15 72 29 131071 ?_
              refine tT HT_ HW_ hHeld 17 74 29 262143 ?_
              refine tI HT_ 18 75 29 524287 ?_
              refine tI HT_ 19 76 29 1048575 ?_
              refine one_ (i := 20) (N := some 77) (Steps.Bs 29 2097151) rfl rfl (one_of HT_.out z0_) z5_ (fun K hK => ?_)
              refine goes_ Try.func74 z0_ rfl #[.slice A2_10 l2_10.length c2_10, .slice A47 ((((rd_T51 l1 a2_7).f0).take ((wrap64 (a2_9 + 1)) : Int).toNat).drop (a2_9 : Int).toNat).length (c330_0 - a2_9.toNat)] (by rfl) rfl rfl (by (try simp only [List.map_toArray, List.map_cons, List.map_nil]); first | done | (rw [show ((((rd_T51 l1 a2_7).f0).take ((wrap64 (a2_9 + 1)) : Int).toNat).drop (a2_9 : Int).toNat).length = ((wrap64 (a2_9 + 1)).toNat - a2_9.toNat) from (by rw [List.length_drop, List.length_take]; have h_ : ((wrap64 (a2_9 + 1)) : Int) ≤ (((rd_T51 l1 a2_7).f0).length : Int) := of_decide_eq_true z1_; omega)] <;> rfl) | rfl | (simp only [List.length_drop, List.length_take]; rfl) | (go_simp; done) | (simp; done)) ?_
              with_reducible refine (op_small.calls kj3 _ _ l2_10 _ _ ((((rd_T51 l1 a2_7).f0).take ((wrap64 (a2_9 + 1)) : Int).toNat).drop (a2_9 : Int).toNat) true _ ?side1 ?side2 ?side3 ?side4 A43.out).mono ?_
              (case side1 => exact cX_ (C_below HR2_10.out HB.out))
              (case side2 => exact HC2_10.out)
              (case side3 => exact cX_ (C_below HR332.out HB.out))
              (case side4 => exact HC332.out)
              rintro e w48 ⟨rfl, hb⟩
              refine ⟨_, rfl, ?_⟩
              have n0_ := mk_ (bB_ BK327 hb)
              have n1_ := mk_ (below_step (Short.hB HB) hb)
              clear BK327 HB
              revert n0_ n1_
              intro BK327 HB
              (try clear hb)
              (try clear hb2)
              (try clear hk)
              (try clear hi)
              refine hK.out _ _ (k12e_ BK327) (fun hHeld => ?_)
              clear hK K
              refine nrm 77 ?_
              refine tI HT_ 21 78 29 4194303 ?_
              refine tI HT_ 22 79 29 8388607 ?_
              refine tI HT_ 23 80 29 16777215 ?_
              refine tT HT_ HW_ hHeld 24 81 29 33554431 ?_
              refine tI HT_ 25 82 29 67108863 ?_
              refine tI HT_ 26 83 29 134217727 ?_
              refine tI HT_ 27 84 29 268435455 ?_
              refine tI HT_ 28 6 29 536870911 ?_
              refine done_ (done_of HT_.out z0_) ?_
              try go_wp2
              go_ret
              exact ⟨q0, Short.hB HB⟩
             ·
              replace c44 := Bool.eq_false_iff.mpr c44
              subst c44
              rw [if_neg (show ¬ (false = true) by decide)] at H
              obtain rfl := Option.some.inj H
              have hcz_0 := blk_cell BK327.out
              have hfz_0 := blk_frozen BK327.out
              have p330 : 0 ≤ (a2_7 : Int) := of_decide_eq_true z1_
              have q330 : a2_7 < (l1.length : Int) := of_decide_eq_true z1_
              obtain ⟨ad330, A330_0, c330_0, e330, hx330_0, hl330_0, hi330_0⟩ := at_T51 HR1.out a2_7 p330 q330
              cases e330
              replace hx330_0 := up_ HB hx330_0
              have HR330_0 := mk_ hi330_0
              have HC330_0 := mk_ hl330_0
              clear hi330_0 hl330_0
              replace p330 := eq_true p330
              replace q330 := eq_true q330
              try go_wp2
              have n0_ := mk_ (blk_drew BK327.out)
              have n1_ := mk_ (below_drew1 HB.out)
              clear BK327 HB
              revert n0_ n1_
              intro BK327 HB
              obtain ⟨i051, hi051, _, hsz51, _⟩ := info_parts info3
              obtain ⟨A51, hcut51, hA51, hC51⟩ := print_mid_of (P := Try.prog) (Value.int .i64) 0 26 3 .i64 .i64 Try.underlying26 hi051 hsz51 A330_0 c330_0 ((rd_T51 l1 a2_7).f0) a2_9 (wrap64 (a2_9 + 1)) (of_decide_eq_true z1_) (by first | omega | exact of_decide_eq_true z1_) (of_decide_eq_true z1_) HC330_0.out
              have HR332 := mk_ (C_of_reads (h1 := fun _ => rfl) (hA51 _ (Kd.reads_of_C HR330_0.out)))
              have HC332 := mk_ hC51
              clear hA51 hC51 hi051 hsz51
              refine start_ (n := 29) (S := fun w' => w'.cell? ⟨gb327, 0, none⟩ = some (.int .i64 a2_0) ∧ w'.cell? ⟨gb327, 1, none⟩ = some (.int .i64 a2_1) ∧ w'.cell? ⟨gb327, 2, none⟩ = some (.slice A2_2 l2_2.length c2_2) ∧ w'.cell? ⟨gb327, 3, none⟩ = some (.int .i64 a2_3) ∧ w'.cell? ⟨gb327, 4, none⟩ = some (.int .i64 a2_4) ∧ w'.cell? ⟨gb327, 5, none⟩ = some (.int .i64 a2_5) ∧ w'.cell? ⟨gb327, 6, none⟩ = some (.int .i64 a2_6) ∧ w'.cell? ⟨gb327, 7, none⟩ = some (.int .i64 a2_7) ∧ w'.cell? ⟨gb327, 8, none⟩ = some (.string a2_8) ∧ w'.cell? ⟨gb327, 9, none⟩ = some (.int .i64 a2_9) ∧ w'.cell? ⟨gb327, 10, none⟩ = some (.slice A2_10 l2_10.length c2_10) ∧ w'.cell? ⟨gb327, 11, none⟩ = some (.slice A2_11 l2_11.length c2_11)) (ds := []) (Steps.Bs 29 0) z0_ rfl rfl (k12e_ BK327) (fun hHeld => ?_); refine with_tabW op_right.tab8 op_right.bits8 (fun HT_ HW_ => ?_)
              generalize wc.drew = w50 at BK327 HB HR332 hHeld ⊢
              refine tI HT_ 0 57 29 1 ?_
              refine tT HT_ HW_ hHeld 1 58 29 3 ?_
              refine tI HT_ 2 59 29 7 ?_
              refine tI HT_ 3 60 29 15 ?_
              refine tI HT_ 4 61 29 31 ?_
              refine tI HT_ 6 63 29 95 ?_
              refine tI HT_ 7 64 29 223 ?_
              refine tT HT_ HW_ hHeld 5 62 29 255 ?_
              refine tI HT_ 8 65 29 511 ?_
              refine tI HT_ 9 66 29 1023 ?_
              refine tI HT_ 10 67 29 2047 ?_
              refine tI HT_ 11 68 29 4095 ?_
              refine tI HT_ 13 70 29 12287 ?_
              refine tI HT_ 14 71 29 28671 ?_
              refine tI HT_ 16 73 29 94207 ?_
              refine tT HT_ HW_ hHeld 12 69 29 98303 ?_
              refine tT HT_ HW_ hHeld 15 72 29 131071 ?_
              refine tT HT_ HW_ hHeld 17 74 29 262143 ?_
              refine tI HT_ 18 75 29 524287 ?_
              refine tI HT_ 19 76 29 1048575 ?_
              refine one_ (i := 20) (N := some 77) (Steps.Bs 29 2097151) rfl rfl (one_of HT_.out z0_) z5_ (fun K hK => ?_)
              refine goes_ Try.func74 z0_ rfl #[.slice A2_10 l2_10.length c2_10, .slice A51 ((((rd_T51 l1 a2_7).f0).take ((wrap64 (a2_9 + 1)) : Int).toNat).drop (a2_9 : Int).toNat).length (c330_0 - a2_9.toNat)] (by rfl) rfl rfl (by (try simp only [List.map_toArray, List.map_cons, List.map_nil]); first | done | (rw [show ((((rd_T51 l1 a2_7).f0).take ((wrap64 (a2_9 + 1)) : Int).toNat).drop (a2_9 : Int).toNat).length = ((wrap64 (a2_9 + 1)).toNat - a2_9.toNat) from (by rw [List.length_drop, List.length_take]; have h_ : ((wrap64 (a2_9 + 1)) : Int) ≤ (((rd_T51 l1 a2_7).f0).length : Int) := of_decide_eq_true z1_; omega)] <;> rfl) | rfl | (simp only [List.length_drop, List.length_take]; rfl) | (go_simp; done) | (simp; done)) ?_
              with_reducible refine (op_small.calls kj3 _ _ l2_10 _ _ ((((rd_T51 l1 a2_7).f0).take ((wrap64 (a2_9 + 1)) : Int).toNat).drop (a2_9 : Int).toNat) false _ ?side1 ?side2 ?side3 ?side4 A43.out).mono ?_
              (case side1 => exact cX_ (C_below HR2_10.out HB.out))
              (case side2 => exact HC2_10.out)
              (case side3 => exact cX_ (C_below HR332.out HB.out))
              (case side4 => exact HC332.out)
              rintro e w52 ⟨rfl, hb⟩
              refine ⟨_, rfl, ?_⟩
              have n0_ := mk_ (bB_ BK327 hb)
              have n1_ := mk_ (below_step (Short.hB HB) hb)
              clear BK327 HB
              revert n0_ n1_
              intro BK327 HB
              (try clear hb)
              (try clear hb2)
              (try clear hk)
              (try clear hi)
              refine hK.out _ _ (k12e_ BK327) (fun hHeld => ?_)
              clear hK K
              refine nrm 77 ?_
              refine tI HT_ 21 78 29 4194303 ?_
              refine tI HT_ 22 79 29 8388607 ?_
              refine tR HT_ 23 80 29 16777215 ?_
              refine tR HT_ 24 81 29 33554431 ?_
              refine tR HT_ 25 82 29 67108863 ?_
              refine tR HT_ 26 83 29 134217727 ?_
              refine tI HT_ 27 84 29 268435455 ?_
              refine tI HT_ 28 6 29 536870911 ?_
              refine done_ (done_of HT_.out z0_) ?_
              try go_wp2
              go_ret
              exact ⟨q0, Short.hB HB⟩
            ·
             rw [if_neg c42] at H
             exact absurd H (by simp)
           ·
            rw [if_neg c41] at H
            exact absurd H (by simp)
          ·
           rw [if_neg c40] at H
           exact absurd H (by simp)
         ·
          rw [if_neg c39] at H
          have c39b0 : decide (a2_9 < (((rd_T51 l1 a2_7).f0).length : Int)) = false := decide_eq_false c39
          clear c39
          obtain rfl := Option.some.inj H
          have hcz_0 := blk_cell BK327.out
          have hfz_0 := blk_frozen BK327.out
          have p330 : 0 ≤ (a2_7 : Int) := of_decide_eq_true z1_
          have q330 : a2_7 < (l1.length : Int) := of_decide_eq_true z1_
          obtain ⟨ad330, A330_0, c330_0, e330, hx330_0, hl330_0, hi330_0⟩ := at_T51 HR1.out a2_7 p330 q330
          cases e330
          replace hx330_0 := up_ HB hx330_0
          have HR330_0 := mk_ hi330_0
          have HC330_0 := mk_ hl330_0
          clear hi330_0 hl330_0
          replace p330 := eq_true p330
          replace q330 := eq_true q330
          try go_wp2
          have n0_ := mk_ (blk_drew BK327.out)
          have n1_ := mk_ (below_drew1 HB.out)
          clear BK327 HB
          revert n0_ n1_
          intro BK327 HB
          refine start_ (n := 29) (S := fun w' => w'.cell? ⟨gb327, 0, none⟩ = some (.int .i64 a2_0) ∧ w'.cell? ⟨gb327, 1, none⟩ = some (.int .i64 a2_1) ∧ w'.cell? ⟨gb327, 2, none⟩ = some (.slice A2_2 l2_2.length c2_2) ∧ w'.cell? ⟨gb327, 3, none⟩ = some (.int .i64 a2_3) ∧ w'.cell? ⟨gb327, 4, none⟩ = some (.int .i64 a2_4) ∧ w'.cell? ⟨gb327, 5, none⟩ = some (.int .i64 a2_5) ∧ w'.cell? ⟨gb327, 6, none⟩ = some (.int .i64 a2_6) ∧ w'.cell? ⟨gb327, 7, none⟩ = some (.int .i64 a2_7) ∧ w'.cell? ⟨gb327, 8, none⟩ = some (.string a2_8) ∧ w'.cell? ⟨gb327, 9, none⟩ = some (.int .i64 a2_9) ∧ w'.cell? ⟨gb327, 10, none⟩ = some (.slice A2_10 l2_10.length c2_10) ∧ w'.cell? ⟨gb327, 11, none⟩ = some (.slice A2_11 l2_11.length c2_11)) (ds := []) (Steps.Bs 29 0) z0_ rfl rfl (k12e_ BK327) (fun hHeld => ?_); refine with_tabW op_right.tab8 op_right.bits8 (fun HT_ HW_ => ?_)
          generalize wc.drew = w54 at BK327 HB hHeld ⊢
          refine tI HT_ 0 57 29 1 ?_
          refine tT HT_ HW_ hHeld 1 58 29 3 ?_
          refine tI HT_ 2 59 29 7 ?_
          refine tI HT_ 3 60 29 15 ?_
          refine tI HT_ 4 61 29 31 ?_
          refine tI HT_ 6 63 29 95 ?_
          refine tI HT_ 7 64 29 223 ?_
          refine tT HT_ HW_ hHeld 5 62 29 255 ?_
          refine tI HT_ 8 65 29 511 ?_
          refine tI HT_ 9 66 29 1023 ?_
          refine tI HT_ 10 67 29 2047 ?_
          refine tR HT_ 11 68 29 4095 ?_
          refine tR HT_ 12 69 29 8191 ?_
          refine tR HT_ 13 70 29 16383 ?_
          refine tR HT_ 14 71 29 32767 ?_
          refine tR HT_ 15 72 29 65535 ?_
          refine tR HT_ 16 73 29 131071 ?_
          refine tR HT_ 17 74 29 262143 ?_
          refine tR HT_ 18 75 29 524287 ?_
          refine tR HT_ 19 76 29 1048575 ?_
          refine tR HT_ 20 77 29 2097151 ?_
          refine tI HT_ 21 78 29 4194303 ?_
          refine tI HT_ 22 79 29 8388607 ?_
          refine tR HT_ 23 80 29 16777215 ?_
          refine tR HT_ 24 81 29 33554431 ?_
          refine tR HT_ 25 82 29 67108863 ?_
          refine tR HT_ 26 83 29 134217727 ?_
          refine tI HT_ 27 84 29 268435455 ?_
          refine tI HT_ 28 6 29 536870911 ?_
          refine done_ (done_of HT_.out z0_) ?_
          try go_wp2
          go_ret
          exact ⟨q0, Short.hB HB⟩
        ·
         rw [if_neg c38] at H
         have c38b0 : decide (0 ≤ a2_9) = false := decide_eq_false c38
         clear c38
         obtain rfl := Option.some.inj H
         have hcz_0 := blk_cell BK327.out
         have hfz_0 := blk_frozen BK327.out
         have p330 : 0 ≤ (a2_7 : Int) := of_decide_eq_true z1_
         have q330 : a2_7 < (l1.length : Int) := of_decide_eq_true z1_
         obtain ⟨ad330, A330_0, c330_0, e330, hx330_0, hl330_0, hi330_0⟩ := at_T51 HR1.out a2_7 p330 q330
         cases e330
         replace hx330_0 := up_ HB hx330_0
         have HR330_0 := mk_ hi330_0
         have HC330_0 := mk_ hl330_0
         clear hi330_0 hl330_0
         replace p330 := eq_true p330
         replace q330 := eq_true q330
         try go_wp2
         have n0_ := mk_ (blk_drew BK327.out)
         have n1_ := mk_ (below_drew1 HB.out)
         clear BK327 HB
         revert n0_ n1_
         intro BK327 HB
         refine start_ (n := 29) (S := fun w' => w'.cell? ⟨gb327, 0, none⟩ = some (.int .i64 a2_0) ∧ w'.cell? ⟨gb327, 1, none⟩ = some (.int .i64 a2_1) ∧ w'.cell? ⟨gb327, 2, none⟩ = some (.slice A2_2 l2_2.length c2_2) ∧ w'.cell? ⟨gb327, 3, none⟩ = some (.int .i64 a2_3) ∧ w'.cell? ⟨gb327, 4, none⟩ = some (.int .i64 a2_4) ∧ w'.cell? ⟨gb327, 5, none⟩ = some (.int .i64 a2_5) ∧ w'.cell? ⟨gb327, 6, none⟩ = some (.int .i64 a2_6) ∧ w'.cell? ⟨gb327, 7, none⟩ = some (.int .i64 a2_7) ∧ w'.cell? ⟨gb327, 8, none⟩ = some (.string a2_8) ∧ w'.cell? ⟨gb327, 9, none⟩ = some (.int .i64 a2_9) ∧ w'.cell? ⟨gb327, 10, none⟩ = some (.slice A2_10 l2_10.length c2_10) ∧ w'.cell? ⟨gb327, 11, none⟩ = some (.slice A2_11 l2_11.length c2_11)) (ds := []) (Steps.Bs 29 0) z0_ rfl rfl (k12e_ BK327) (fun hHeld => ?_); refine with_tabW op_right.tab8 op_right.bits8 (fun HT_ HW_ => ?_)
         generalize wc.drew = w56 at BK327 HB hHeld ⊢
         refine tI HT_ 0 57 29 1 ?_
         refine tT HT_ HW_ hHeld 1 58 29 3 ?_
         refine tI HT_ 2 59 29 7 ?_
         refine tI HT_ 3 60 29 15 ?_
         refine tR HT_ 4 61 29 31 ?_
         refine tR HT_ 5 62 29 63 ?_
         refine tR HT_ 6 63 29 127 ?_
         refine tR HT_ 7 64 29 255 ?_
         refine tR HT_ 8 65 29 511 ?_
         refine tI HT_ 9 66 29 1023 ?_
         refine tI HT_ 10 67 29 2047 ?_
         refine tR HT_ 11 68 29 4095 ?_
         refine tR HT_ 12 69 29 8191 ?_
         refine tR HT_ 13 70 29 16383 ?_
         refine tR HT_ 14 71 29 32767 ?_
         refine tR HT_ 15 72 29 65535 ?_
         refine tR HT_ 16 73 29 131071 ?_
         refine tR HT_ 17 74 29 262143 ?_
         refine tR HT_ 18 75 29 524287 ?_
         refine tR HT_ 19 76 29 1048575 ?_
         refine tR HT_ 20 77 29 2097151 ?_
         refine tI HT_ 21 78 29 4194303 ?_
         refine tI HT_ 22 79 29 8388607 ?_
         refine tR HT_ 23 80 29 16777215 ?_
         refine tR HT_ 24 81 29 33554431 ?_
         refine tR HT_ 25 82 29 67108863 ?_
         refine tR HT_ 26 83 29 134217727 ?_
         refine tI HT_ 27 84 29 268435455 ?_
         refine tI HT_ 28 6 29 536870911 ?_
         refine done_ (done_of HT_.out z0_) ?_
         try go_wp2
         go_ret
         exact ⟨q0, Short.hB HB⟩
       ·
        rw [if_neg c37] at H
        have c37b0 : (a2_6 == 2) = false := beq_eq_false_iff_ne.mpr c37
        have c37b1 : (a2_6 != 2) = true := bne_iff_ne.mpr c37
        by_cases c57 : a2_6 = 3
        ·
         rw [if_pos c57] at H
         have c57b0 : (a2_6 == 3) = true := beq_iff_eq.mpr c57
         have c57b1 : (a2_6 != 3) = false := bne_eq_false_iff_eq.mpr c57
         clear c57
         by_cases c58 : (l2_11.length : Int) ≥ 1
         ·
          rw [if_pos c58] at H
          have c58b0 : decide (1 ≤ (l2_11.length : Int)) = true := decide_eq_true c58
          have c58b1 : decide (1 ≤ l2_11.length) = true := decide_eq_true z3_
          clear c58
          by_cases c59 : (l2_11.length : Int) ≤ 64
          ·
           rw [if_pos c59] at H
           have c59b0 : decide ((l2_11.length : Int) ≤ 64) = true := decide_eq_true c59
           have c59b1 : decide (l2_11.length ≤ 64) = true := decide_eq_true z3_
           clear c59
           obtain ⟨t334, A60, H⟩ := Option.bind_eq_some_iff.mp H
           replace A60 := mk_ A60
           by_cases c61 : t334 = true
           ·
            subst c61
            rw [if_pos rfl] at H
            by_cases c62 : a2_9 = 0
            ·
             rw [if_pos c62] at H
             have c62b0 : (a2_9 == 0) = true := beq_iff_eq.mpr c62
             have c62b1 : (a2_9 != 0) = false := bne_eq_false_iff_eq.mpr c62
             clear c62
             obtain rfl := Option.some.inj H
             have hcz_0 := blk_cell BK327.out
             have hfz_0 := blk_frozen BK327.out
             have p330 : 0 ≤ (a2_7 : Int) := of_decide_eq_true z1_
             have q330 : a2_7 < (l1.length : Int) := of_decide_eq_true z1_
             obtain ⟨ad330, A330_0, c330_0, e330, hx330_0, hl330_0, hi330_0⟩ := at_T51 HR1.out a2_7 p330 q330
             cases e330
             replace hx330_0 := up_ HB hx330_0
             have HR330_0 := mk_ hi330_0
             have HC330_0 := mk_ hl330_0
             clear hi330_0 hl330_0
             replace p330 := eq_true p330
             replace q330 := eq_true q330
             go_wp2_with (first | (go_at_call 75; (with_reducible refine (op_had.calls kj3 _ _ l2_2 _ _ l2_11 true _ ?side1 ?side2 ?side3 ?side4 A60.out).mono ?_); (case side1 => exact cX_ (C_below HR2_2.out HB.out)); (case side2 => exact HC2_2.out); (case side3 => exact cX_ (C_below HR2_11.out HB.out)); (case side4 => exact HC2_11.out); rintro e w64 ⟨rfl, hb⟩; have n0_ := mk_ (bB_ BK327 hb); have n1_ := mk_ (below_step (Short.hB HB) hb); clear BK327 HB; revert n0_ n1_; intro BK327 HB; (try clear hb); (try clear hb2); (try clear hk); (try clear hi); have hcz_0 := blk_cell BK327.out; have hfz_0 := blk_frozen BK327.out))
             go_ret
             exact ⟨q0, Short.hB HB⟩
            ·
             rw [if_neg c62] at H
             have c62b0 : (a2_9 == 0) = false := beq_eq_false_iff_ne.mpr c62
             have c62b1 : (a2_9 != 0) = true := bne_iff_ne.mpr c62
             obtain rfl := Option.some.inj H
             have hcz_0 := blk_cell BK327.out
             have hfz_0 := blk_frozen BK327.out
             have p330 : 0 ≤ (a2_7 : Int) := of_decide_eq_true z1_
             have q330 : a2_7 < (l1.length : Int) := of_decide_eq_true z1_
             obtain ⟨ad330, A330_0, c330_0, e330, hx330_0, hl330_0, hi330_0⟩ := at_T51 HR1.out a2_7 p330 q330
             cases e330
             replace hx330_0 := up_ HB hx330_0
             have HR330_0 := mk_ hi330_0
             have HC330_0 := mk_ hl330_0
             clear hi330_0 hl330_0
             replace p330 := eq_true p330
             replace q330 := eq_true q330
             go_wp2_with (first | (go_at_call 75; (with_reducible refine (op_had.calls kj3 _ _ l2_2 _ _ l2_11 true _ ?side1 ?side2 ?side3 ?side4 A60.out).mono ?_); (case side1 => exact cX_ (C_below HR2_2.out HB.out)); (case side2 => exact HC2_2.out); (case side3 => exact cX_ (C_below HR2_11.out HB.out)); (case side4 => exact HC2_11.out); rintro e w67 ⟨rfl, hb⟩; have n0_ := mk_ (bB_ BK327 hb); have n1_ := mk_ (below_step (Short.hB HB) hb); clear BK327 HB; revert n0_ n1_; intro BK327 HB; (try clear hb); (try clear hb2); (try clear hk); (try clear hi); have hcz_0 := blk_cell BK327.out; have hfz_0 := blk_frozen BK327.out))
             go_ret
             exact ⟨q0, Short.hB HB⟩
           ·
            replace c61 := Bool.eq_false_iff.mpr c61
            subst c61
            rw [if_neg (show ¬ (false = true) by decide)] at H
            obtain rfl := Option.some.inj H
            have hcz_0 := blk_cell BK327.out
            have hfz_0 := blk_frozen BK327.out
            have p330 : 0 ≤ (a2_7 : Int) := of_decide_eq_true z1_
            have q330 : a2_7 < (l1.length : Int) := of_decide_eq_true z1_
            obtain ⟨ad330, A330_0, c330_0, e330, hx330_0, hl330_0, hi330_0⟩ := at_T51 HR1.out a2_7 p330 q330
            cases e330
            replace hx330_0 := up_ HB hx330_0
            have HR330_0 := mk_ hi330_0
            have HC330_0 := mk_ hl330_0
            clear hi330_0 hl330_0
            replace p330 := eq_true p330
            replace q330 := eq_true q330
            go_wp2_with (first | (go_at_call 75; (with_reducible refine (op_had.calls kj3 _ _ l2_2 _ _ l2_11 false _ ?side1 ?side2 ?side3 ?side4 A60.out).mono ?_); (case side1 => exact cX_ (C_below HR2_2.out HB.out)); (case side2 => exact HC2_2.out); (case side3 => exact cX_ (C_below HR2_11.out HB.out)); (case side4 => exact HC2_11.out); rintro e w70 ⟨rfl, hb⟩; have n0_ := mk_ (bB_ BK327 hb); have n1_ := mk_ (below_step (Short.hB HB) hb); clear BK327 HB; revert n0_ n1_; intro BK327 HB; (try clear hb); (try clear hb2); (try clear hk); (try clear hi)))
            go_ret
            exact ⟨q0, Short.hB HB⟩
          ·
           rw [if_neg c59] at H
           have c59b0 : decide ((l2_11.length : Int) ≤ 64) = false := decide_eq_false c59
           have c59b1 : decide (l2_11.length ≤ 64) = false := decide_eq_false z3_
           clear c59
           obtain rfl := Option.some.inj H
           have hcz_0 := blk_cell BK327.out
           have hfz_0 := blk_frozen BK327.out
           have p330 : 0 ≤ (a2_7 : Int) := of_decide_eq_true z1_
           have q330 : a2_7 < (l1.length : Int) := of_decide_eq_true z1_
           obtain ⟨ad330, A330_0, c330_0, e330, hx330_0, hl330_0, hi330_0⟩ := at_T51 HR1.out a2_7 p330 q330
           cases e330
           replace hx330_0 := up_ HB hx330_0
           have HR330_0 := mk_ hi330_0
           have HC330_0 := mk_ hl330_0
           clear hi330_0 hl330_0
           replace p330 := eq_true p330
           replace q330 := eq_true q330
           go_wp2
           go_ret
           exact ⟨q0, Short.hB HB⟩
         ·
          rw [if_neg c58] at H
          have c58b0 : decide (1 ≤ (l2_11.length : Int)) = false := decide_eq_false c58
          have c58b1 : decide (1 ≤ l2_11.length) = false := decide_eq_false z3_
          clear c58
          obtain rfl := Option.some.inj H
          have hcz_0 := blk_cell BK327.out
          have hfz_0 := blk_frozen BK327.out
          have p330 : 0 ≤ (a2_7 : Int) := of_decide_eq_true z1_
          have q330 : a2_7 < (l1.length : Int) := of_decide_eq_true z1_
          obtain ⟨ad330, A330_0, c330_0, e330, hx330_0, hl330_0, hi330_0⟩ := at_T51 HR1.out a2_7 p330 q330
          cases e330
          replace hx330_0 := up_ HB hx330_0
          have HR330_0 := mk_ hi330_0
          have HC330_0 := mk_ hl330_0
          clear hi330_0 hl330_0
          replace p330 := eq_true p330
          replace q330 := eq_true q330
          go_wp2
          go_ret
          exact ⟨q0, Short.hB HB⟩
        ·
         rw [if_neg c57] at H
         have c57b0 : (a2_6 == 3) = false := beq_eq_false_iff_ne.mpr c57
         have c57b1 : (a2_6 != 3) = true := bne_iff_ne.mpr c57
         obtain rfl := Option.some.inj H
         have hcz_0 := blk_cell BK327.out
         have hfz_0 := blk_frozen BK327.out
         have p330 : 0 ≤ (a2_7 : Int) := of_decide_eq_true z1_
         have q330 : a2_7 < (l1.length : Int) := of_decide_eq_true z1_
         obtain ⟨ad330, A330_0, c330_0, e330, hx330_0, hl330_0, hi330_0⟩ := at_T51 HR1.out a2_7 p330 q330
         cases e330
         replace hx330_0 := up_ HB hx330_0
         have HR330_0 := mk_ hi330_0
         have HC330_0 := mk_ hl330_0
         clear hi330_0 hl330_0
         replace p330 := eq_true p330
         replace q330 := eq_true q330
         go_wp2
         go_ret
         exact ⟨q0, Short.hB HB⟩
     ·
      rw [if_neg c24] at H
      exact absurd H (by simp)
    ·
     rw [if_neg c23] at H
     exact absurd H (by simp)
end Go.Proofs.Ytjnjfogfpmeacaa.PAll
end
section
namespace Go.Proofs.Ytjnjfogfpmeacaa.PAll
open Go.RowKit PrintWords PrintLast PrintMore ZipT PrintWords.Kd PrintMore.Kd
attribute [local go_sem] max2_int min2_int max_two min_two max_three min_three max_four min_four   -- for this text's walks alone
set_option linter.unusedVariables false
set_option linter.unusedSimpArgs false
def op_Check.f (k : Nat) (a0 : Int) (l1 : List (S51)) (a2_0 : Int) (a2_1 : Int) (l2_2 : List Int) (a2_3 : Int) (a2_4 : Int) (a2_5 : Int) (a2_6 : Int) (a2_7 : Int) (a2_8 : ByteArray) (a2_9 : Int) (l2_10 : List (S84)) (l2_11 : List (S25)) : Option (Int) := (op_Forms.f k l1).bind fun t336 => (if t336 = 0 then (if a0 < 1 then (some 1) else (if a0 > 5 then (some 1) else ((op_right.f k a0 l1 a2_0 a2_1 l2_2 a2_3 a2_4 a2_5 a2_6 a2_7 a2_8 a2_9 l2_10 l2_11).bind fun t337 => (if t337 = true then (some 0) else (some 1))))) else (some t336))
theorem op_Check.calls (k : Nat) (a0 : Int) (A1 : Option Addr) (c1 : Nat) (l1 : List (S51)) (a2_0 : Int) (a2_1 : Int) (A2_2 : Option Addr) (c2_2 : Nat) (l2_2 : List Int) (a2_3 : Int) (a2_4 : Int) (a2_5 : Int) (a2_6 : Int) (a2_7 : Int) (a2_8 : ByteArray) (a2_9 : Int) (A2_10 : Option Addr) (c2_10 : Nat) (l2_10 : List (S84)) (A2_11 : Option Addr) (c2_11 : Nat) (l2_11 : List (S25)) (r : Int) (w : World) (hr1 : Kd.C k51 w A1 l1.length l1) (hc1 : l1.length ≤ c1) (hr2_2 : Kd.C (Kd.int .i64) w A2_2 l2_2.length l2_2) (hc2_2 : l2_2.length ≤ c2_2) (hr2_10 : Kd.C k84 w A2_10 l2_10.length l2_10) (hc2_10 : l2_10.length ≤ c2_10) (hr2_11 : Kd.C k25 w A2_11 l2_11.length l2_11) (hc2_11 : l2_11.length ≤ c2_11) (h : op_Check.f k a0 l1 a2_0 a2_1 l2_2 a2_3 a2_4 a2_5 a2_6 a2_7 a2_8 a2_9 l2_10 l2_11 = some r) :
  Calls Try.prog 19 #[.int .i64 a0, .slice A1 l1.length c1, .agg #[.int .i64 a2_0, .int .i64 a2_1, .slice A2_2 l2_2.length c2_2, .int .i64 a2_3, .int .i64 a2_4, .int .i64 a2_5, .int .i64 a2_6, .int .i64 a2_7, .string a2_8, .int .i64 a2_9, .slice A2_10 l2_10.length c2_10, .slice A2_11 l2_11.length c2_11]] w fun e w' => e = .returned (.int .i64 r) ∧ Below w.heap.size w w' := by
 have hu32 := Try.underlying32
 have HR1 := mk_ hr1
 have HC1 := mk_ hc1
 clear hr1 hc1
 have HR2_2 := mk_ hr2_2
 have HC2_2 := mk_ hc2_2
 clear hr2_2 hc2_2
 have HR2_10 := mk_ hr2_10
 have HC2_10 := mk_ hc2_10
 clear hr2_10 hc2_10
 have HR2_11 := mk_ hr2_11
 have HC2_11 := mk_ hc2_11
 clear hr2_11 hc2_11
 have HB := mk_ (Below.refl w.heap.size w)
 have H : ((op_Forms.f k l1).bind fun t336 => (if t336 = 0 then (if a0 < 1 then (some 1) else (if a0 > 5 then (some 1) else ((op_right.f k a0 l1 a2_0 a2_1 l2_2 a2_3 a2_4 a2_5 a2_6 a2_7 a2_8 a2_9 l2_10 l2_11).bind fun t337 => (if t337 = true then (some 0) else (some 1))))) else (some t336))) = some r := h
 clear h
 obtain ⟨t336, A4, H⟩ := Option.bind_eq_some_iff.mp H
 replace A4 := mk_ A4
 by_cases c5 : t336 = 0
 rotate_left
 ·
  rw [if_neg c5] at H
  have c5b0 : (t336 == 0) = false := beq_eq_false_iff_ne.mpr c5
  have c5b1 : (t336 != 0) = true := bne_iff_ne.mpr c5
  obtain rfl := Option.some.inj H
  go_enter Try.func19, Try.ntmps19
  go_wp2_with (first | ((with_reducible refine gate_dst (N := 5) rfl ?_); refine box_event ?hg (N := 5) ?hd (cs := #[.int .i64 a2_0, .int .i64 a2_1, .slice A2_2 l2_2.length c2_2, .int .i64 a2_3, .int .i64 a2_4, .int .i64 a2_5, .int .i64 a2_6, .int .i64 a2_7, .string a2_8, .int .i64 a2_9, .slice A2_10 l2_10.length c2_10, .slice A2_11 l2_11.length c2_11]) (t := 32) ?hr ?_; (case hd => rfl); (case hg => rfl); (case hr => first | (go_simp; done) | (go_simp; rfl)); intro gb335 hg w22 hbox hb; have n0_ := mk_ (below_step (Short.hB HB) hb); have n1_ := mk_ (hbox); have n2_ := mk_ ((by rw [hg]; exact (below_size (Short.hB HB)) : w.heap.size ≤ gb335)); have n3_ := mk_ ((by rw [hg]; exact (below_size (Short.hB HB)) : w.heap.size ≤ gb335)); clear HB; revert n0_ n1_ n2_ n3_; intro HB BK335 GW335 GE335; clear hb hbox hg) | ((with_reducible refine gate_callee (f := 24) rfl ?_); refine Short.gL (some 9) Try.func24 #[.slice A1 l1.length c1] (h := ?_); (with_reducible refine (op_Forms.calls k _ _ l1 t336 _ ?side1 ?side2 A4.out).mono ?_); (case side1 => exact cX_ (C_below HR1.out HB.out)); (case side2 => exact HC1.out); rintro e w23 ⟨rfl, hb⟩; refine ⟨_, rfl, ?_⟩; have n0_ := mk_ (bB_ BK335 hb); have n1_ := mk_ (below_step (Short.hB HB) hb); clear BK335 HB; revert n0_ n1_; intro BK335 HB; (try clear hb)))
  go_ret
  exact ⟨q0, Short.hB HB⟩
 rw [if_pos c5] at H
 have c5b0 : (t336 == 0) = true := beq_iff_eq.mpr c5
 have c5b1 : (t336 != 0) = false := bne_eq_false_iff_eq.mpr c5
 clear c5
 by_cases c6 : a0 < 1
 ·
  rw [if_pos c6] at H
  have c6b0 : decide (a0 < 1) = true := decide_eq_true c6
  clear c6
  obtain rfl := Option.some.inj H
  go_enter Try.func19, Try.ntmps19
  go_wp2_with (first | ((with_reducible refine gate_dst (N := 5) rfl ?_); refine box_event ?hg (N := 5) ?hd (cs := #[.int .i64 a2_0, .int .i64 a2_1, .slice A2_2 l2_2.length c2_2, .int .i64 a2_3, .int .i64 a2_4, .int .i64 a2_5, .int .i64 a2_6, .int .i64 a2_7, .string a2_8, .int .i64 a2_9, .slice A2_10 l2_10.length c2_10, .slice A2_11 l2_11.length c2_11]) (t := 32) ?hr ?_; (case hd => rfl); (case hg => rfl); (case hr => first | (go_simp; done) | (go_simp; rfl)); intro gb335 hg w7 hbox hb; have n0_ := mk_ (below_step (Short.hB HB) hb); have n1_ := mk_ (hbox); have n2_ := mk_ ((by rw [hg]; exact (below_size (Short.hB HB)) : w.heap.size ≤ gb335)); have n3_ := mk_ ((by rw [hg]; exact (below_size (Short.hB HB)) : w.heap.size ≤ gb335)); clear HB; revert n0_ n1_ n2_ n3_; intro HB BK335 GW335 GE335; clear hb hbox hg) | ((with_reducible refine gate_callee (f := 24) rfl ?_); refine Short.gL (some 9) Try.func24 #[.slice A1 l1.length c1] (h := ?_); (with_reducible refine (op_Forms.calls k _ _ l1 t336 _ ?side1 ?side2 A4.out).mono ?_); (case side1 => exact cX_ (C_below HR1.out HB.out)); (case side2 => exact HC1.out); rintro e w8 ⟨rfl, hb⟩; refine ⟨_, rfl, ?_⟩; have n0_ := mk_ (bB_ BK335 hb); have n1_ := mk_ (below_step (Short.hB HB) hb); clear BK335 HB; revert n0_ n1_; intro BK335 HB; (try clear hb)))
  go_ret
  exact ⟨q0, Short.hB HB⟩
 rw [if_neg c6] at H
 have c6b0 : decide (a0 < 1) = false := decide_eq_false c6
 clear c6
 by_cases c9 : a0 > 5
 ·
  rw [if_pos c9] at H
  have c9b0 : decide (5 < a0) = true := decide_eq_true c9
  clear c9
  obtain rfl := Option.some.inj H
  go_enter Try.func19, Try.ntmps19
  go_wp2_with (first | ((with_reducible refine gate_dst (N := 5) rfl ?_); refine box_event ?hg (N := 5) ?hd (cs := #[.int .i64 a2_0, .int .i64 a2_1, .slice A2_2 l2_2.length c2_2, .int .i64 a2_3, .int .i64 a2_4, .int .i64 a2_5, .int .i64 a2_6, .int .i64 a2_7, .string a2_8, .int .i64 a2_9, .slice A2_10 l2_10.length c2_10, .slice A2_11 l2_11.length c2_11]) (t := 32) ?hr ?_; (case hd => rfl); (case hg => rfl); (case hr => first | (go_simp; done) | (go_simp; rfl)); intro gb335 hg w10 hbox hb; have n0_ := mk_ (below_step (Short.hB HB) hb); have n1_ := mk_ (hbox); have n2_ := mk_ ((by rw [hg]; exact (below_size (Short.hB HB)) : w.heap.size ≤ gb335)); have n3_ := mk_ ((by rw [hg]; exact (below_size (Short.hB HB)) : w.heap.size ≤ gb335)); clear HB; revert n0_ n1_ n2_ n3_; intro HB BK335 GW335 GE335; clear hb hbox hg) | ((with_reducible refine gate_callee (f := 24) rfl ?_); refine Short.gL (some 9) Try.func24 #[.slice A1 l1.length c1] (h := ?_); (with_reducible refine (op_Forms.calls k _ _ l1 t336 _ ?side1 ?side2 A4.out).mono ?_); (case side1 => exact cX_ (C_below HR1.out HB.out)); (case side2 => exact HC1.out); rintro e w11 ⟨rfl, hb⟩; refine ⟨_, rfl, ?_⟩; have n0_ := mk_ (bB_ BK335 hb); have n1_ := mk_ (below_step (Short.hB HB) hb); clear BK335 HB; revert n0_ n1_; intro BK335 HB; (try clear hb)))
  go_ret
  exact ⟨q0, Short.hB HB⟩
 rw [if_neg c9] at H
 have c9b0 : decide (5 < a0) = false := decide_eq_false c9
 clear c9
 obtain ⟨t337, A12, H⟩ := Option.bind_eq_some_iff.mp H
 replace A12 := mk_ A12
 by_cases c13 : t337 = true
 ·
  subst c13
  rw [if_pos rfl] at H
  obtain rfl := Option.some.inj H
  go_enter Try.func19, Try.ntmps19
  go_wp2_with (first | ((with_reducible refine gate_dst (N := 5) rfl ?_); refine box_event ?hg (N := 5) ?hd (cs := #[.int .i64 a2_0, .int .i64 a2_1, .slice A2_2 l2_2.length c2_2, .int .i64 a2_3, .int .i64 a2_4, .int .i64 a2_5, .int .i64 a2_6, .int .i64 a2_7, .string a2_8, .int .i64 a2_9, .slice A2_10 l2_10.length c2_10, .slice A2_11 l2_11.length c2_11]) (t := 32) ?hr ?_; (case hd => rfl); (case hg => rfl); (case hr => first | (go_simp; done) | (go_simp; rfl)); intro gb335 hg w14 hbox hb; have n0_ := mk_ (below_step (Short.hB HB) hb); have n1_ := mk_ (hbox); have n2_ := mk_ ((by rw [hg]; exact (below_size (Short.hB HB)) : w.heap.size ≤ gb335)); have n3_ := mk_ ((by rw [hg]; exact (below_size (Short.hB HB)) : w.heap.size ≤ gb335)); clear HB; revert n0_ n1_ n2_ n3_; intro HB BK335 GW335 GE335; clear hb hbox hg) | ((with_reducible refine gate_callee (f := 24) rfl ?_); refine Short.gL (some 9) Try.func24 #[.slice A1 l1.length c1] (h := ?_); (with_reducible refine (op_Forms.calls k _ _ l1 t336 _ ?side1 ?side2 A4.out).mono ?_); (case side1 => exact cX_ (C_below HR1.out HB.out)); (case side2 => exact HC1.out); rintro e w15 ⟨rfl, hb⟩; refine ⟨_, rfl, ?_⟩; have n0_ := mk_ (bB_ BK335 hb); have n1_ := mk_ (below_step (Short.hB HB) hb); clear BK335 HB; revert n0_ n1_; intro BK335 HB; (try clear hb); have hcz_0 := blk_cell BK335.out; have hfz_0 := blk_frozen BK335.out) | (go_at_call 36; (with_reducible refine (op_right.calls k a0 _ _ l1 a2_0 a2_1 _ _ l2_2 a2_3 a2_4 a2_5 a2_6 a2_7 a2_8 a2_9 _ _ l2_10 _ _ l2_11 true _ ?side1 ?side2 ?side3 ?side4 ?side5 ?side6 ?side7 ?side8 A12.out).mono ?_); (case side1 => exact cX_ (C_below HR1.out HB.out)); (case side2 => exact HC1.out); (case side3 => exact cX_ (C_below HR2_2.out HB.out)); (case side4 => exact HC2_2.out); (case side5 => exact cX_ (C_below HR2_10.out HB.out)); (case side6 => exact HC2_10.out); (case side7 => exact cX_ (C_below HR2_11.out HB.out)); (case side8 => exact HC2_11.out); rintro e w17 ⟨rfl, hb⟩; have n0_ := mk_ (bB_ BK335 hb); have n1_ := mk_ (below_step (Short.hB HB) hb); clear BK335 HB; revert n0_ n1_; intro BK335 HB; (try clear hb); (try clear hb2); (try clear hk); (try clear hi)))
  go_ret
  exact ⟨q0, Short.hB HB⟩
 replace c13 := Bool.eq_false_iff.mpr c13
 subst c13
 rw [if_neg (show ¬ (false = true) by decide)] at H
 obtain rfl := Option.some.inj H
 go_enter Try.func19, Try.ntmps19
 go_wp2_with (first | ((with_reducible refine gate_dst (N := 5) rfl ?_); refine box_event ?hg (N := 5) ?hd (cs := #[.int .i64 a2_0, .int .i64 a2_1, .slice A2_2 l2_2.length c2_2, .int .i64 a2_3, .int .i64 a2_4, .int .i64 a2_5, .int .i64 a2_6, .int .i64 a2_7, .string a2_8, .int .i64 a2_9, .slice A2_10 l2_10.length c2_10, .slice A2_11 l2_11.length c2_11]) (t := 32) ?hr ?_; (case hd => rfl); (case hg => rfl); (case hr => first | (go_simp; done) | (go_simp; rfl)); intro gb335 hg w18 hbox hb; have n0_ := mk_ (below_step (Short.hB HB) hb); have n1_ := mk_ (hbox); have n2_ := mk_ ((by rw [hg]; exact (below_size (Short.hB HB)) : w.heap.size ≤ gb335)); have n3_ := mk_ ((by rw [hg]; exact (below_size (Short.hB HB)) : w.heap.size ≤ gb335)); clear HB; revert n0_ n1_ n2_ n3_; intro HB BK335 GW335 GE335; clear hb hbox hg) | ((with_reducible refine gate_callee (f := 24) rfl ?_); refine Short.gL (some 9) Try.func24 #[.slice A1 l1.length c1] (h := ?_); (with_reducible refine (op_Forms.calls k _ _ l1 t336 _ ?side1 ?side2 A4.out).mono ?_); (case side1 => exact cX_ (C_below HR1.out HB.out)); (case side2 => exact HC1.out); rintro e w19 ⟨rfl, hb⟩; refine ⟨_, rfl, ?_⟩; have n0_ := mk_ (bB_ BK335 hb); have n1_ := mk_ (below_step (Short.hB HB) hb); clear BK335 HB; revert n0_ n1_; intro BK335 HB; (try clear hb); have hcz_0 := blk_cell BK335.out; have hfz_0 := blk_frozen BK335.out) | (go_at_call 36; (with_reducible refine (op_right.calls k a0 _ _ l1 a2_0 a2_1 _ _ l2_2 a2_3 a2_4 a2_5 a2_6 a2_7 a2_8 a2_9 _ _ l2_10 _ _ l2_11 false _ ?side1 ?side2 ?side3 ?side4 ?side5 ?side6 ?side7 ?side8 A12.out).mono ?_); (case side1 => exact cX_ (C_below HR1.out HB.out)); (case side2 => exact HC1.out); (case side3 => exact cX_ (C_below HR2_2.out HB.out)); (case side4 => exact HC2_2.out); (case side5 => exact cX_ (C_below HR2_10.out HB.out)); (case side6 => exact HC2_10.out); (case side7 => exact cX_ (C_below HR2_11.out HB.out)); (case side8 => exact HC2_11.out); rintro e w21 ⟨rfl, hb⟩; have n0_ := mk_ (bB_ BK335 hb); have n1_ := mk_ (below_step (Short.hB HB) hb); clear BK335 HB; revert n0_ n1_; intro BK335 HB; (try clear hb); (try clear hb2); (try clear hk); (try clear hi)))
 go_ret
 exact ⟨q0, Short.hB HB⟩
def raddleref01_in.f (a0 : Int) (a1 : Int) (a2 : Int) : Option (Bool) := if a0 ≥ a1 then (some (decide (a0 ≤ a2))) else (some false)
theorem raddleref01_in.calls (a0 : Int) (a1 : Int) (a2 : Int) (r : Bool) (w : World) (h : raddleref01_in.f a0 a1 a2 = some r) :
  Calls Try.prog 27 #[.int .i64 a0, .int .i64 a1, .int .i64 a2] w fun e w' => e = .returned (.bool r) ∧ Drawn0 w w' := by
 have H : (if a0 ≥ a1 then (some (decide (a0 ≤ a2))) else (some false)) = some r := h
 clear h
 by_cases c4 : a0 ≥ a1
 ·
  rw [if_pos c4] at H
  have c4b0 : decide (a1 ≤ a0) = true := decide_eq_true c4
  clear c4
  obtain rfl := Option.some.inj H
  go_enter Try.func27, Try.ntmps27
  go_wp2
  go_ret
  exact ⟨z4_, by repeat (first | exact Drawn0.refl _ | apply Drawn0.step)⟩
 rw [if_neg c4] at H
 have c4b0 : decide (a1 ≤ a0) = false := decide_eq_false c4
 clear c4
 obtain rfl := Option.some.inj H
 go_enter Try.func27, Try.ntmps27
 go_wp2
 go_ret
 exact ⟨z4_, by repeat (first | exact Drawn0.refl _ | apply Drawn0.step)⟩
def raddleref01_Value.f (a0_0 : Int) (a0_1 : Int) (a0_2 : ByteArray) : Option (Bool) := if a0_0 = 1 then (if a0_1 = 0 then (some (a0_2.toList == ([] : List UInt8))) else (some false)) else (if a0_0 = 2 then ((raddleref01_in.f a0_1 0 1).bind fun t407 => (if t407 = true then (some (a0_2.toList == ([] : List UInt8))) else (some false))) else (if a0_0 = 3 then ((raddleref01_in.f a0_1 (-1152921504606846976) 1152921504606846976).bind fun t408 => (if t408 = true then (some (a0_2.toList == ([] : List UInt8))) else (some false))) else (if a0_0 = 4 then (if a0_1 = 0 then (some (decide ((a0_2.size : Int) ≤ 24))) else (some false)) else (some false))))
theorem raddleref01_Value.calls (a0_0 : Int) (a0_1 : Int) (a0_2 : ByteArray) (r : Bool) (w : World) (h : raddleref01_Value.f a0_0 a0_1 a0_2 = some r) :
  Calls Try.prog 84 #[.agg #[.int .i64 a0_0, .int .i64 a0_1, .string a0_2]] w fun e w' => e = .returned (.bool r) ∧ Below w.heap.size w w' := by
 have hu84 := Try.underlying84
 have HB := mk_ (Below.refl w.heap.size w)
 have H : (if a0_0 = 1 then (if a0_1 = 0 then (some (a0_2.toList == ([] : List UInt8))) else (some false)) else (if a0_0 = 2 then ((raddleref01_in.f a0_1 0 1).bind fun t407 => (if t407 = true then (some (a0_2.toList == ([] : List UInt8))) else (some false))) else (if a0_0 = 3 then ((raddleref01_in.f a0_1 (-1152921504606846976) 1152921504606846976).bind fun t408 => (if t408 = true then (some (a0_2.toList == ([] : List UInt8))) else (some false))) else (if a0_0 = 4 then (if a0_1 = 0 then (some (decide ((a0_2.size : Int) ≤ 24))) else (some false)) else (some false))))) = some r := h
 clear h
 by_cases c2 : a0_0 = 1
 rotate_left
 rw [if_neg c2] at H
 have c2b0 : (a0_0 == 1) = false := beq_eq_false_iff_ne.mpr c2
 have c2b1 : (a0_0 != 1) = true := bne_iff_ne.mpr c2
 by_cases c8 : a0_0 = 2
 rotate_left
 rw [if_neg c8] at H
 have c8b0 : (a0_0 == 2) = false := beq_eq_false_iff_ne.mpr c8
 have c8b1 : (a0_0 != 2) = true := bne_iff_ne.mpr c8
 by_cases c15 : a0_0 = 3
 rotate_left
 rw [if_neg c15] at H
 have c15b0 : (a0_0 == 3) = false := beq_eq_false_iff_ne.mpr c15
 have c15b1 : (a0_0 != 3) = true := bne_iff_ne.mpr c15
 by_cases c22 : a0_0 = 4
 rotate_left
 rw [if_neg c22] at H
 have c22b0 : (a0_0 == 4) = false := beq_eq_false_iff_ne.mpr c22
 have c22b1 : (a0_0 != 4) = true := bne_iff_ne.mpr c22
 obtain rfl := Option.some.inj H
 rotate_right
 rw [if_pos c22] at H
 have c22b0 : (a0_0 == 4) = true := beq_iff_eq.mpr c22
 have c22b1 : (a0_0 != 4) = false := bne_eq_false_iff_eq.mpr c22
 clear c22
 by_cases c23 : a0_1 = 0
 rotate_left
 rw [if_neg c23] at H
 have c23b0 : (a0_1 == 0) = false := beq_eq_false_iff_ne.mpr c23
 have c23b1 : (a0_1 != 0) = true := bne_iff_ne.mpr c23
 obtain rfl := Option.some.inj H
 rotate_right
 rw [if_pos c23] at H
 have c23b0 : (a0_1 == 0) = true := beq_iff_eq.mpr c23
 have c23b1 : (a0_1 != 0) = false := bne_eq_false_iff_eq.mpr c23
 clear c23
 obtain rfl := Option.some.inj H
 rotate_right
 rw [if_pos c15] at H
 have c15b0 : (a0_0 == 3) = true := beq_iff_eq.mpr c15
 have c15b1 : (a0_0 != 3) = false := bne_eq_false_iff_eq.mpr c15
 clear c15
 obtain ⟨t408, A16, H⟩ := Option.bind_eq_some_iff.mp H
 replace A16 := mk_ A16
 by_cases c17 : t408 = true
 rotate_left
 replace c17 := Bool.eq_false_iff.mpr c17
 subst c17
 rw [if_neg (show ¬ (false = true) by decide)] at H
 obtain rfl := Option.some.inj H
 rotate_right
 subst c17
 rw [if_pos rfl] at H
 obtain rfl := Option.some.inj H
 rotate_right
 rw [if_pos c8] at H
 have c8b0 : (a0_0 == 2) = true := beq_iff_eq.mpr c8
 have c8b1 : (a0_0 != 2) = false := bne_eq_false_iff_eq.mpr c8
 clear c8
 obtain ⟨t407, A9, H⟩ := Option.bind_eq_some_iff.mp H
 replace A9 := mk_ A9
 by_cases c10 : t407 = true
 rotate_left
 replace c10 := Bool.eq_false_iff.mpr c10
 subst c10
 rw [if_neg (show ¬ (false = true) by decide)] at H
 obtain rfl := Option.some.inj H
 rotate_right
 subst c10
 rw [if_pos rfl] at H
 obtain rfl := Option.some.inj H
 rotate_right
 rw [if_pos c2] at H
 have c2b0 : (a0_0 == 1) = true := beq_iff_eq.mpr c2
 have c2b1 : (a0_0 != 1) = false := bne_eq_false_iff_eq.mpr c2
 clear c2
 by_cases c3 : a0_1 = 0
 rotate_left
 rw [if_neg c3] at H
 have c3b0 : (a0_1 == 0) = false := beq_eq_false_iff_ne.mpr c3
 have c3b1 : (a0_1 != 0) = true := bne_iff_ne.mpr c3
 obtain rfl := Option.some.inj H
 rotate_right
 rw [if_pos c3] at H
 have c3b0 : (a0_1 == 0) = true := beq_iff_eq.mpr c3
 have c3b1 : (a0_1 != 0) = false := bne_eq_false_iff_eq.mpr c3
 clear c3
 obtain rfl := Option.some.inj H
 all_goals
  go_enter Try.func84, Try.ntmps84
  go_wp2_with (first | ((with_reducible refine gate_dst (N := 1) rfl ?_); (try (refine gate_guard (by rfl) ?_; dsimp only)); refine box_event ?hg (N := 1) ?hd (cs := #[.int .i64 a0_0, .int .i64 a0_1, .string a0_2]) (t := 84) ?hr ?_; (case hd => rfl); (case hg => rfl); (case hr => first | (go_simp; done) | (go_simp; rfl)); intro gb406 hg w_1 hbox hb; have n0_ := mk_ (below_step (Short.hB HB) hb); have n1_ := mk_ (hbox); have n2_ := mk_ ((by rw [hg]; exact (below_size (Short.hB HB)) : w.heap.size ≤ gb406)); have n3_ := mk_ ((by rw [hg]; exact (below_size (Short.hB HB)) : w.heap.size ≤ gb406)); clear HB; revert n0_ n1_ n2_ n3_; intro HB BK406 GW406 GE406; clear hb hbox hg; obtain ⟨hcz_0, hcz_1, hcz_2, hfz_0, hfz_1, hfz_2⟩ := Short.c3 BK406.out) | ((with_reducible refine gate_callee (f := 27) rfl ?_); refine Short.gL (some 29) Try.func27 #[.int .i64 a0_1, .int .i64 (-1152921504606846976), .int .i64 1152921504606846976] (h := ?_); (with_reducible refine (raddleref01_in.calls a0_1 (-1152921504606846976) 1152921504606846976 _ _ A16.out).mono ?_); rintro e w' ⟨rfl, ⟨nd, rfl⟩⟩; refine ⟨_, rfl, ?_⟩) | ((with_reducible refine gate_callee (f := 27) rfl ?_); refine Short.gL (some 19) Try.func27 #[.int .i64 a0_1, .int .i64 0, .int .i64 1] (h := ?_); (with_reducible refine (raddleref01_in.calls a0_1 0 1 _ _ A9.out).mono ?_); rintro e w' ⟨rfl, ⟨nd, rfl⟩⟩; refine ⟨_, rfl, ?_⟩))
  go_ret
  exact ⟨q0, Short.hB HB⟩
end Go.Proofs.Ytjnjfogfpmeacaa.PAll
end
