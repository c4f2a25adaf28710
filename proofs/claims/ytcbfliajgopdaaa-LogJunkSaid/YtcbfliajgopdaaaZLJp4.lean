-- Put together by a program of this session (wip/slice2.py) out of the seat's texts.
import Derived.Test.YtcbfliajgopdaaaZLJp3
import Derived.Laws.Strings
section
namespace Go.Proofs.Ytcbfliajgopdaaa.Plain
open Go.RowKit Go.Proofs.Ytcbfliajgopdaaa.PAll Go.Proofs.YtcbfliajgopdaaaW.PrintWords Go.Proofs.YtcbfliajgopdaaaW.PrintLast Go.Proofs.YtcbfliajgopdaaaW.PrintMore Go.Proofs.Ytcbfliajgopdaaa.ZipT Go.Proofs.YtcbfliajgopdaaaW.PrintWords.Kd Go.Proofs.YtcbfliajgopdaaaW.PrintMore.Kd
set_option linter.unusedVariables false
set_option linter.unusedSimpArgs false
theorem val_ge (l : List Int) : ∀ a : Int, 0 ≤ a → Bytes l → a * 256 ^ l.length ≤ val a l := by
 induction l with
 | nil => intro a h _; simp [val]
 | cons b l ih =>
  intro a h hb
  have h1 := hb.head
  unfold Byte at h1
  have h2 := ih (a * 256 + b) z2_ hb.tail
  have h3 := pow_pos l.length
  rw [val]
  refine Int.le_trans ?_ h2
  rw [List.length_cons, Int.pow_succ, Int.mul_comm ((256 : Int) ^ l.length), ← Int.mul_assoc]
  exact Int.mul_le_mul_of_nonneg_right z2_ z2_
theorem toList_data (b : ByteArray) : b.toList = b.data.toList := Go.ByteArray.toList_eq b
end Go.Proofs.Ytcbfliajgopdaaa.Plain
end
section
namespace Go.Proofs.Ytcbfliajgopdaaa.PAll
open Go.RowKit Go.Proofs.YtcbfliajgopdaaaW.PrintWords Go.Proofs.YtcbfliajgopdaaaW.PrintLast Go.Proofs.YtcbfliajgopdaaaW.PrintMore Go.Proofs.Ytcbfliajgopdaaa.ZipT Go.Proofs.YtcbfliajgopdaaaW.PrintWords.Kd Go.Proofs.YtcbfliajgopdaaaW.PrintMore.Kd
attribute [local go_sem] max2_int min2_int max_two min_two max_three min_three max_four min_four   -- for this text's walks alone
set_option linter.unusedVariables false
set_option linter.unusedSimpArgs false
def raddlekeep_Ints.l0 : Nat → List Int → List Int → Int → Option (Bool)
 | 0, _, _, _ => none
 | k + 1, x0, x1, x5 => if x5 < (x0.length : Int) then (if 0 ≤ x5 then (if x5 < (x1.length : Int) then (if (rd x0 x5) = (rd x1 x5) then (raddlekeep_Ints.l0 k x0 x1 (wrap64 (x5 + 1))) else (some false)) else (none)) else (none)) else (some true)
def raddlekeep_Ints.f (k : Nat) (l0 : List Int) (l1 : List Int) : Option (Bool) := if (l0.length : Int) = (l1.length : Int) then (raddlekeep_Ints.l0 k l0 l1 0) else (some false)
set_option maxHeartbeats 8000000 in
set_option maxRecDepth 100000 in
theorem raddlekeep_Ints.calls (k : Nat) (A0 : Option Addr) (c0 : Nat) (l0 : List Int) (A1 : Option Addr) (c1 : Nat) (l1 : List Int) (r : Bool) (w : World) (hr0 : Kd.C (Kd.int .i64) w A0 l0.length l0) (hc0 : l0.length ≤ c0) (hr1 : Kd.C (Kd.int .i64) w A1 l1.length l1) (hc1 : l1.length ≤ c1) (h : raddlekeep_Ints.f k l0 l1 = some r) :
  Calls Try.prog 41 #[.slice A0 l0.length c0, .slice A1 l1.length c1] w fun e w' => e = .returned (.bool r) ∧ Drawn0 w w' := by
 have HR0 := mk_ hr0
 have HC0 := mk_ hc0
 clear hr0 hc0
 have HR1 := mk_ hr1
 have HC1 := mk_ hc1
 clear hr1 hc1
 have H : (if (l0.length : Int) = (l1.length : Int) then (raddlekeep_Ints.l0 k l0 l1 0) else (some false)) = some r := h
 clear h
 by_cases c3 : (l0.length : Int) = (l1.length : Int)
 ·
  rw [if_pos c3] at H
  have c3b0 : ((l0.length : Int) == (l1.length : Int)) = true := beq_iff_eq.mpr c3
  have c3b1 : ((l0.length : Int) != (l1.length : Int)) = false := bne_eq_false_iff_eq.mpr c3
  have c3b2 : (l0.length == l1.length) = true := by first | simpa using c3 | (simp at c3 ⊢; omega)
  clear c3
  have H' := mk_ H
  clear H
  go_enter Try.func41, Try.ntmps41
  go_wp2
  repeat (go_quiet (fail); try go_wp2)
  go_loopg [5] k (fun kq v5 w' => ∃ (x5_1 : Int), v5 = .int .i64 x5_1 ∧ Aside0 (raddlekeep_Ints.l0 kq l0 l1 x5_1 = some r) ∧ Aside0 (kq ≤ k) ∧ Drawn0 w w')
  case atStart => exact ⟨(0), z3_, H', ⟨Nat.le_refl _⟩, by repeat (first | exact Drawn0.refl _ | apply Drawn0.step)⟩
  case round =>
   clear H'
   try clear c1
   try clear p2
   try clear c3
   try clear c3b0
   try clear c3b1
   try clear c3b2
   obtain ⟨x5_1, rfl, HA, HK1, ⟨m1, rfl⟩⟩ := hrel
   cases gk with
   | zero => exact absurd HA.out (by simp [raddlekeep_Ints.l0])
   | succ k1 =>
    have H := HA.out
    clear HA
    simp only [raddlekeep_Ints.l0] at H
    by_cases c4 : x5_1 < (l0.length : Int)
    ·
     rw [if_pos c4] at H
     have c4b0 : decide (x5_1 < (l0.length : Int)) = true := decide_eq_true c4
     clear c4
     by_cases c5 : 0 ≤ x5_1
     ·
      rw [if_pos c5] at H
      have c5b0 : decide (0 ≤ x5_1) = true := decide_eq_true c5
      clear c5
      by_cases c6 : x5_1 < (l1.length : Int)
      ·
       rw [if_pos c6] at H
       have c6b0 : decide (x5_1 < (l1.length : Int)) = true := decide_eq_true c6
       clear c6
       by_cases c7 : (rd l0 x5_1) = (rd l1 x5_1)
       ·
        rw [if_pos c7] at H
        have c7b0 : ((rd l0 x5_1) == (rd l1 x5_1)) = true := beq_iff_eq.mpr c7
        have c7b1 : ((rd l0 x5_1) != (rd l1 x5_1)) = false := bne_eq_false_iff_eq.mpr c7
        clear c7
        have H' := mk_ H
        clear H
        have p294 : 0 ≤ (x5_1 : Int) := of_decide_eq_true z0_
        have q294 : x5_1 < (l0.length : Int) := of_decide_eq_true z0_
        obtain ⟨ad294, e294, hx294_0⟩ := Kd.at_int HR0.out x5_1 p294 q294
        cases e294
        replace p294 := eq_true p294
        replace q294 := eq_true q294
        have p295 : 0 ≤ (x5_1 : Int) := of_decide_eq_true z0_
        have q295 : x5_1 < (l1.length : Int) := of_decide_eq_true z0_
        obtain ⟨ad295, e295, hx295_0⟩ := Kd.at_int HR1.out x5_1 p295 q295
        cases e295
        replace p295 := eq_true p295
        replace q295 := eq_true q295
        go_wp2
        repeat (go_quiet (fail); try go_wp2)
        go_roundg k1
        case measure => have := HK1.out; omega
        case rel => exact ⟨(wrap64 (x5_1 + 1)), z3_, H', ⟨by have := HK1.out; omega⟩, by repeat (first | exact Drawn0.refl _ | apply Drawn0.step)⟩
       ·
        rw [if_neg c7] at H
        have c7b0 : ((rd l0 x5_1) == (rd l1 x5_1)) = false := beq_eq_false_iff_ne.mpr c7
        have c7b1 : ((rd l0 x5_1) != (rd l1 x5_1)) = true := bne_iff_ne.mpr c7
        obtain rfl := Option.some.inj H
        have p294 : 0 ≤ (x5_1 : Int) := of_decide_eq_true z0_
        have q294 : x5_1 < (l0.length : Int) := of_decide_eq_true z0_
        obtain ⟨ad294, e294, hx294_0⟩ := Kd.at_int HR0.out x5_1 p294 q294
        cases e294
        replace p294 := eq_true p294
        replace q294 := eq_true q294
        have p295 : 0 ≤ (x5_1 : Int) := of_decide_eq_true z0_
        have q295 : x5_1 < (l1.length : Int) := of_decide_eq_true z0_
        obtain ⟨ad295, e295, hx295_0⟩ := Kd.at_int HR1.out x5_1 p295 q295
        cases e295
        replace p295 := eq_true p295
        replace q295 := eq_true q295
        go_wp2
        repeat (go_quiet (fail); try go_wp2)
        go_ret
        exact ⟨z3_, by repeat (first | exact Drawn0.refl _ | apply Drawn0.step)⟩
      ·
       rw [if_neg c6] at H
       exact absurd H (by simp)
     ·
      rw [if_neg c5] at H
      exact absurd H (by simp)
    ·
     rw [if_neg c4] at H
     have c4b0 : decide (x5_1 < (l0.length : Int)) = false := decide_eq_false c4
     clear c4
     obtain rfl := Option.some.inj H
     go_wp2
     repeat (go_quiet (fail); try go_wp2)
     go_ret
     exact ⟨z3_, by repeat (first | exact Drawn0.refl _ | apply Drawn0.step)⟩
 ·
  rw [if_neg c3] at H
  have c3b0 : ((l0.length : Int) == (l1.length : Int)) = false := beq_eq_false_iff_ne.mpr c3
  have c3b1 : ((l0.length : Int) != (l1.length : Int)) = true := bne_iff_ne.mpr c3
  have c3b2 : (l0.length == l1.length) = false := by first | simpa using c3 | (simp at c3 ⊢; omega)
  obtain rfl := Option.some.inj H
  go_enter Try.func41, Try.ntmps41
  go_wp2
  repeat (go_quiet (fail); try go_wp2)
  go_ret
  exact ⟨z3_, by repeat (first | exact Drawn0.refl _ | apply Drawn0.step)⟩
def raddlekeep_Stamp.f (a0_0 : Int) (a0_1 : Int) (a0_2 : Int) (a1_0 : Int) (a1_1 : Int) (a1_2 : Int) : Option (Bool) := if a0_0 = a1_0 then (if a0_1 = a1_1 then (some (a0_2 == a1_2)) else (some false)) else (some false)
set_option maxHeartbeats 8000000 in
set_option maxRecDepth 100000 in
theorem raddlekeep_Stamp.calls (a0_0 : Int) (a0_1 : Int) (a0_2 : Int) (a1_0 : Int) (a1_1 : Int) (a1_2 : Int) (r : Bool) (w : World) (h : raddlekeep_Stamp.f a0_0 a0_1 a0_2 a1_0 a1_1 a1_2 = some r) :
  Calls Try.prog 42 #[.agg #[.int .i64 a0_0, .int .i64 a0_1, .int .i64 a0_2], .agg #[.int .i64 a1_0, .int .i64 a1_1, .int .i64 a1_2]] w fun e w' => e = .returned (.bool r) ∧ Below w.heap.size w w' := by
 have hu26 := Try.underlying26
 have HB := mk_ (Below.refl w.heap.size w)
 have H : (if a0_0 = a1_0 then (if a0_1 = a1_1 then (some (a0_2 == a1_2)) else (some false)) else (some false)) = some r := h
 clear h
 by_cases c3 : a0_0 = a1_0
 ·
  rw [if_pos c3] at H
  have c3b0 : (a0_0 == a1_0) = true := beq_iff_eq.mpr c3
  have c3b1 : (a0_0 != a1_0) = false := bne_eq_false_iff_eq.mpr c3
  clear c3
  by_cases c4 : a0_1 = a1_1
  ·
   rw [if_pos c4] at H
   have c4b0 : (a0_1 == a1_1) = true := beq_iff_eq.mpr c4
   have c4b1 : (a0_1 != a1_1) = false := bne_eq_false_iff_eq.mpr c4
   clear c4
   obtain rfl := Option.some.inj H
   go_enter Try.func42, Try.ntmps42
   go_wp2_with (first | ((with_reducible refine gate_dst (N := 2) rfl ?_); refine box_event ?hg (N := 2) ?hd (cs := #[.int .i64 a0_0, .int .i64 a0_1, .int .i64 a0_2]) (t := 26) ?hr ?_; (case hd => rfl); (case hg => rfl); (case hr => first | (go_simp; done) | (go_simp; rfl)); intro gb296 hg w5 hbox hb; have n0_ := mk_ (below_step (Short.hB HB) hb); have n1_ := mk_ (hbox); have n2_ := mk_ ((by rw [hg]; exact (below_size (Short.hB HB)) : w.heap.size ≤ gb296)); have n3_ := mk_ ((by rw [hg]; exact (below_size (Short.hB HB)) : w.heap.size ≤ gb296)); clear HB; revert n0_ n1_ n2_ n3_; intro HB BK296 GW296 GE296; clear hb hbox hg) | ((with_reducible refine gate_dst (N := 3) rfl ?_); refine box_event ?hg (N := 3) ?hd (cs := #[.int .i64 a1_0, .int .i64 a1_1, .int .i64 a1_2]) (t := 26) ?hr ?_; (case hd => rfl); (case hg => rfl); (case hr => first | (go_simp; done) | (go_simp; rfl)); intro gb297 hg w6 hbox hb; have n0_ := mk_ (bB_ BK296 hb); have n1_ := mk_ (below_step (Short.hB HB) hb); have n2_ := mk_ (hbox); have n3_ := mk_ ((by rw [hg]; exact (below_size (Short.hB HB)) : w.heap.size ≤ gb297)); have n4_ := mk_ ((by rw [hg]; exact (below_size (Short.hB HB)) : w.heap.size ≤ gb297)); have n5_ := mk_ ((by rw [hg]; exact Nat.ne_of_lt (blk_lt (g := gb296) (o := .cells #[.int .i64 a0_0, .int .i64 a0_1, .int .i64 a0_2] 26 (0, 0)) (Short.bK BK296)) : gb296 ≠ gb297)); have n6_ := mk_ ((by rw [hg]; exact Nat.ne_of_gt (blk_lt (g := gb296) (o := .cells #[.int .i64 a0_0, .int .i64 a0_1, .int .i64 a0_2] 26 (0, 0)) (Short.bK BK296)) : gb297 ≠ gb296)); clear BK296 HB; revert n0_ n1_ n2_ n3_ n4_ n5_ n6_; intro BK296 HB BK297 GW297 GE297 NB296_297 NB297_296; clear hb hbox hg; have hnb7 := NB296_297.out; have hnc7 := NB297_296.out; obtain ⟨hcz8_0, hcz8_1, hcz8_2, hfz8_0, hfz8_1, hfz8_2⟩ := Short.c3 BK296.out; obtain ⟨hcz9_0, hcz9_1, hcz9_2, hfz9_0, hfz9_1, hfz9_2⟩ := Short.c3 BK297.out))
   go_ret
   exact ⟨by first | rfl | (simp [errW_none, errW_some] <;> rfl) | (simp [*, errW_none, errW_some] <;> rfl), Short.hB HB⟩
  ·
   rw [if_neg c4] at H
   have c4b0 : (a0_1 == a1_1) = false := beq_eq_false_iff_ne.mpr c4
   have c4b1 : (a0_1 != a1_1) = true := bne_iff_ne.mpr c4
   obtain rfl := Option.some.inj H
   go_enter Try.func42, Try.ntmps42
   go_wp2_with (first | ((with_reducible refine gate_dst (N := 2) rfl ?_); refine box_event ?hg (N := 2) ?hd (cs := #[.int .i64 a0_0, .int .i64 a0_1, .int .i64 a0_2]) (t := 26) ?hr ?_; (case hd => rfl); (case hg => rfl); (case hr => first | (go_simp; done) | (go_simp; rfl)); intro gb296 hg w10 hbox hb; have n0_ := mk_ (below_step (Short.hB HB) hb); have n1_ := mk_ (hbox); have n2_ := mk_ ((by rw [hg]; exact (below_size (Short.hB HB)) : w.heap.size ≤ gb296)); have n3_ := mk_ ((by rw [hg]; exact (below_size (Short.hB HB)) : w.heap.size ≤ gb296)); clear HB; revert n0_ n1_ n2_ n3_; intro HB BK296 GW296 GE296; clear hb hbox hg) | ((with_reducible refine gate_dst (N := 3) rfl ?_); refine box_event ?hg (N := 3) ?hd (cs := #[.int .i64 a1_0, .int .i64 a1_1, .int .i64 a1_2]) (t := 26) ?hr ?_; (case hd => rfl); (case hg => rfl); (case hr => first | (go_simp; done) | (go_simp; rfl)); intro gb297 hg w11 hbox hb; have n0_ := mk_ (bB_ BK296 hb); have n1_ := mk_ (below_step (Short.hB HB) hb); have n2_ := mk_ (hbox); have n3_ := mk_ ((by rw [hg]; exact (below_size (Short.hB HB)) : w.heap.size ≤ gb297)); have n4_ := mk_ ((by rw [hg]; exact (below_size (Short.hB HB)) : w.heap.size ≤ gb297)); have n5_ := mk_ ((by rw [hg]; exact Nat.ne_of_lt (blk_lt (g := gb296) (o := .cells #[.int .i64 a0_0, .int .i64 a0_1, .int .i64 a0_2] 26 (0, 0)) (Short.bK BK296)) : gb296 ≠ gb297)); have n6_ := mk_ ((by rw [hg]; exact Nat.ne_of_gt (blk_lt (g := gb296) (o := .cells #[.int .i64 a0_0, .int .i64 a0_1, .int .i64 a0_2] 26 (0, 0)) (Short.bK BK296)) : gb297 ≠ gb296)); clear BK296 HB; revert n0_ n1_ n2_ n3_ n4_ n5_ n6_; intro BK296 HB BK297 GW297 GE297 NB296_297 NB297_296; clear hb hbox hg; have hnb12 := NB296_297.out; have hnc12 := NB297_296.out; obtain ⟨hcz13_0, hcz13_1, hcz13_2, hfz13_0, hfz13_1, hfz13_2⟩ := Short.c3 BK296.out; obtain ⟨hcz14_0, hcz14_1, hcz14_2, hfz14_0, hfz14_1, hfz14_2⟩ := Short.c3 BK297.out))
   go_ret
   exact ⟨by first | rfl | (simp [errW_none, errW_some] <;> rfl) | (simp [*, errW_none, errW_some] <;> rfl), Short.hB HB⟩
 ·
  rw [if_neg c3] at H
  have c3b0 : (a0_0 == a1_0) = false := beq_eq_false_iff_ne.mpr c3
  have c3b1 : (a0_0 != a1_0) = true := bne_iff_ne.mpr c3
  obtain rfl := Option.some.inj H
  go_enter Try.func42, Try.ntmps42
  go_wp2_with (first | ((with_reducible refine gate_dst (N := 2) rfl ?_); refine box_event ?hg (N := 2) ?hd (cs := #[.int .i64 a0_0, .int .i64 a0_1, .int .i64 a0_2]) (t := 26) ?hr ?_; (case hd => rfl); (case hg => rfl); (case hr => first | (go_simp; done) | (go_simp; rfl)); intro gb296 hg w15 hbox hb; have n0_ := mk_ (below_step (Short.hB HB) hb); have n1_ := mk_ (hbox); have n2_ := mk_ ((by rw [hg]; exact (below_size (Short.hB HB)) : w.heap.size ≤ gb296)); have n3_ := mk_ ((by rw [hg]; exact (below_size (Short.hB HB)) : w.heap.size ≤ gb296)); clear HB; revert n0_ n1_ n2_ n3_; intro HB BK296 GW296 GE296; clear hb hbox hg) | ((with_reducible refine gate_dst (N := 3) rfl ?_); refine box_event ?hg (N := 3) ?hd (cs := #[.int .i64 a1_0, .int .i64 a1_1, .int .i64 a1_2]) (t := 26) ?hr ?_; (case hd => rfl); (case hg => rfl); (case hr => first | (go_simp; done) | (go_simp; rfl)); intro gb297 hg w16 hbox hb; have n0_ := mk_ (bB_ BK296 hb); have n1_ := mk_ (below_step (Short.hB HB) hb); have n2_ := mk_ (hbox); have n3_ := mk_ ((by rw [hg]; exact (below_size (Short.hB HB)) : w.heap.size ≤ gb297)); have n4_ := mk_ ((by rw [hg]; exact (below_size (Short.hB HB)) : w.heap.size ≤ gb297)); have n5_ := mk_ ((by rw [hg]; exact Nat.ne_of_lt (blk_lt (g := gb296) (o := .cells #[.int .i64 a0_0, .int .i64 a0_1, .int .i64 a0_2] 26 (0, 0)) (Short.bK BK296)) : gb296 ≠ gb297)); have n6_ := mk_ ((by rw [hg]; exact Nat.ne_of_gt (blk_lt (g := gb296) (o := .cells #[.int .i64 a0_0, .int .i64 a0_1, .int .i64 a0_2] 26 (0, 0)) (Short.bK BK296)) : gb297 ≠ gb296)); clear BK296 HB; revert n0_ n1_ n2_ n3_ n4_ n5_ n6_; intro BK296 HB BK297 GW297 GE297 NB296_297 NB297_296; clear hb hbox hg; have hnb17 := NB296_297.out; have hnc17 := NB297_296.out; obtain ⟨hcz18_0, hcz18_1, hcz18_2, hfz18_0, hfz18_1, hfz18_2⟩ := Short.c3 BK296.out; obtain ⟨hcz19_0, hcz19_1, hcz19_2, hfz19_0, hfz19_1, hfz19_2⟩ := Short.c3 BK297.out))
  go_ret
  exact ⟨by first | rfl | (simp [errW_none, errW_some] <;> rfl) | (simp [*, errW_none, errW_some] <;> rfl), Short.hB HB⟩
def raddlekeep_Dot.f (a0_0 : Int) (a0_1 : Int) (a1_0 : Int) (a1_1 : Int) : Option (Bool) := if a0_0 = a1_0 then (some (a0_1 == a1_1)) else (some false)
set_option maxHeartbeats 8000000 in
set_option maxRecDepth 100000 in
theorem raddlekeep_Dot.calls (a0_0 : Int) (a0_1 : Int) (a1_0 : Int) (a1_1 : Int) (r : Bool) (w : World) (h : raddlekeep_Dot.f a0_0 a0_1 a1_0 a1_1 = some r) :
  Calls Try.prog 83 #[.agg #[.int .i64 a0_0, .int .i64 a0_1], .agg #[.int .i64 a1_0, .int .i64 a1_1]] w fun e w' => e = .returned (.bool r) ∧ Below w.heap.size w w' := by
 have hu50 := Try.underlying50
 have HB := mk_ (Below.refl w.heap.size w)
 have H : (if a0_0 = a1_0 then (some (a0_1 == a1_1)) else (some false)) = some r := h
 clear h
 by_cases c3 : a0_0 = a1_0
 ·
  rw [if_pos c3] at H
  have c3b0 : (a0_0 == a1_0) = true := beq_iff_eq.mpr c3
  have c3b1 : (a0_0 != a1_0) = false := bne_eq_false_iff_eq.mpr c3
  clear c3
  obtain rfl := Option.some.inj H
  go_enter Try.func83, Try.ntmps83
  go_wp2_with (first | ((with_reducible refine gate_dst (N := 2) rfl ?_); refine box_event ?hg (N := 2) ?hd (cs := #[.int .i64 a0_0, .int .i64 a0_1]) (t := 50) ?hr ?_; (case hd => rfl); (case hg => rfl); (case hr => first | (go_simp; done) | (go_simp; rfl)); intro gb298 hg w4 hbox hb; have n0_ := mk_ (below_step (Short.hB HB) hb); have n1_ := mk_ (hbox); have n2_ := mk_ ((by rw [hg]; exact (below_size (Short.hB HB)) : w.heap.size ≤ gb298)); have n3_ := mk_ ((by rw [hg]; exact (below_size (Short.hB HB)) : w.heap.size ≤ gb298)); clear HB; revert n0_ n1_ n2_ n3_; intro HB BK298 GW298 GE298; clear hb hbox hg) | ((with_reducible refine gate_dst (N := 3) rfl ?_); refine box_event ?hg (N := 3) ?hd (cs := #[.int .i64 a1_0, .int .i64 a1_1]) (t := 50) ?hr ?_; (case hd => rfl); (case hg => rfl); (case hr => first | (go_simp; done) | (go_simp; rfl)); intro gb299 hg w5 hbox hb; have n0_ := mk_ (bB_ BK298 hb); have n1_ := mk_ (below_step (Short.hB HB) hb); have n2_ := mk_ (hbox); have n3_ := mk_ ((by rw [hg]; exact (below_size (Short.hB HB)) : w.heap.size ≤ gb299)); have n4_ := mk_ ((by rw [hg]; exact (below_size (Short.hB HB)) : w.heap.size ≤ gb299)); have n5_ := mk_ ((by rw [hg]; exact Nat.ne_of_lt (blk_lt (g := gb298) (o := .cells #[.int .i64 a0_0, .int .i64 a0_1] 50 (0, 0)) (Short.bK BK298)) : gb298 ≠ gb299)); have n6_ := mk_ ((by rw [hg]; exact Nat.ne_of_gt (blk_lt (g := gb298) (o := .cells #[.int .i64 a0_0, .int .i64 a0_1] 50 (0, 0)) (Short.bK BK298)) : gb299 ≠ gb298)); clear BK298 HB; revert n0_ n1_ n2_ n3_ n4_ n5_ n6_; intro BK298 HB BK299 GW299 GE299 NB298_299 NB299_298; clear hb hbox hg; have hnb6 := NB298_299.out; have hnc6 := NB299_298.out; obtain ⟨hcz7_0, hcz7_1, hfz7_0, hfz7_1⟩ := Short.c2 BK298.out; obtain ⟨hcz8_0, hcz8_1, hfz8_0, hfz8_1⟩ := Short.c2 BK299.out))
  go_ret
  exact ⟨by first | rfl | (simp [errW_none, errW_some] <;> rfl) | (simp [*, errW_none, errW_some] <;> rfl), Short.hB HB⟩
 ·
  rw [if_neg c3] at H
  have c3b0 : (a0_0 == a1_0) = false := beq_eq_false_iff_ne.mpr c3
  have c3b1 : (a0_0 != a1_0) = true := bne_iff_ne.mpr c3
  obtain rfl := Option.some.inj H
  go_enter Try.func83, Try.ntmps83
  go_wp2_with (first | ((with_reducible refine gate_dst (N := 2) rfl ?_); refine box_event ?hg (N := 2) ?hd (cs := #[.int .i64 a0_0, .int .i64 a0_1]) (t := 50) ?hr ?_; (case hd => rfl); (case hg => rfl); (case hr => first | (go_simp; done) | (go_simp; rfl)); intro gb298 hg w9 hbox hb; have n0_ := mk_ (below_step (Short.hB HB) hb); have n1_ := mk_ (hbox); have n2_ := mk_ ((by rw [hg]; exact (below_size (Short.hB HB)) : w.heap.size ≤ gb298)); have n3_ := mk_ ((by rw [hg]; exact (below_size (Short.hB HB)) : w.heap.size ≤ gb298)); clear HB; revert n0_ n1_ n2_ n3_; intro HB BK298 GW298 GE298; clear hb hbox hg) | ((with_reducible refine gate_dst (N := 3) rfl ?_); refine box_event ?hg (N := 3) ?hd (cs := #[.int .i64 a1_0, .int .i64 a1_1]) (t := 50) ?hr ?_; (case hd => rfl); (case hg => rfl); (case hr => first | (go_simp; done) | (go_simp; rfl)); intro gb299 hg w10 hbox hb; have n0_ := mk_ (bB_ BK298 hb); have n1_ := mk_ (below_step (Short.hB HB) hb); have n2_ := mk_ (hbox); have n3_ := mk_ ((by rw [hg]; exact (below_size (Short.hB HB)) : w.heap.size ≤ gb299)); have n4_ := mk_ ((by rw [hg]; exact (below_size (Short.hB HB)) : w.heap.size ≤ gb299)); have n5_ := mk_ ((by rw [hg]; exact Nat.ne_of_lt (blk_lt (g := gb298) (o := .cells #[.int .i64 a0_0, .int .i64 a0_1] 50 (0, 0)) (Short.bK BK298)) : gb298 ≠ gb299)); have n6_ := mk_ ((by rw [hg]; exact Nat.ne_of_gt (blk_lt (g := gb298) (o := .cells #[.int .i64 a0_0, .int .i64 a0_1] 50 (0, 0)) (Short.bK BK298)) : gb299 ≠ gb298)); clear BK298 HB; revert n0_ n1_ n2_ n3_ n4_ n5_ n6_; intro BK298 HB BK299 GW299 GE299 NB298_299 NB299_298; clear hb hbox hg; have hnb11 := NB298_299.out; have hnc11 := NB299_298.out; obtain ⟨hcz12_0, hcz12_1, hfz12_0, hfz12_1⟩ := Short.c2 BK298.out; obtain ⟨hcz13_0, hcz13_1, hfz13_0, hfz13_1⟩ := Short.c2 BK299.out))
  go_ret
  exact ⟨by first | rfl | (simp [errW_none, errW_some] <;> rfl) | (simp [*, errW_none, errW_some] <;> rfl), Short.hB HB⟩
def raddlekeep_Dots.l0 : Nat → List (S50) → List (S50) → Int → Option (Bool)
 | 0, _, _, _ => none
 | k + 1, x0, x1, x5 => if x5 < (x0.length : Int) then (if 0 ≤ x5 then (if x5 < (x1.length : Int) then ((raddlekeep_Dot.f ((rd_T50 x0 x5).f0) ((rd_T50 x0 x5).f1) ((rd_T50 x1 x5).f0) ((rd_T50 x1 x5).f1)).bind fun t302 => (if t302 = true then (raddlekeep_Dots.l0 k x0 x1 (wrap64 (x5 + 1))) else (some false))) else (none)) else (none)) else (some true)
def raddlekeep_Dots.f (k : Nat) (l0 : List (S50)) (l1 : List (S50)) : Option (Bool) := if (l0.length : Int) = (l1.length : Int) then (raddlekeep_Dots.l0 k l0 l1 0) else (some false)
def raddlekeep_Dots.T6 : Bool × List (List Nat × List Nat) := (true, [([], []), ([], []), ([0, 1], [0, 1]), ([2], [2]), ([], []), ([], []), ([4, 5], [4, 5]), ([6], [6]), ([3, 7], [3, 7]), ([8], [8])])
def raddlekeep_Dots.B6 : List Nat := [0, 0, 3, 7, 0, 0, 48, 112, 255, 511]
theorem raddlekeep_Dots.tab6 : rtab .any (opsOf Try.f81 6) = raddlekeep_Dots.T6 := by kernel_rfl
theorem raddlekeep_Dots.bits6 : waitsOk raddlekeep_Dots.T6.2 raddlekeep_Dots.B6 = true := by kernel_rfl
set_option maxHeartbeats 8000000 in
set_option maxRecDepth 100000 in
theorem raddlekeep_Dots.calls (k : Nat) (A0 : Option Addr) (c0 : Nat) (l0 : List (S50)) (A1 : Option Addr) (c1 : Nat) (l1 : List (S50)) (r : Bool) (w : World) (hr0 : Kd.C k50 w A0 l0.length l0) (hc0 : l0.length ≤ c0) (hr1 : Kd.C k50 w A1 l1.length l1) (hc1 : l1.length ≤ c1) (h : raddlekeep_Dots.f k l0 l1 = some r) :
  Calls Try.prog 81 #[.slice A0 l0.length c0, .slice A1 l1.length c1] w fun e w' => e = .returned (.bool r) ∧ Below w.heap.size w w' := by
 have hu50 := Try.underlying50
 have HR0 := mk_ hr0
 have HC0 := mk_ hc0
 clear hr0 hc0
 have HR1 := mk_ hr1
 have HC1 := mk_ hc1
 clear hr1 hc1
 have HB := mk_ (Below.refl w.heap.size w)
 have H : (if (l0.length : Int) = (l1.length : Int) then (raddlekeep_Dots.l0 k l0 l1 0) else (some false)) = some r := h
 clear h
 by_cases c3 : (l0.length : Int) = (l1.length : Int)
 ·
  rw [if_pos c3] at H
  have c3b0 : ((l0.length : Int) == (l1.length : Int)) = true := beq_iff_eq.mpr c3
  have c3b1 : ((l0.length : Int) != (l1.length : Int)) = false := bne_eq_false_iff_eq.mpr c3
  have c3b2 : (l0.length == l1.length) = true := by first | simpa using c3 | (simp at c3 ⊢; omega)
  clear c3
  have H' := mk_ H
  clear H
  go_enter Try.func81, Try.ntmps81
  go_wp2
  go_loopg [5] k (fun kq v5 w' => ∃ (x5_1 : Int), v5 = .int .i64 x5_1 ∧ Aside0 (raddlekeep_Dots.l0 kq l0 l1 x5_1 = some r) ∧ Aside0 (kq ≤ k) ∧ Aside0 (Below w.heap.size w w'))
  case atStart => exact ⟨(0), z3_, H', ⟨Nat.le_refl _⟩, ⟨Short.hB HB⟩⟩
  case round =>
   clear H'
   try clear c1
   try clear p2
   try clear c3
   try clear c3b0
   try clear c3b1
   try clear c3b2
   obtain ⟨x5_1, rfl, HA, HK1, HB⟩ := hrel
   cases gk with
   | zero => exact absurd HA.out (by simp [raddlekeep_Dots.l0])
   | succ k1 =>
    have H := HA.out
    clear HA
    simp only [raddlekeep_Dots.l0] at H
    by_cases c4 : x5_1 < (l0.length : Int)
    ·
     rw [if_pos c4] at H
     have c4b0 : decide (x5_1 < (l0.length : Int)) = true := decide_eq_true c4
     clear c4
     by_cases c5 : 0 ≤ x5_1
     ·
      rw [if_pos c5] at H
      have c5b0 : decide (0 ≤ x5_1) = true := decide_eq_true c5
      clear c5
      by_cases c6 : x5_1 < (l1.length : Int)
      ·
       rw [if_pos c6] at H
       have c6b0 : decide (x5_1 < (l1.length : Int)) = true := decide_eq_true c6
       clear c6
       replace H := Option.bind_eq_some_iff.mp H
       obtain ⟨t302, A70, H⟩ := H
       replace H : (if t302 = true then (raddlekeep_Dots.l0 k1 l0 l1 (wrap64 (x5_1 + 1))) else (some false)) = some r := H
       have A7 := mk_ A70
       clear A70
       by_cases c8 : t302 = true
       ·
        subst c8
        have H1 : (raddlekeep_Dots.l0 k1 l0 l1 (wrap64 (x5_1 + 1))) = some r := by rw [if_pos rfl] at H; exact H
        clear H
        have H := H1
        clear H1
        have H' := mk_ H
        clear H
        try go_wp2
        have n0_ := mk_ (below_drew1 HB.out)
        clear HB
        revert n0_
        intro HB
        have p300 : 0 ≤ (x5_1 : Int) := of_decide_eq_true z0_
        have q300 : x5_1 < (l0.length : Int) := of_decide_eq_true z0_
        obtain ⟨ad300, e300, hx300_0, hx300_1⟩ := at_T50 HR0.out x5_1 p300 q300
        have hw300_1 := hx300_1
        have hw300_0 := hx300_0
        cases e300
        replace hx300_0 := (HB.out.cell (World.block_lt_of_cell? w _ hx300_0)).trans hx300_0
        replace hx300_1 := (HB.out.cell (World.block_lt_of_cell? w _ hx300_1)).trans hx300_1
        replace p300 := eq_true p300
        replace q300 := eq_true q300
        have p301 : 0 ≤ (x5_1 : Int) := of_decide_eq_true z0_
        have q301 : x5_1 < (l1.length : Int) := of_decide_eq_true z0_
        obtain ⟨ad301, e301, hx301_0, hx301_1⟩ := at_T50 HR1.out x5_1 p301 q301
        have hw301_1 := hx301_1
        have hw301_0 := hx301_0
        cases e301
        replace hx301_0 := (HB.out.cell (World.block_lt_of_cell? w _ hx301_0)).trans hx301_0
        replace hx301_1 := (HB.out.cell (World.block_lt_of_cell? w _ hx301_1)).trans hx301_1
        replace p301 := eq_true p301
        replace q301 := eq_true q301
        refine start_ (n := 10) (S := fun w' => w'.cell? (ad300.add ((x5_1).toNat * 2)) = some (.int .i64 ((rd_T50 l0 x5_1).f0)) ∧ w'.cell? ⟨(ad300.add ((x5_1).toNat * 2)).block, (ad300.add ((x5_1).toNat * 2)).off + 1, none⟩ = some (.int .i64 ((rd_T50 l0 x5_1).f1)) ∧ w'.cell? (ad301.add ((x5_1).toNat * 2)) = some (.int .i64 ((rd_T50 l1 x5_1).f0)) ∧ w'.cell? ⟨(ad301.add ((x5_1).toNat * 2)).block, (ad301.add ((x5_1).toNat * 2)).off + 1, none⟩ = some (.int .i64 ((rd_T50 l1 x5_1).f1))) (ds := []) (Steps.Bs 10 0) z1_ rfl rfl ⟨((HB.out.cell (World.block_lt_of_cell? w _ hw300_0)).trans hw300_0), ((HB.out.cell (World.block_lt_of_cell? w _ hw300_1)).trans hw300_1), ((HB.out.cell (World.block_lt_of_cell? w _ hw301_0)).trans hw301_0), ((HB.out.cell (World.block_lt_of_cell? w _ hw301_1)).trans hw301_1)⟩ (fun hHeld => ?_); refine with_tabW raddlekeep_Dots.tab6 raddlekeep_Dots.bits6 (fun HT_ HW_ => ?_)
        generalize wr.drew = w9 at HB hx300_0 hx300_1 hx301_0 hx301_1 hHeld ⊢
        refine Steps.pI_ 0 (some 17) (Steps.Bs 10 1) (any_of HT_.out z1_) (h := ?_)
        refine Steps.pI_ 1 (some 18) (Steps.Bs 10 3) (any_of HT_.out z1_) (h := ?_)
        refine Steps.pI_ 2 (some 19) (Steps.Bs 10 7) (any_of HT_.out z1_) (h := ?_)
        refine Steps.pI_ 4 (some 21) (Steps.Bs 10 23) (any_of HT_.out z1_) (h := ?_)
        refine Steps.pI_ 5 (some 22) (Steps.Bs 10 55) (any_of HT_.out z1_) (h := ?_)
        refine Steps.pI_ 6 (some 23) (Steps.Bs 10 119) (any_of HT_.out z1_) (h := ?_)
        refine Steps.tI_ 3 (some 20) (Steps.Bs 10 127) (take_ofW HT_.out HW_.out z1_) hHeld (h := ?_)
        refine Steps.tI_ 7 (some 24) (Steps.Bs 10 255) (take_ofW HT_.out HW_.out z1_) hHeld (h := ?_)
        refine one_ (i := 8) (N := some 25) (Steps.Bs 10 511) rfl rfl (one_of HT_.out z1_) z5_ (fun K hK => ?_)
        refine goes_ Try.func83 z1_ rfl #[.agg #[.int .i64 ((rd_T50 l0 x5_1).f0), .int .i64 ((rd_T50 l0 x5_1).f1)], .agg #[.int .i64 ((rd_T50 l1 x5_1).f0), .int .i64 ((rd_T50 l1 x5_1).f1)]] (by rfl) rfl rfl z4_ ?_
        with_reducible refine (raddlekeep_Dot.calls ((rd_T50 l0 x5_1).f0) ((rd_T50 l0 x5_1).f1) ((rd_T50 l1 x5_1).f0) ((rd_T50 l1 x5_1).f1) true _ A7.out).mono ?_
        rintro e w10 ⟨rfl, hb⟩
        refine ⟨_, rfl, ?_⟩
        have n0_ := mk_ (below_step (Short.hB HB) hb)
        clear HB
        revert n0_
        intro HB
        (try clear hb)
        (try clear hb2)
        (try clear hk)
        (try clear hi)
        refine hK.out _ _ ⟨((HB.out.cell (World.block_lt_of_cell? w _ hw300_0)).trans hw300_0), ((HB.out.cell (World.block_lt_of_cell? w _ hw300_1)).trans hw300_1), ((HB.out.cell (World.block_lt_of_cell? w _ hw301_0)).trans hw301_0), ((HB.out.cell (World.block_lt_of_cell? w _ hw301_1)).trans hw301_1)⟩ (fun hHeld => ?_)
        clear hK K
        refine norm_ (a' := ?_) ?_ ?_
        rotate_left
        ·
         show Act.put _ (some 25) _ = _
         simp only [Act.put, List.setIfInBounds_toArray, List.set_cons_zero, List.set_cons_succ, i64_w, i32_w]
         rfl
        refine Steps.pI_ 9 (some 26) (Steps.Bs 10 1023) (any_of HT_.out z1_) (h := ?_)
        refine done_ (done_of HT_.out z1_) ?_
        try go_wp2
        go_roundg k1
        case measure => have := HK1.out; omega
        case rel => exact ⟨(wrap64 (x5_1 + 1)), z3_, H', ⟨by have := HK1.out; omega⟩, ⟨Short.hB HB⟩⟩
       ·
        replace c8 := Bool.eq_false_iff.mpr c8
        subst c8
        have H1 : (some false) = some r := by rw [if_neg (show ¬ (false = true) by decide)] at H; exact H
        clear H
        have H := H1
        clear H1
        obtain rfl := Option.some.inj H
        try go_wp2
        have n0_ := mk_ (below_drew1 HB.out)
        clear HB
        revert n0_
        intro HB
        have p300 : 0 ≤ (x5_1 : Int) := of_decide_eq_true z0_
        have q300 : x5_1 < (l0.length : Int) := of_decide_eq_true z0_
        obtain ⟨ad300, e300, hx300_0, hx300_1⟩ := at_T50 HR0.out x5_1 p300 q300
        have hw300_1 := hx300_1
        have hw300_0 := hx300_0
        cases e300
        replace hx300_0 := (HB.out.cell (World.block_lt_of_cell? w _ hx300_0)).trans hx300_0
        replace hx300_1 := (HB.out.cell (World.block_lt_of_cell? w _ hx300_1)).trans hx300_1
        replace p300 := eq_true p300
        replace q300 := eq_true q300
        have p301 : 0 ≤ (x5_1 : Int) := of_decide_eq_true z0_
        have q301 : x5_1 < (l1.length : Int) := of_decide_eq_true z0_
        obtain ⟨ad301, e301, hx301_0, hx301_1⟩ := at_T50 HR1.out x5_1 p301 q301
        have hw301_1 := hx301_1
        have hw301_0 := hx301_0
        cases e301
        replace hx301_0 := (HB.out.cell (World.block_lt_of_cell? w _ hx301_0)).trans hx301_0
        replace hx301_1 := (HB.out.cell (World.block_lt_of_cell? w _ hx301_1)).trans hx301_1
        replace p301 := eq_true p301
        replace q301 := eq_true q301
        refine start_ (n := 10) (S := fun w' => w'.cell? (ad300.add ((x5_1).toNat * 2)) = some (.int .i64 ((rd_T50 l0 x5_1).f0)) ∧ w'.cell? ⟨(ad300.add ((x5_1).toNat * 2)).block, (ad300.add ((x5_1).toNat * 2)).off + 1, none⟩ = some (.int .i64 ((rd_T50 l0 x5_1).f1)) ∧ w'.cell? (ad301.add ((x5_1).toNat * 2)) = some (.int .i64 ((rd_T50 l1 x5_1).f0)) ∧ w'.cell? ⟨(ad301.add ((x5_1).toNat * 2)).block, (ad301.add ((x5_1).toNat * 2)).off + 1, none⟩ = some (.int .i64 ((rd_T50 l1 x5_1).f1))) (ds := []) (Steps.Bs 10 0) z1_ rfl rfl ⟨((HB.out.cell (World.block_lt_of_cell? w _ hw300_0)).trans hw300_0), ((HB.out.cell (World.block_lt_of_cell? w _ hw300_1)).trans hw300_1), ((HB.out.cell (World.block_lt_of_cell? w _ hw301_0)).trans hw301_0), ((HB.out.cell (World.block_lt_of_cell? w _ hw301_1)).trans hw301_1)⟩ (fun hHeld => ?_); refine with_tabW raddlekeep_Dots.tab6 raddlekeep_Dots.bits6 (fun HT_ HW_ => ?_)
        generalize wr.drew = w11 at HB hx300_0 hx300_1 hx301_0 hx301_1 hHeld ⊢
        refine Steps.pI_ 0 (some 17) (Steps.Bs 10 1) (any_of HT_.out z1_) (h := ?_)
        refine Steps.pI_ 1 (some 18) (Steps.Bs 10 3) (any_of HT_.out z1_) (h := ?_)
        refine Steps.pI_ 2 (some 19) (Steps.Bs 10 7) (any_of HT_.out z1_) (h := ?_)
        refine Steps.pI_ 4 (some 21) (Steps.Bs 10 23) (any_of HT_.out z1_) (h := ?_)
        refine Steps.pI_ 5 (some 22) (Steps.Bs 10 55) (any_of HT_.out z1_) (h := ?_)
        refine Steps.pI_ 6 (some 23) (Steps.Bs 10 119) (any_of HT_.out z1_) (h := ?_)
        refine Steps.tI_ 3 (some 20) (Steps.Bs 10 127) (take_ofW HT_.out HW_.out z1_) hHeld (h := ?_)
        refine Steps.tI_ 7 (some 24) (Steps.Bs 10 255) (take_ofW HT_.out HW_.out z1_) hHeld (h := ?_)
        refine one_ (i := 8) (N := some 25) (Steps.Bs 10 511) rfl rfl (one_of HT_.out z1_) z5_ (fun K hK => ?_)
        refine goes_ Try.func83 z1_ rfl #[.agg #[.int .i64 ((rd_T50 l0 x5_1).f0), .int .i64 ((rd_T50 l0 x5_1).f1)], .agg #[.int .i64 ((rd_T50 l1 x5_1).f0), .int .i64 ((rd_T50 l1 x5_1).f1)]] (by rfl) rfl rfl z4_ ?_
        with_reducible refine (raddlekeep_Dot.calls ((rd_T50 l0 x5_1).f0) ((rd_T50 l0 x5_1).f1) ((rd_T50 l1 x5_1).f0) ((rd_T50 l1 x5_1).f1) false _ A7.out).mono ?_
        rintro e w12 ⟨rfl, hb⟩
        refine ⟨_, rfl, ?_⟩
        have n0_ := mk_ (below_step (Short.hB HB) hb)
        clear HB
        revert n0_
        intro HB
        (try clear hb)
        (try clear hb2)
        (try clear hk)
        (try clear hi)
        refine hK.out _ _ ⟨((HB.out.cell (World.block_lt_of_cell? w _ hw300_0)).trans hw300_0), ((HB.out.cell (World.block_lt_of_cell? w _ hw300_1)).trans hw300_1), ((HB.out.cell (World.block_lt_of_cell? w _ hw301_0)).trans hw301_0), ((HB.out.cell (World.block_lt_of_cell? w _ hw301_1)).trans hw301_1)⟩ (fun hHeld => ?_)
        clear hK K
        refine norm_ (a' := ?_) ?_ ?_
        rotate_left
        ·
         show Act.put _ (some 25) _ = _
         simp only [Act.put, List.setIfInBounds_toArray, List.set_cons_zero, List.set_cons_succ, i64_w, i32_w]
         rfl
        refine Steps.pI_ 9 (some 26) (Steps.Bs 10 1023) (any_of HT_.out z1_) (h := ?_)
        refine done_ (done_of HT_.out z1_) ?_
        try go_wp2
        go_ret
        exact ⟨by first | rfl | (simp [errW_none, errW_some] <;> rfl) | (simp [*, errW_none, errW_some] <;> rfl), Short.hB HB⟩
      ·
       rw [if_neg c6] at H
       exact absurd H (by simp)
     ·
      rw [if_neg c5] at H
      exact absurd H (by simp)
    ·
     rw [if_neg c4] at H
     have c4b0 : decide (x5_1 < (l0.length : Int)) = false := decide_eq_false c4
     clear c4
     obtain rfl := Option.some.inj H
     go_wp2
     go_ret
     exact ⟨by first | rfl | (simp [errW_none, errW_some] <;> rfl) | (simp [*, errW_none, errW_some] <;> rfl), Short.hB HB⟩
 ·
  rw [if_neg c3] at H
  have c3b0 : ((l0.length : Int) == (l1.length : Int)) = false := beq_eq_false_iff_ne.mpr c3
  have c3b1 : ((l0.length : Int) != (l1.length : Int)) = true := bne_iff_ne.mpr c3
  have c3b2 : (l0.length == l1.length) = false := by first | simpa using c3 | (simp at c3 ⊢; omega)
  obtain rfl := Option.some.inj H
  go_enter Try.func81, Try.ntmps81
  go_wp2
  go_ret
  exact ⟨by first | rfl | (simp [errW_none, errW_some] <;> rfl) | (simp [*, errW_none, errW_some] <;> rfl), Short.hB HB⟩
def raddlekeep_Value.f (a0_0 : Int) (a0_1 : Int) (a0_2 : ByteArray) (a1_0 : Int) (a1_1 : Int) (a1_2 : ByteArray) : Option (Bool) := if a0_0 = a1_0 then (if a0_1 = a1_1 then (some (a0_2.toList == a1_2.toList)) else (some false)) else (some false)
set_option maxHeartbeats 8000000 in
set_option maxRecDepth 100000 in
theorem raddlekeep_Value.calls (a0_0 : Int) (a0_1 : Int) (a0_2 : ByteArray) (a1_0 : Int) (a1_1 : Int) (a1_2 : ByteArray) (r : Bool) (w : World) (h : raddlekeep_Value.f a0_0 a0_1 a0_2 a1_0 a1_1 a1_2 = some r) :
  Calls Try.prog 102 #[.agg #[.int .i64 a0_0, .int .i64 a0_1, .string a0_2], .agg #[.int .i64 a1_0, .int .i64 a1_1, .string a1_2]] w fun e w' => e = .returned (.bool r) ∧ Below w.heap.size w w' := by
 have hu89 := Try.underlying89
 have HB := mk_ (Below.refl w.heap.size w)
 have H : (if a0_0 = a1_0 then (if a0_1 = a1_1 then (some (a0_2.toList == a1_2.toList)) else (some false)) else (some false)) = some r := h
 clear h
 by_cases c3 : a0_0 = a1_0
 ·
  rw [if_pos c3] at H
  have c3b0 : (a0_0 == a1_0) = true := beq_iff_eq.mpr c3
  have c3b1 : (a0_0 != a1_0) = false := bne_eq_false_iff_eq.mpr c3
  clear c3
  by_cases c4 : a0_1 = a1_1
  ·
   rw [if_pos c4] at H
   have c4b0 : (a0_1 == a1_1) = true := beq_iff_eq.mpr c4
   have c4b1 : (a0_1 != a1_1) = false := bne_eq_false_iff_eq.mpr c4
   clear c4
   obtain rfl := Option.some.inj H
   go_enter Try.func102, Try.ntmps102
   go_wp2_with (first | ((with_reducible refine gate_dst (N := 2) rfl ?_); refine box_event ?hg (N := 2) ?hd (cs := #[.int .i64 a0_0, .int .i64 a0_1, .string a0_2]) (t := 89) ?hr ?_; (case hd => rfl); (case hg => rfl); (case hr => first | (go_simp; done) | (go_simp; rfl)); intro gb303 hg w5 hbox hb; have n0_ := mk_ (below_step (Short.hB HB) hb); have n1_ := mk_ (hbox); have n2_ := mk_ ((by rw [hg]; exact (below_size (Short.hB HB)) : w.heap.size ≤ gb303)); have n3_ := mk_ ((by rw [hg]; exact (below_size (Short.hB HB)) : w.heap.size ≤ gb303)); clear HB; revert n0_ n1_ n2_ n3_; intro HB BK303 GW303 GE303; clear hb hbox hg) | ((with_reducible refine gate_dst (N := 3) rfl ?_); refine box_event ?hg (N := 3) ?hd (cs := #[.int .i64 a1_0, .int .i64 a1_1, .string a1_2]) (t := 89) ?hr ?_; (case hd => rfl); (case hg => rfl); (case hr => first | (go_simp; done) | (go_simp; rfl)); intro gb304 hg w6 hbox hb; have n0_ := mk_ (bB_ BK303 hb); have n1_ := mk_ (below_step (Short.hB HB) hb); have n2_ := mk_ (hbox); have n3_ := mk_ ((by rw [hg]; exact (below_size (Short.hB HB)) : w.heap.size ≤ gb304)); have n4_ := mk_ ((by rw [hg]; exact (below_size (Short.hB HB)) : w.heap.size ≤ gb304)); have n5_ := mk_ ((by rw [hg]; exact Nat.ne_of_lt (blk_lt (g := gb303) (o := .cells #[.int .i64 a0_0, .int .i64 a0_1, .string a0_2] 89 (0, 0)) (Short.bK BK303)) : gb303 ≠ gb304)); have n6_ := mk_ ((by rw [hg]; exact Nat.ne_of_gt (blk_lt (g := gb303) (o := .cells #[.int .i64 a0_0, .int .i64 a0_1, .string a0_2] 89 (0, 0)) (Short.bK BK303)) : gb304 ≠ gb303)); clear BK303 HB; revert n0_ n1_ n2_ n3_ n4_ n5_ n6_; intro BK303 HB BK304 GW304 GE304 NB303_304 NB304_303; clear hb hbox hg; have hnb7 := NB303_304.out; have hnc7 := NB304_303.out; obtain ⟨hcz8_0, hcz8_1, hcz8_2, hfz8_0, hfz8_1, hfz8_2⟩ := Short.c3 BK303.out; obtain ⟨hcz9_0, hcz9_1, hcz9_2, hfz9_0, hfz9_1, hfz9_2⟩ := Short.c3 BK304.out))
   go_ret
   exact ⟨by first | rfl | (simp [errW_none, errW_some] <;> rfl) | (simp [*, errW_none, errW_some] <;> rfl), Short.hB HB⟩
  ·
   rw [if_neg c4] at H
   have c4b0 : (a0_1 == a1_1) = false := beq_eq_false_iff_ne.mpr c4
   have c4b1 : (a0_1 != a1_1) = true := bne_iff_ne.mpr c4
   obtain rfl := Option.some.inj H
   go_enter Try.func102, Try.ntmps102
   go_wp2_with (first | ((with_reducible refine gate_dst (N := 2) rfl ?_); refine box_event ?hg (N := 2) ?hd (cs := #[.int .i64 a0_0, .int .i64 a0_1, .string a0_2]) (t := 89) ?hr ?_; (case hd => rfl); (case hg => rfl); (case hr => first | (go_simp; done) | (go_simp; rfl)); intro gb303 hg w10 hbox hb; have n0_ := mk_ (below_step (Short.hB HB) hb); have n1_ := mk_ (hbox); have n2_ := mk_ ((by rw [hg]; exact (below_size (Short.hB HB)) : w.heap.size ≤ gb303)); have n3_ := mk_ ((by rw [hg]; exact (below_size (Short.hB HB)) : w.heap.size ≤ gb303)); clear HB; revert n0_ n1_ n2_ n3_; intro HB BK303 GW303 GE303; clear hb hbox hg) | ((with_reducible refine gate_dst (N := 3) rfl ?_); refine box_event ?hg (N := 3) ?hd (cs := #[.int .i64 a1_0, .int .i64 a1_1, .string a1_2]) (t := 89) ?hr ?_; (case hd => rfl); (case hg => rfl); (case hr => first | (go_simp; done) | (go_simp; rfl)); intro gb304 hg w11 hbox hb; have n0_ := mk_ (bB_ BK303 hb); have n1_ := mk_ (below_step (Short.hB HB) hb); have n2_ := mk_ (hbox); have n3_ := mk_ ((by rw [hg]; exact (below_size (Short.hB HB)) : w.heap.size ≤ gb304)); have n4_ := mk_ ((by rw [hg]; exact (below_size (Short.hB HB)) : w.heap.size ≤ gb304)); have n5_ := mk_ ((by rw [hg]; exact Nat.ne_of_lt (blk_lt (g := gb303) (o := .cells #[.int .i64 a0_0, .int .i64 a0_1, .string a0_2] 89 (0, 0)) (Short.bK BK303)) : gb303 ≠ gb304)); have n6_ := mk_ ((by rw [hg]; exact Nat.ne_of_gt (blk_lt (g := gb303) (o := .cells #[.int .i64 a0_0, .int .i64 a0_1, .string a0_2] 89 (0, 0)) (Short.bK BK303)) : gb304 ≠ gb303)); clear BK303 HB; revert n0_ n1_ n2_ n3_ n4_ n5_ n6_; intro BK303 HB BK304 GW304 GE304 NB303_304 NB304_303; clear hb hbox hg; have hnb12 := NB303_304.out; have hnc12 := NB304_303.out; obtain ⟨hcz13_0, hcz13_1, hcz13_2, hfz13_0, hfz13_1, hfz13_2⟩ := Short.c3 BK303.out; obtain ⟨hcz14_0, hcz14_1, hcz14_2, hfz14_0, hfz14_1, hfz14_2⟩ := Short.c3 BK304.out))
   go_ret
   exact ⟨by first | rfl | (simp [errW_none, errW_some] <;> rfl) | (simp [*, errW_none, errW_some] <;> rfl), Short.hB HB⟩
 ·
  rw [if_neg c3] at H
  have c3b0 : (a0_0 == a1_0) = false := beq_eq_false_iff_ne.mpr c3
  have c3b1 : (a0_0 != a1_0) = true := bne_iff_ne.mpr c3
  obtain rfl := Option.some.inj H
  go_enter Try.func102, Try.ntmps102
  go_wp2_with (first | ((with_reducible refine gate_dst (N := 2) rfl ?_); refine box_event ?hg (N := 2) ?hd (cs := #[.int .i64 a0_0, .int .i64 a0_1, .string a0_2]) (t := 89) ?hr ?_; (case hd => rfl); (case hg => rfl); (case hr => first | (go_simp; done) | (go_simp; rfl)); intro gb303 hg w15 hbox hb; have n0_ := mk_ (below_step (Short.hB HB) hb); have n1_ := mk_ (hbox); have n2_ := mk_ ((by rw [hg]; exact (below_size (Short.hB HB)) : w.heap.size ≤ gb303)); have n3_ := mk_ ((by rw [hg]; exact (below_size (Short.hB HB)) : w.heap.size ≤ gb303)); clear HB; revert n0_ n1_ n2_ n3_; intro HB BK303 GW303 GE303; clear hb hbox hg) | ((with_reducible refine gate_dst (N := 3) rfl ?_); refine box_event ?hg (N := 3) ?hd (cs := #[.int .i64 a1_0, .int .i64 a1_1, .string a1_2]) (t := 89) ?hr ?_; (case hd => rfl); (case hg => rfl); (case hr => first | (go_simp; done) | (go_simp; rfl)); intro gb304 hg w16 hbox hb; have n0_ := mk_ (bB_ BK303 hb); have n1_ := mk_ (below_step (Short.hB HB) hb); have n2_ := mk_ (hbox); have n3_ := mk_ ((by rw [hg]; exact (below_size (Short.hB HB)) : w.heap.size ≤ gb304)); have n4_ := mk_ ((by rw [hg]; exact (below_size (Short.hB HB)) : w.heap.size ≤ gb304)); have n5_ := mk_ ((by rw [hg]; exact Nat.ne_of_lt (blk_lt (g := gb303) (o := .cells #[.int .i64 a0_0, .int .i64 a0_1, .string a0_2] 89 (0, 0)) (Short.bK BK303)) : gb303 ≠ gb304)); have n6_ := mk_ ((by rw [hg]; exact Nat.ne_of_gt (blk_lt (g := gb303) (o := .cells #[.int .i64 a0_0, .int .i64 a0_1, .string a0_2] 89 (0, 0)) (Short.bK BK303)) : gb304 ≠ gb303)); clear BK303 HB; revert n0_ n1_ n2_ n3_ n4_ n5_ n6_; intro BK303 HB BK304 GW304 GE304 NB303_304 NB304_303; clear hb hbox hg; have hnb17 := NB303_304.out; have hnc17 := NB304_303.out; obtain ⟨hcz18_0, hcz18_1, hcz18_2, hfz18_0, hfz18_1, hfz18_2⟩ := Short.c3 BK303.out; obtain ⟨hcz19_0, hcz19_1, hcz19_2, hfz19_0, hfz19_1, hfz19_2⟩ := Short.c3 BK304.out))
  go_ret
  exact ⟨by first | rfl | (simp [errW_none, errW_some] <;> rfl) | (simp [*, errW_none, errW_some] <;> rfl), Short.hB HB⟩
end Go.Proofs.Ytcbfliajgopdaaa.PAll
end
section
namespace Go.Proofs.Ytcbfliajgopdaaa.PAll
open Go.RowKit Go.Proofs.YtcbfliajgopdaaaW.PrintWords Go.Proofs.YtcbfliajgopdaaaW.PrintLast Go.Proofs.YtcbfliajgopdaaaW.PrintMore Go.Proofs.Ytcbfliajgopdaaa.ZipT Go.Proofs.YtcbfliajgopdaaaW.PrintWords.Kd Go.Proofs.YtcbfliajgopdaaaW.PrintMore.Kd
attribute [local go_sem] max2_int min2_int max_two min_two max_three min_three max_four min_four   -- for this text's walks alone
set_option linter.unusedVariables false
set_option linter.unusedSimpArgs false
def raddlekeep_Row.l0 : Nat → List (S89) → List (S89) → Int → Option (Bool)
 | 0, _, _, _ => none
 | k + 1, x0, x1, x5 => if x5 < (x0.length : Int) then (if 0 ≤ x5 then (if x5 < (x1.length : Int) then ((raddlekeep_Value.f ((rd_T89 x0 x5).f0) ((rd_T89 x0 x5).f1) ((rd_T89 x0 x5).f2) ((rd_T89 x1 x5).f0) ((rd_T89 x1 x5).f1) ((rd_T89 x1 x5).f2)).bind fun t307 => (if t307 = true then (raddlekeep_Row.l0 k x0 x1 (wrap64 (x5 + 1))) else (some false))) else (none)) else (none)) else (some true)
def raddlekeep_Row.f (k : Nat) (l0 : List (S89)) (l1 : List (S89)) : Option (Bool) := if (l0.length : Int) = (l1.length : Int) then (raddlekeep_Row.l0 k l0 l1 0) else (some false)
def raddlekeep_Row.T6 : Bool × List (List Nat × List Nat) := (true, [([], []), ([], []), ([0, 1], [0, 1]), ([2], [2]), ([], []), ([], []), ([4, 5], [4, 5]), ([6], [6]), ([3, 7], [3, 7]), ([8], [8])])
def raddlekeep_Row.B6 : List Nat := [0, 0, 3, 7, 0, 0, 48, 112, 255, 511]
theorem raddlekeep_Row.tab6 : rtab .any (opsOf Try.f84 6) = raddlekeep_Row.T6 := by kernel_rfl
theorem raddlekeep_Row.bits6 : waitsOk raddlekeep_Row.T6.2 raddlekeep_Row.B6 = true := by kernel_rfl
set_option maxHeartbeats 8000000 in
set_option maxRecDepth 100000 in
theorem raddlekeep_Row.calls (k : Nat) (A0 : Option Addr) (c0 : Nat) (l0 : List (S89)) (A1 : Option Addr) (c1 : Nat) (l1 : List (S89)) (r : Bool) (w : World) (hr0 : Kd.C k89 w A0 l0.length l0) (hc0 : l0.length ≤ c0) (hr1 : Kd.C k89 w A1 l1.length l1) (hc1 : l1.length ≤ c1) (h : raddlekeep_Row.f k l0 l1 = some r) :
  Calls Try.prog 84 #[.slice A0 l0.length c0, .slice A1 l1.length c1] w fun e w' => e = .returned (.bool r) ∧ Below w.heap.size w w' := by
 have hu89 := Try.underlying89
 have HR0 := mk_ hr0
 have HC0 := mk_ hc0
 clear hr0 hc0
 have HR1 := mk_ hr1
 have HC1 := mk_ hc1
 clear hr1 hc1
 have HB := mk_ (Below.refl w.heap.size w)
 have H : (if (l0.length : Int) = (l1.length : Int) then (raddlekeep_Row.l0 k l0 l1 0) else (some false)) = some r := h
 clear h
 by_cases c3 : (l0.length : Int) = (l1.length : Int)
 ·
  rw [if_pos c3] at H
  have c3b0 : ((l0.length : Int) == (l1.length : Int)) = true := beq_iff_eq.mpr c3
  have c3b1 : ((l0.length : Int) != (l1.length : Int)) = false := bne_eq_false_iff_eq.mpr c3
  have c3b2 : (l0.length == l1.length) = true := by first | simpa using c3 | (simp at c3 ⊢; omega)
  clear c3
  have H' := mk_ H
  clear H
  go_enter Try.func84, Try.ntmps84
  go_wp2
  go_loopg [5] k (fun kq v5 w' => ∃ (x5_1 : Int), v5 = .int .i64 x5_1 ∧ Aside0 (raddlekeep_Row.l0 kq l0 l1 x5_1 = some r) ∧ Aside0 (kq ≤ k) ∧ Aside0 (Below w.heap.size w w'))
  case atStart => exact ⟨(0), z3_, H', ⟨Nat.le_refl _⟩, ⟨Short.hB HB⟩⟩
  case round =>
   clear H'
   try clear c1
   try clear p2
   try clear c3
   try clear c3b0
   try clear c3b1
   try clear c3b2
   obtain ⟨x5_1, rfl, HA, HK1, HB⟩ := hrel
   cases gk with
   | zero => exact absurd HA.out (by simp [raddlekeep_Row.l0])
   | succ k1 =>
    have H := HA.out
    clear HA
    simp only [raddlekeep_Row.l0] at H
    by_cases c4 : x5_1 < (l0.length : Int)
    ·
     rw [if_pos c4] at H
     have c4b0 : decide (x5_1 < (l0.length : Int)) = true := decide_eq_true c4
     clear c4
     by_cases c5 : 0 ≤ x5_1
     ·
      rw [if_pos c5] at H
      have c5b0 : decide (0 ≤ x5_1) = true := decide_eq_true c5
      clear c5
      by_cases c6 : x5_1 < (l1.length : Int)
      ·
       rw [if_pos c6] at H
       have c6b0 : decide (x5_1 < (l1.length : Int)) = true := decide_eq_true c6
       clear c6
       replace H := Option.bind_eq_some_iff.mp H
       obtain ⟨t307, A70, H⟩ := H
       replace H : (if t307 = true then (raddlekeep_Row.l0 k1 l0 l1 (wrap64 (x5_1 + 1))) else (some false)) = some r := H
       have A7 := mk_ A70
       clear A70
       by_cases c8 : t307 = true
       ·
        subst c8
        have H1 : (raddlekeep_Row.l0 k1 l0 l1 (wrap64 (x5_1 + 1))) = some r := by rw [if_pos rfl] at H; exact H
        clear H
        have H := H1
        clear H1
        have H' := mk_ H
        clear H
        try go_wp2
        have n0_ := mk_ (below_drew1 HB.out)
        clear HB
        revert n0_
        intro HB
        have p305 : 0 ≤ (x5_1 : Int) := of_decide_eq_true z0_
        have q305 : x5_1 < (l0.length : Int) := of_decide_eq_true z0_
        obtain ⟨ad305, e305, hx305_0, hx305_1, hx305_2⟩ := at_T89 HR0.out x5_1 p305 q305
        have hw305_2 := hx305_2
        have hw305_1 := hx305_1
        have hw305_0 := hx305_0
        cases e305
        replace hx305_0 := (HB.out.cell (World.block_lt_of_cell? w _ hx305_0)).trans hx305_0
        replace hx305_1 := (HB.out.cell (World.block_lt_of_cell? w _ hx305_1)).trans hx305_1
        replace hx305_2 := (HB.out.cell (World.block_lt_of_cell? w _ hx305_2)).trans hx305_2
        replace p305 := eq_true p305
        replace q305 := eq_true q305
        have p306 : 0 ≤ (x5_1 : Int) := of_decide_eq_true z0_
        have q306 : x5_1 < (l1.length : Int) := of_decide_eq_true z0_
        obtain ⟨ad306, e306, hx306_0, hx306_1, hx306_2⟩ := at_T89 HR1.out x5_1 p306 q306
        have hw306_2 := hx306_2
        have hw306_1 := hx306_1
        have hw306_0 := hx306_0
        cases e306
        replace hx306_0 := (HB.out.cell (World.block_lt_of_cell? w _ hx306_0)).trans hx306_0
        replace hx306_1 := (HB.out.cell (World.block_lt_of_cell? w _ hx306_1)).trans hx306_1
        replace hx306_2 := (HB.out.cell (World.block_lt_of_cell? w _ hx306_2)).trans hx306_2
        replace p306 := eq_true p306
        replace q306 := eq_true q306
        refine start_ (n := 10) (S := fun w' => w'.cell? (ad305.add ((x5_1).toNat * 3)) = some (.int .i64 ((rd_T89 l0 x5_1).f0)) ∧ w'.cell? ⟨(ad305.add ((x5_1).toNat * 3)).block, (ad305.add ((x5_1).toNat * 3)).off + 1, none⟩ = some (.int .i64 ((rd_T89 l0 x5_1).f1)) ∧ w'.cell? ⟨(ad305.add ((x5_1).toNat * 3)).block, (ad305.add ((x5_1).toNat * 3)).off + 2, none⟩ = some (.string ((rd_T89 l0 x5_1).f2)) ∧ w'.cell? (ad306.add ((x5_1).toNat * 3)) = some (.int .i64 ((rd_T89 l1 x5_1).f0)) ∧ w'.cell? ⟨(ad306.add ((x5_1).toNat * 3)).block, (ad306.add ((x5_1).toNat * 3)).off + 1, none⟩ = some (.int .i64 ((rd_T89 l1 x5_1).f1)) ∧ w'.cell? ⟨(ad306.add ((x5_1).toNat * 3)).block, (ad306.add ((x5_1).toNat * 3)).off + 2, none⟩ = some (.string ((rd_T89 l1 x5_1).f2))) (ds := []) (Steps.Bs 10 0) z1_ rfl rfl ⟨((HB.out.cell (World.block_lt_of_cell? w _ hw305_0)).trans hw305_0), ((HB.out.cell (World.block_lt_of_cell? w _ hw305_1)).trans hw305_1), ((HB.out.cell (World.block_lt_of_cell? w _ hw305_2)).trans hw305_2), ((HB.out.cell (World.block_lt_of_cell? w _ hw306_0)).trans hw306_0), ((HB.out.cell (World.block_lt_of_cell? w _ hw306_1)).trans hw306_1), ((HB.out.cell (World.block_lt_of_cell? w _ hw306_2)).trans hw306_2)⟩ (fun hHeld => ?_); refine with_tabW raddlekeep_Row.tab6 raddlekeep_Row.bits6 (fun HT_ HW_ => ?_)
        generalize wr.drew = w9 at HB hx305_0 hx305_1 hx305_2 hx306_0 hx306_1 hx306_2 hHeld ⊢
        refine Steps.pI_ 0 (some 17) (Steps.Bs 10 1) (any_of HT_.out z1_) (h := ?_)
        refine Steps.pI_ 1 (some 18) (Steps.Bs 10 3) (any_of HT_.out z1_) (h := ?_)
        refine Steps.pI_ 2 (some 19) (Steps.Bs 10 7) (any_of HT_.out z1_) (h := ?_)
        refine Steps.pI_ 4 (some 21) (Steps.Bs 10 23) (any_of HT_.out z1_) (h := ?_)
        refine Steps.pI_ 5 (some 22) (Steps.Bs 10 55) (any_of HT_.out z1_) (h := ?_)
        refine Steps.pI_ 6 (some 23) (Steps.Bs 10 119) (any_of HT_.out z1_) (h := ?_)
        refine Steps.tI_ 3 (some 20) (Steps.Bs 10 127) (take_ofW HT_.out HW_.out z1_) hHeld (h := ?_)
        refine Steps.tI_ 7 (some 24) (Steps.Bs 10 255) (take_ofW HT_.out HW_.out z1_) hHeld (h := ?_)
        refine one_ (i := 8) (N := some 25) (Steps.Bs 10 511) rfl rfl (one_of HT_.out z1_) z5_ (fun K hK => ?_)
        refine goes_ Try.func102 z1_ rfl #[.agg #[.int .i64 ((rd_T89 l0 x5_1).f0), .int .i64 ((rd_T89 l0 x5_1).f1), .string ((rd_T89 l0 x5_1).f2)], .agg #[.int .i64 ((rd_T89 l1 x5_1).f0), .int .i64 ((rd_T89 l1 x5_1).f1), .string ((rd_T89 l1 x5_1).f2)]] (by rfl) rfl rfl z4_ ?_
        with_reducible refine (raddlekeep_Value.calls ((rd_T89 l0 x5_1).f0) ((rd_T89 l0 x5_1).f1) ((rd_T89 l0 x5_1).f2) ((rd_T89 l1 x5_1).f0) ((rd_T89 l1 x5_1).f1) ((rd_T89 l1 x5_1).f2) true _ A7.out).mono ?_
        rintro e w10 ⟨rfl, hb⟩
        refine ⟨_, rfl, ?_⟩
        have n0_ := mk_ (below_step (Short.hB HB) hb)
        clear HB
        revert n0_
        intro HB
        (try clear hb)
        (try clear hb2)
        (try clear hk)
        (try clear hi)
        refine hK.out _ _ ⟨((HB.out.cell (World.block_lt_of_cell? w _ hw305_0)).trans hw305_0), ((HB.out.cell (World.block_lt_of_cell? w _ hw305_1)).trans hw305_1), ((HB.out.cell (World.block_lt_of_cell? w _ hw305_2)).trans hw305_2), ((HB.out.cell (World.block_lt_of_cell? w _ hw306_0)).trans hw306_0), ((HB.out.cell (World.block_lt_of_cell? w _ hw306_1)).trans hw306_1), ((HB.out.cell (World.block_lt_of_cell? w _ hw306_2)).trans hw306_2)⟩ (fun hHeld => ?_)
        clear hK K
        refine norm_ (a' := ?_) ?_ ?_
        rotate_left
        ·
         show Act.put _ (some 25) _ = _
         simp only [Act.put, List.setIfInBounds_toArray, List.set_cons_zero, List.set_cons_succ, i64_w, i32_w]
         rfl
        refine Steps.pI_ 9 (some 26) (Steps.Bs 10 1023) (any_of HT_.out z1_) (h := ?_)
        refine done_ (done_of HT_.out z1_) ?_
        try go_wp2
        go_roundg k1
        case measure => have := HK1.out; omega
        case rel => exact ⟨(wrap64 (x5_1 + 1)), z3_, H', ⟨by have := HK1.out; omega⟩, ⟨Short.hB HB⟩⟩
       ·
        replace c8 := Bool.eq_false_iff.mpr c8
        subst c8
        have H1 : (some false) = some r := by rw [if_neg (show ¬ (false = true) by decide)] at H; exact H
        clear H
        have H := H1
        clear H1
        obtain rfl := Option.some.inj H
        try go_wp2
        have n0_ := mk_ (below_drew1 HB.out)
        clear HB
        revert n0_
        intro HB
        have p305 : 0 ≤ (x5_1 : Int) := of_decide_eq_true z0_
        have q305 : x5_1 < (l0.length : Int) := of_decide_eq_true z0_
        obtain ⟨ad305, e305, hx305_0, hx305_1, hx305_2⟩ := at_T89 HR0.out x5_1 p305 q305
        have hw305_2 := hx305_2
        have hw305_1 := hx305_1
        have hw305_0 := hx305_0
        cases e305
        replace hx305_0 := (HB.out.cell (World.block_lt_of_cell? w _ hx305_0)).trans hx305_0
        replace hx305_1 := (HB.out.cell (World.block_lt_of_cell? w _ hx305_1)).trans hx305_1
        replace hx305_2 := (HB.out.cell (World.block_lt_of_cell? w _ hx305_2)).trans hx305_2
        replace p305 := eq_true p305
        replace q305 := eq_true q305
        have p306 : 0 ≤ (x5_1 : Int) := of_decide_eq_true z0_
        have q306 : x5_1 < (l1.length : Int) := of_decide_eq_true z0_
        obtain ⟨ad306, e306, hx306_0, hx306_1, hx306_2⟩ := at_T89 HR1.out x5_1 p306 q306
        have hw306_2 := hx306_2
        have hw306_1 := hx306_1
        have hw306_0 := hx306_0
        cases e306
        replace hx306_0 := (HB.out.cell (World.block_lt_of_cell? w _ hx306_0)).trans hx306_0
        replace hx306_1 := (HB.out.cell (World.block_lt_of_cell? w _ hx306_1)).trans hx306_1
        replace hx306_2 := (HB.out.cell (World.block_lt_of_cell? w _ hx306_2)).trans hx306_2
        replace p306 := eq_true p306
        replace q306 := eq_true q306
        refine start_ (n := 10) (S := fun w' => w'.cell? (ad305.add ((x5_1).toNat * 3)) = some (.int .i64 ((rd_T89 l0 x5_1).f0)) ∧ w'.cell? ⟨(ad305.add ((x5_1).toNat * 3)).block, (ad305.add ((x5_1).toNat * 3)).off + 1, none⟩ = some (.int .i64 ((rd_T89 l0 x5_1).f1)) ∧ w'.cell? ⟨(ad305.add ((x5_1).toNat * 3)).block, (ad305.add ((x5_1).toNat * 3)).off + 2, none⟩ = some (.string ((rd_T89 l0 x5_1).f2)) ∧ w'.cell? (ad306.add ((x5_1).toNat * 3)) = some (.int .i64 ((rd_T89 l1 x5_1).f0)) ∧ w'.cell? ⟨(ad306.add ((x5_1).toNat * 3)).block, (ad306.add ((x5_1).toNat * 3)).off + 1, none⟩ = some (.int .i64 ((rd_T89 l1 x5_1).f1)) ∧ w'.cell? ⟨(ad306.add ((x5_1).toNat * 3)).block, (ad306.add ((x5_1).toNat * 3)).off + 2, none⟩ = some (.string ((rd_T89 l1 x5_1).f2))) (ds := []) (Steps.Bs 10 0) z1_ rfl rfl ⟨((HB.out.cell (World.block_lt_of_cell? w _ hw305_0)).trans hw305_0), ((HB.out.cell (World.block_lt_of_cell? w _ hw305_1)).trans hw305_1), ((HB.out.cell (World.block_lt_of_cell? w _ hw305_2)).trans hw305_2), ((HB.out.cell (World.block_lt_of_cell? w _ hw306_0)).trans hw306_0), ((HB.out.cell (World.block_lt_of_cell? w _ hw306_1)).trans hw306_1), ((HB.out.cell (World.block_lt_of_cell? w _ hw306_2)).trans hw306_2)⟩ (fun hHeld => ?_); refine with_tabW raddlekeep_Row.tab6 raddlekeep_Row.bits6 (fun HT_ HW_ => ?_)
        generalize wr.drew = w11 at HB hx305_0 hx305_1 hx305_2 hx306_0 hx306_1 hx306_2 hHeld ⊢
        refine Steps.pI_ 0 (some 17) (Steps.Bs 10 1) (any_of HT_.out z1_) (h := ?_)
        refine Steps.pI_ 1 (some 18) (Steps.Bs 10 3) (any_of HT_.out z1_) (h := ?_)
        refine Steps.pI_ 2 (some 19) (Steps.Bs 10 7) (any_of HT_.out z1_) (h := ?_)
        refine Steps.pI_ 4 (some 21) (Steps.Bs 10 23) (any_of HT_.out z1_) (h := ?_)
        refine Steps.pI_ 5 (some 22) (Steps.Bs 10 55) (any_of HT_.out z1_) (h := ?_)
        refine Steps.pI_ 6 (some 23) (Steps.Bs 10 119) (any_of HT_.out z1_) (h := ?_)
        refine Steps.tI_ 3 (some 20) (Steps.Bs 10 127) (take_ofW HT_.out HW_.out z1_) hHeld (h := ?_)
        refine Steps.tI_ 7 (some 24) (Steps.Bs 10 255) (take_ofW HT_.out HW_.out z1_) hHeld (h := ?_)
        refine one_ (i := 8) (N := some 25) (Steps.Bs 10 511) rfl rfl (one_of HT_.out z1_) z5_ (fun K hK => ?_)
        refine goes_ Try.func102 z1_ rfl #[.agg #[.int .i64 ((rd_T89 l0 x5_1).f0), .int .i64 ((rd_T89 l0 x5_1).f1), .string ((rd_T89 l0 x5_1).f2)], .agg #[.int .i64 ((rd_T89 l1 x5_1).f0), .int .i64 ((rd_T89 l1 x5_1).f1), .string ((rd_T89 l1 x5_1).f2)]] (by rfl) rfl rfl z4_ ?_
        with_reducible refine (raddlekeep_Value.calls ((rd_T89 l0 x5_1).f0) ((rd_T89 l0 x5_1).f1) ((rd_T89 l0 x5_1).f2) ((rd_T89 l1 x5_1).f0) ((rd_T89 l1 x5_1).f1) ((rd_T89 l1 x5_1).f2) false _ A7.out).mono ?_
        rintro e w12 ⟨rfl, hb⟩
        refine ⟨_, rfl, ?_⟩
        have n0_ := mk_ (below_step (Short.hB HB) hb)
        clear HB
        revert n0_
        intro HB
        (try clear hb)
        (try clear hb2)
        (try clear hk)
        (try clear hi)
        refine hK.out _ _ ⟨((HB.out.cell (World.block_lt_of_cell? w _ hw305_0)).trans hw305_0), ((HB.out.cell (World.block_lt_of_cell? w _ hw305_1)).trans hw305_1), ((HB.out.cell (World.block_lt_of_cell? w _ hw305_2)).trans hw305_2), ((HB.out.cell (World.block_lt_of_cell? w _ hw306_0)).trans hw306_0), ((HB.out.cell (World.block_lt_of_cell? w _ hw306_1)).trans hw306_1), ((HB.out.cell (World.block_lt_of_cell? w _ hw306_2)).trans hw306_2)⟩ (fun hHeld => ?_)
        clear hK K
        refine norm_ (a' := ?_) ?_ ?_
        rotate_left
        ·
         show Act.put _ (some 25) _ = _
         simp only [Act.put, List.setIfInBounds_toArray, List.set_cons_zero, List.set_cons_succ, i64_w, i32_w]
         rfl
        refine Steps.pI_ 9 (some 26) (Steps.Bs 10 1023) (any_of HT_.out z1_) (h := ?_)
        refine done_ (done_of HT_.out z1_) ?_
        try go_wp2
        go_ret
        exact ⟨by first | rfl | (simp [errW_none, errW_some] <;> rfl) | (simp [*, errW_none, errW_some] <;> rfl), Short.hB HB⟩
      ·
       rw [if_neg c6] at H
       exact absurd H (by simp)
     ·
      rw [if_neg c5] at H
      exact absurd H (by simp)
    ·
     rw [if_neg c4] at H
     have c4b0 : decide (x5_1 < (l0.length : Int)) = false := decide_eq_false c4
     clear c4
     obtain rfl := Option.some.inj H
     go_wp2
     go_ret
     exact ⟨by first | rfl | (simp [errW_none, errW_some] <;> rfl) | (simp [*, errW_none, errW_some] <;> rfl), Short.hB HB⟩
 ·
  rw [if_neg c3] at H
  have c3b0 : ((l0.length : Int) == (l1.length : Int)) = false := beq_eq_false_iff_ne.mpr c3
  have c3b1 : ((l0.length : Int) != (l1.length : Int)) = true := bne_iff_ne.mpr c3
  have c3b2 : (l0.length == l1.length) = false := by first | simpa using c3 | (simp at c3 ⊢; omega)
  obtain rfl := Option.some.inj H
  go_enter Try.func84, Try.ntmps84
  go_wp2
  go_ret
  exact ⟨by first | rfl | (simp [errW_none, errW_some] <;> rfl) | (simp [*, errW_none, errW_some] <;> rfl), Short.hB HB⟩
def raddlekeep_Op.f (k : Nat) (a0_0 : Int) (a0_1 : Int) (l0_2 : List Int) (a0_3 : Int) (a0_4 : Int) (a0_5 : Int) (a0_6 : Int) (a0_7 : Int) (a0_8 : ByteArray) (a0_9 : Int) (l0_10 : List (S89)) (l0_11 : List (S50)) (a1_0 : Int) (a1_1 : Int) (l1_2 : List Int) (a1_3 : Int) (a1_4 : Int) (a1_5 : Int) (a1_6 : Int) (a1_7 : Int) (a1_8 : ByteArray) (a1_9 : Int) (l1_10 : List (S89)) (l1_11 : List (S50)) : Option (Bool) := (raddlekeep_Dot.f a0_0 a0_1 a1_0 a1_1).bind fun t310 => (if t310 = true then ((raddlekeep_Ints.f k l0_2 l1_2).bind fun t311 => (if t311 = true then ((raddlekeep_Stamp.f a0_3 a0_4 a0_5 a1_3 a1_4 a1_5).bind fun t312 => (if t312 = true then (if a0_6 = a1_6 then (if a0_7 = a1_7 then (if a0_8.toList = a1_8.toList then (if a0_9 = a1_9 then ((raddlekeep_Row.f k l0_10 l1_10).bind fun t313 => (if t313 = true then ((raddlekeep_Dots.f k l0_11 l1_11).bind fun t314 => (some t314)) else (some false))) else (some false)) else (some false)) else (some false)) else (some false)) else (some false))) else (some false))) else (some false))
set_option maxHeartbeats 8000000 in
set_option maxRecDepth 100000 in
theorem raddlekeep_Op.calls (k : Nat) (a0_0 : Int) (a0_1 : Int) (A0_2 : Option Addr) (c0_2 : Nat) (l0_2 : List Int) (a0_3 : Int) (a0_4 : Int) (a0_5 : Int) (a0_6 : Int) (a0_7 : Int) (a0_8 : ByteArray) (a0_9 : Int) (A0_10 : Option Addr) (c0_10 : Nat) (l0_10 : List (S89)) (A0_11 : Option Addr) (c0_11 : Nat) (l0_11 : List (S50)) (a1_0 : Int) (a1_1 : Int) (A1_2 : Option Addr) (c1_2 : Nat) (l1_2 : List Int) (a1_3 : Int) (a1_4 : Int) (a1_5 : Int) (a1_6 : Int) (a1_7 : Int) (a1_8 : ByteArray) (a1_9 : Int) (A1_10 : Option Addr) (c1_10 : Nat) (l1_10 : List (S89)) (A1_11 : Option Addr) (c1_11 : Nat) (l1_11 : List (S50)) (r : Bool) (w : World) (hr0_2 : Kd.C (Kd.int .i64) w A0_2 l0_2.length l0_2) (hc0_2 : l0_2.length ≤ c0_2) (hr0_10 : Kd.C k89 w A0_10 l0_10.length l0_10) (hc0_10 : l0_10.length ≤ c0_10) (hr0_11 : Kd.C k50 w A0_11 l0_11.length l0_11) (hc0_11 : l0_11.length ≤ c0_11) (hr1_2 : Kd.C (Kd.int .i64) w A1_2 l1_2.length l1_2) (hc1_2 : l1_2.length ≤ c1_2) (hr1_10 : Kd.C k89 w A1_10 l1_10.length l1_10) (hc1_10 : l1_10.length ≤ c1_10) (hr1_11 : Kd.C k50 w A1_11 l1_11.length l1_11) (hc1_11 : l1_11.length ≤ c1_11) (h : raddlekeep_Op.f k a0_0 a0_1 l0_2 a0_3 a0_4 a0_5 a0_6 a0_7 a0_8 a0_9 l0_10 l0_11 a1_0 a1_1 l1_2 a1_3 a1_4 a1_5 a1_6 a1_7 a1_8 a1_9 l1_10 l1_11 = some r) :
  Calls Try.prog 46 #[.agg #[.int .i64 a0_0, .int .i64 a0_1, .slice A0_2 l0_2.length c0_2, .int .i64 a0_3, .int .i64 a0_4, .int .i64 a0_5, .int .i64 a0_6, .int .i64 a0_7, .string a0_8, .int .i64 a0_9, .slice A0_10 l0_10.length c0_10, .slice A0_11 l0_11.length c0_11], .agg #[.int .i64 a1_0, .int .i64 a1_1, .slice A1_2 l1_2.length c1_2, .int .i64 a1_3, .int .i64 a1_4, .int .i64 a1_5, .int .i64 a1_6, .int .i64 a1_7, .string a1_8, .int .i64 a1_9, .slice A1_10 l1_10.length c1_10, .slice A1_11 l1_11.length c1_11]] w fun e w' => e = .returned (.bool r) ∧ Below w.heap.size w w' := by
 have hu54 := Try.underlying54
 have hu50 := Try.underlying50
 have hu26 := Try.underlying26
 have HR0_2 := mk_ hr0_2
 have HC0_2 := mk_ hc0_2
 clear hr0_2 hc0_2
 have HR0_10 := mk_ hr0_10
 have HC0_10 := mk_ hc0_10
 clear hr0_10 hc0_10
 have HR0_11 := mk_ hr0_11
 have HC0_11 := mk_ hc0_11
 clear hr0_11 hc0_11
 have HR1_2 := mk_ hr1_2
 have HC1_2 := mk_ hc1_2
 clear hr1_2 hc1_2
 have HR1_10 := mk_ hr1_10
 have HC1_10 := mk_ hc1_10
 clear hr1_10 hc1_10
 have HR1_11 := mk_ hr1_11
 have HC1_11 := mk_ hc1_11
 clear hr1_11 hc1_11
 have HB := mk_ (Below.refl w.heap.size w)
 have H : ((raddlekeep_Dot.f a0_0 a0_1 a1_0 a1_1).bind fun t310 => (if t310 = true then ((raddlekeep_Ints.f k l0_2 l1_2).bind fun t311 => (if t311 = true then ((raddlekeep_Stamp.f a0_3 a0_4 a0_5 a1_3 a1_4 a1_5).bind fun t312 => (if t312 = true then (if a0_6 = a1_6 then (if a0_7 = a1_7 then (if a0_8.toList = a1_8.toList then (if a0_9 = a1_9 then ((raddlekeep_Row.f k l0_10 l1_10).bind fun t313 => (if t313 = true then ((raddlekeep_Dots.f k l0_11 l1_11).bind fun t314 => (some t314)) else (some false))) else (some false)) else (some false)) else (some false)) else (some false)) else (some false))) else (some false))) else (some false))) = some r := h
 clear h
 replace H := Option.bind_eq_some_iff.mp H
 obtain ⟨t310, A30, H⟩ := H
 replace H : (if t310 = true then ((raddlekeep_Ints.f k l0_2 l1_2).bind fun t311 => (if t311 = true then ((raddlekeep_Stamp.f a0_3 a0_4 a0_5 a1_3 a1_4 a1_5).bind fun t312 => (if t312 = true then (if a0_6 = a1_6 then (if a0_7 = a1_7 then (if a0_8.toList = a1_8.toList then (if a0_9 = a1_9 then ((raddlekeep_Row.f k l0_10 l1_10).bind fun t313 => (if t313 = true then ((raddlekeep_Dots.f k l0_11 l1_11).bind fun t314 => (some t314)) else (some false))) else (some false)) else (some false)) else (some false)) else (some false)) else (some false))) else (some false))) else (some false)) = some r := H
 have A3 := mk_ A30
 clear A30
 by_cases c4 : t310 = true
 ·
  subst c4
  have H1 : ((raddlekeep_Ints.f k l0_2 l1_2).bind fun t311 => (if t311 = true then ((raddlekeep_Stamp.f a0_3 a0_4 a0_5 a1_3 a1_4 a1_5).bind fun t312 => (if t312 = true then (if a0_6 = a1_6 then (if a0_7 = a1_7 then (if a0_8.toList = a1_8.toList then (if a0_9 = a1_9 then ((raddlekeep_Row.f k l0_10 l1_10).bind fun t313 => (if t313 = true then ((raddlekeep_Dots.f k l0_11 l1_11).bind fun t314 => (some t314)) else (some false))) else (some false)) else (some false)) else (some false)) else (some false)) else (some false))) else (some false))) = some r := by rw [if_pos rfl] at H; exact H
  clear H
  have H := H1
  clear H1
  replace H := Option.bind_eq_some_iff.mp H
  obtain ⟨t311, A50, H⟩ := H
  replace H : (if t311 = true then ((raddlekeep_Stamp.f a0_3 a0_4 a0_5 a1_3 a1_4 a1_5).bind fun t312 => (if t312 = true then (if a0_6 = a1_6 then (if a0_7 = a1_7 then (if a0_8.toList = a1_8.toList then (if a0_9 = a1_9 then ((raddlekeep_Row.f k l0_10 l1_10).bind fun t313 => (if t313 = true then ((raddlekeep_Dots.f k l0_11 l1_11).bind fun t314 => (some t314)) else (some false))) else (some false)) else (some false)) else (some false)) else (some false)) else (some false))) else (some false)) = some r := H
  have A5 := mk_ A50
  clear A50
  by_cases c6 : t311 = true
  ·
   subst c6
   have H1 : ((raddlekeep_Stamp.f a0_3 a0_4 a0_5 a1_3 a1_4 a1_5).bind fun t312 => (if t312 = true then (if a0_6 = a1_6 then (if a0_7 = a1_7 then (if a0_8.toList = a1_8.toList then (if a0_9 = a1_9 then ((raddlekeep_Row.f k l0_10 l1_10).bind fun t313 => (if t313 = true then ((raddlekeep_Dots.f k l0_11 l1_11).bind fun t314 => (some t314)) else (some false))) else (some false)) else (some false)) else (some false)) else (some false)) else (some false))) = some r := by rw [if_pos rfl] at H; exact H
   clear H
   have H := H1
   clear H1
   replace H := Option.bind_eq_some_iff.mp H
   obtain ⟨t312, A70, H⟩ := H
   replace H : (if t312 = true then (if a0_6 = a1_6 then (if a0_7 = a1_7 then (if a0_8.toList = a1_8.toList then (if a0_9 = a1_9 then ((raddlekeep_Row.f k l0_10 l1_10).bind fun t313 => (if t313 = true then ((raddlekeep_Dots.f k l0_11 l1_11).bind fun t314 => (some t314)) else (some false))) else (some false)) else (some false)) else (some false)) else (some false)) else (some false)) = some r := H
   have A7 := mk_ A70
   clear A70
   by_cases c8 : t312 = true
   ·
    subst c8
    have H1 : (if a0_6 = a1_6 then (if a0_7 = a1_7 then (if a0_8.toList = a1_8.toList then (if a0_9 = a1_9 then ((raddlekeep_Row.f k l0_10 l1_10).bind fun t313 => (if t313 = true then ((raddlekeep_Dots.f k l0_11 l1_11).bind fun t314 => (some t314)) else (some false))) else (some false)) else (some false)) else (some false)) else (some false)) = some r := by rw [if_pos rfl] at H; exact H
    clear H
    have H := H1
    clear H1
    by_cases c9 : a0_6 = a1_6
    ·
     rw [if_pos c9] at H
     have c9b0 : (a0_6 == a1_6) = true := beq_iff_eq.mpr c9
     have c9b1 : (a0_6 != a1_6) = false := bne_eq_false_iff_eq.mpr c9
     clear c9
     by_cases c10 : a0_7 = a1_7
     ·
      rw [if_pos c10] at H
      have c10b0 : (a0_7 == a1_7) = true := beq_iff_eq.mpr c10
      have c10b1 : (a0_7 != a1_7) = false := bne_eq_false_iff_eq.mpr c10
      clear c10
      by_cases c11 : a0_8.toList = a1_8.toList
      ·
       rw [if_pos c11] at H
       have c11b0 : (a0_8.toList == a1_8.toList) = true := beq_iff_eq.mpr c11
       have c11b1 : (a0_8.toList != a1_8.toList) = false := bne_eq_false_iff_eq.mpr c11
       clear c11
       by_cases c12 : a0_9 = a1_9
       ·
        rw [if_pos c12] at H
        have c12b0 : (a0_9 == a1_9) = true := beq_iff_eq.mpr c12
        have c12b1 : (a0_9 != a1_9) = false := bne_eq_false_iff_eq.mpr c12
        clear c12
        replace H := Option.bind_eq_some_iff.mp H
        obtain ⟨t313, A130, H⟩ := H
        replace H : (if t313 = true then ((raddlekeep_Dots.f k l0_11 l1_11).bind fun t314 => (some t314)) else (some false)) = some r := H
        have A13 := mk_ A130
        clear A130
        by_cases c14 : t313 = true
        ·
         subst c14
         have H1 : ((raddlekeep_Dots.f k l0_11 l1_11).bind fun t314 => (some t314)) = some r := by rw [if_pos rfl] at H; exact H
         clear H
         have H := H1
         clear H1
         replace H := Option.bind_eq_some_iff.mp H
         obtain ⟨t314, A150, H⟩ := H
         replace H : (some t314) = some r := H
         have A15 := mk_ A150
         clear A150
         obtain rfl := Option.some.inj H
         go_enter Try.func46, Try.ntmps46
         go_wp2_with (first | ((with_reducible refine gate_dst (N := 2) rfl ?_); refine box_event ?hg (N := 2) ?hd (cs := #[.int .i64 a0_0, .int .i64 a0_1, .slice A0_2 l0_2.length c0_2, .int .i64 a0_3, .int .i64 a0_4, .int .i64 a0_5, .int .i64 a0_6, .int .i64 a0_7, .string a0_8, .int .i64 a0_9, .slice A0_10 l0_10.length c0_10, .slice A0_11 l0_11.length c0_11]) (t := 54) ?hr ?_; (case hd => rfl); (case hg => rfl); (case hr => first | (go_simp; done) | (go_simp; rfl)); intro gb308 hg w16 hbox hb; have n0_ := mk_ (below_step (Short.hB HB) hb); have n1_ := mk_ (hbox); have n2_ := mk_ ((by rw [hg]; exact (below_size (Short.hB HB)) : w.heap.size ≤ gb308)); have n3_ := mk_ ((by rw [hg]; exact (below_size (Short.hB HB)) : w.heap.size ≤ gb308)); clear HB; revert n0_ n1_ n2_ n3_; intro HB BK308 GW308 GE308; clear hb hbox hg) | ((with_reducible refine gate_dst (N := 3) rfl ?_); refine box_event ?hg (N := 3) ?hd (cs := #[.int .i64 a1_0, .int .i64 a1_1, .slice A1_2 l1_2.length c1_2, .int .i64 a1_3, .int .i64 a1_4, .int .i64 a1_5, .int .i64 a1_6, .int .i64 a1_7, .string a1_8, .int .i64 a1_9, .slice A1_10 l1_10.length c1_10, .slice A1_11 l1_11.length c1_11]) (t := 54) ?hr ?_; (case hd => rfl); (case hg => rfl); (case hr => first | (go_simp; done) | (go_simp; rfl)); intro gb309 hg w17 hbox hb; have n0_ := mk_ (bB_ BK308 hb); have n1_ := mk_ (below_step (Short.hB HB) hb); have n2_ := mk_ (hbox); have n3_ := mk_ ((by rw [hg]; exact (below_size (Short.hB HB)) : w.heap.size ≤ gb309)); have n4_ := mk_ ((by rw [hg]; exact (below_size (Short.hB HB)) : w.heap.size ≤ gb309)); have n5_ := mk_ ((by rw [hg]; exact Nat.ne_of_lt (blk_lt (g := gb308) (o := .cells #[.int .i64 a0_0, .int .i64 a0_1, .slice A0_2 l0_2.length c0_2, .int .i64 a0_3, .int .i64 a0_4, .int .i64 a0_5, .int .i64 a0_6, .int .i64 a0_7, .string a0_8, .int .i64 a0_9, .slice A0_10 l0_10.length c0_10, .slice A0_11 l0_11.length c0_11] 54 (0, 0)) (Short.bK BK308)) : gb308 ≠ gb309)); have n6_ := mk_ ((by rw [hg]; exact Nat.ne_of_gt (blk_lt (g := gb308) (o := .cells #[.int .i64 a0_0, .int .i64 a0_1, .slice A0_2 l0_2.length c0_2, .int .i64 a0_3, .int .i64 a0_4, .int .i64 a0_5, .int .i64 a0_6, .int .i64 a0_7, .string a0_8, .int .i64 a0_9, .slice A0_10 l0_10.length c0_10, .slice A0_11 l0_11.length c0_11] 54 (0, 0)) (Short.bK BK308)) : gb309 ≠ gb308)); clear BK308 HB; revert n0_ n1_ n2_ n3_ n4_ n5_ n6_; intro BK308 HB BK309 GW309 GE309 NB308_309 NB309_308; clear hb hbox hg; have hnb18 := NB308_309.out; have hnc18 := NB309_308.out; have hcz19_0 : w17.cell? ⟨gb308, 0, none⟩ = some (.int .i64 a0_0) := (blk_cell BK308.out 0).trans rfl; have hcz19_1 : w17.cell? ⟨gb308, 1, none⟩ = some (.int .i64 a0_1) := (blk_cell BK308.out 1).trans rfl; have hcz19_2 : w17.cell? ⟨gb308, 2, none⟩ = some (.slice A0_2 l0_2.length c0_2) := (blk_cell BK308.out 2).trans rfl; have hcz19_3 : w17.cell? ⟨gb308, 3, none⟩ = some (.int .i64 a0_3) := (blk_cell BK308.out 3).trans rfl; have hcz19_4 : w17.cell? ⟨gb308, 4, none⟩ = some (.int .i64 a0_4) := (blk_cell BK308.out 4).trans rfl; have hcz19_5 : w17.cell? ⟨gb308, 5, none⟩ = some (.int .i64 a0_5) := (blk_cell BK308.out 5).trans rfl; have hcz19_6 : w17.cell? ⟨gb308, 6, none⟩ = some (.int .i64 a0_6) := (blk_cell BK308.out 6).trans rfl; have hcz19_7 : w17.cell? ⟨gb308, 7, none⟩ = some (.int .i64 a0_7) := (blk_cell BK308.out 7).trans rfl; have hcz19_8 : w17.cell? ⟨gb308, 8, none⟩ = some (.string a0_8) := (blk_cell BK308.out 8).trans rfl; have hcz19_9 : w17.cell? ⟨gb308, 9, none⟩ = some (.int .i64 a0_9) := (blk_cell BK308.out 9).trans rfl; have hcz19_10 : w17.cell? ⟨gb308, 10, none⟩ = some (.slice A0_10 l0_10.length c0_10) := (blk_cell BK308.out 10).trans rfl; have hcz19_11 : w17.cell? ⟨gb308, 11, none⟩ = some (.slice A0_11 l0_11.length c0_11) := (blk_cell BK308.out 11).trans rfl; have hfz19_0 := blk_frozen BK308.out 0; have hfz19_1 := blk_frozen BK308.out 1; have hfz19_2 := blk_frozen BK308.out 2; have hfz19_3 := blk_frozen BK308.out 3; have hfz19_4 := blk_frozen BK308.out 4; have hfz19_5 := blk_frozen BK308.out 5; have hfz19_6 := blk_frozen BK308.out 6; have hfz19_7 := blk_frozen BK308.out 7; have hfz19_8 := blk_frozen BK308.out 8; have hfz19_9 := blk_frozen BK308.out 9; have hfz19_10 := blk_frozen BK308.out 10; have hfz19_11 := blk_frozen BK308.out 11; have hcz20_0 : w17.cell? ⟨gb309, 0, none⟩ = some (.int .i64 a1_0) := (blk_cell BK309.out 0).trans rfl; have hcz20_1 : w17.cell? ⟨gb309, 1, none⟩ = some (.int .i64 a1_1) := (blk_cell BK309.out 1).trans rfl; have hcz20_2 : w17.cell? ⟨gb309, 2, none⟩ = some (.slice A1_2 l1_2.length c1_2) := (blk_cell BK309.out 2).trans rfl; have hcz20_3 : w17.cell? ⟨gb309, 3, none⟩ = some (.int .i64 a1_3) := (blk_cell BK309.out 3).trans rfl; have hcz20_4 : w17.cell? ⟨gb309, 4, none⟩ = some (.int .i64 a1_4) := (blk_cell BK309.out 4).trans rfl; have hcz20_5 : w17.cell? ⟨gb309, 5, none⟩ = some (.int .i64 a1_5) := (blk_cell BK309.out 5).trans rfl; have hcz20_6 : w17.cell? ⟨gb309, 6, none⟩ = some (.int .i64 a1_6) := (blk_cell BK309.out 6).trans rfl; have hcz20_7 : w17.cell? ⟨gb309, 7, none⟩ = some (.int .i64 a1_7) := (blk_cell BK309.out 7).trans rfl; have hcz20_8 : w17.cell? ⟨gb309, 8, none⟩ = some (.string a1_8) := (blk_cell BK309.out 8).trans rfl; have hcz20_9 : w17.cell? ⟨gb309, 9, none⟩ = some (.int .i64 a1_9) := (blk_cell BK309.out 9).trans rfl; have hcz20_10 : w17.cell? ⟨gb309, 10, none⟩ = some (.slice A1_10 l1_10.length c1_10) := (blk_cell BK309.out 10).trans rfl; have hcz20_11 : w17.cell? ⟨gb309, 11, none⟩ = some (.slice A1_11 l1_11.length c1_11) := (blk_cell BK309.out 11).trans rfl; have hfz20_0 := blk_frozen BK309.out 0; have hfz20_1 := blk_frozen BK309.out 1; have hfz20_2 := blk_frozen BK309.out 2; have hfz20_3 := blk_frozen BK309.out 3; have hfz20_4 := blk_frozen BK309.out 4; have hfz20_5 := blk_frozen BK309.out 5; have hfz20_6 := blk_frozen BK309.out 6; have hfz20_7 := blk_frozen BK309.out 7; have hfz20_8 := blk_frozen BK309.out 8; have hfz20_9 := blk_frozen BK309.out 9; have hfz20_10 := blk_frozen BK309.out 10; have hfz20_11 := blk_frozen BK309.out 11) | ((with_reducible refine gate_callee (f := 83) rfl ?_); refine Short.gL (some 9) Try.func83 #[.agg #[.int .i64 a0_0, .int .i64 a0_1], .agg #[.int .i64 a1_0, .int .i64 a1_1]] (h := ?_); (with_reducible refine (raddlekeep_Dot.calls a0_0 a0_1 a1_0 a1_1 true _ A3.out).mono ?_); rintro e w21 ⟨rfl, hb⟩; refine ⟨_, rfl, ?_⟩; have n0_ := mk_ (bB_ BK308 hb); have n1_ := mk_ (bB_ BK309 hb); have n2_ := mk_ (below_step (Short.hB HB) hb); clear BK308 BK309 HB; revert n0_ n1_ n2_; intro BK308 BK309 HB; (try clear hb); have hcz22_0 : w21.cell? ⟨gb308, 0, none⟩ = some (.int .i64 a0_0) := (blk_cell BK308.out 0).trans rfl; have hcz22_1 : w21.cell? ⟨gb308, 1, none⟩ = some (.int .i64 a0_1) := (blk_cell BK308.out 1).trans rfl; have hcz22_2 : w21.cell? ⟨gb308, 2, none⟩ = some (.slice A0_2 l0_2.length c0_2) := (blk_cell BK308.out 2).trans rfl; have hcz22_3 : w21.cell? ⟨gb308, 3, none⟩ = some (.int .i64 a0_3) := (blk_cell BK308.out 3).trans rfl; have hcz22_4 : w21.cell? ⟨gb308, 4, none⟩ = some (.int .i64 a0_4) := (blk_cell BK308.out 4).trans rfl; have hcz22_5 : w21.cell? ⟨gb308, 5, none⟩ = some (.int .i64 a0_5) := (blk_cell BK308.out 5).trans rfl; have hcz22_6 : w21.cell? ⟨gb308, 6, none⟩ = some (.int .i64 a0_6) := (blk_cell BK308.out 6).trans rfl; have hcz22_7 : w21.cell? ⟨gb308, 7, none⟩ = some (.int .i64 a0_7) := (blk_cell BK308.out 7).trans rfl; have hcz22_8 : w21.cell? ⟨gb308, 8, none⟩ = some (.string a0_8) := (blk_cell BK308.out 8).trans rfl; have hcz22_9 : w21.cell? ⟨gb308, 9, none⟩ = some (.int .i64 a0_9) := (blk_cell BK308.out 9).trans rfl; have hcz22_10 : w21.cell? ⟨gb308, 10, none⟩ = some (.slice A0_10 l0_10.length c0_10) := (blk_cell BK308.out 10).trans rfl; have hcz22_11 : w21.cell? ⟨gb308, 11, none⟩ = some (.slice A0_11 l0_11.length c0_11) := (blk_cell BK308.out 11).trans rfl; have hfz22_0 := blk_frozen BK308.out 0; have hfz22_1 := blk_frozen BK308.out 1; have hfz22_2 := blk_frozen BK308.out 2; have hfz22_3 := blk_frozen BK308.out 3; have hfz22_4 := blk_frozen BK308.out 4; have hfz22_5 := blk_frozen BK308.out 5; have hfz22_6 := blk_frozen BK308.out 6; have hfz22_7 := blk_frozen BK308.out 7; have hfz22_8 := blk_frozen BK308.out 8; have hfz22_9 := blk_frozen BK308.out 9; have hfz22_10 := blk_frozen BK308.out 10; have hfz22_11 := blk_frozen BK308.out 11; have hcz23_0 : w21.cell? ⟨gb309, 0, none⟩ = some (.int .i64 a1_0) := (blk_cell BK309.out 0).trans rfl; have hcz23_1 : w21.cell? ⟨gb309, 1, none⟩ = some (.int .i64 a1_1) := (blk_cell BK309.out 1).trans rfl; have hcz23_2 : w21.cell? ⟨gb309, 2, none⟩ = some (.slice A1_2 l1_2.length c1_2) := (blk_cell BK309.out 2).trans rfl; have hcz23_3 : w21.cell? ⟨gb309, 3, none⟩ = some (.int .i64 a1_3) := (blk_cell BK309.out 3).trans rfl; have hcz23_4 : w21.cell? ⟨gb309, 4, none⟩ = some (.int .i64 a1_4) := (blk_cell BK309.out 4).trans rfl; have hcz23_5 : w21.cell? ⟨gb309, 5, none⟩ = some (.int .i64 a1_5) := (blk_cell BK309.out 5).trans rfl; have hcz23_6 : w21.cell? ⟨gb309, 6, none⟩ = some (.int .i64 a1_6) := (blk_cell BK309.out 6).trans rfl; have hcz23_7 : w21.cell? ⟨gb309, 7, none⟩ = some (.int .i64 a1_7) := (blk_cell BK309.out 7).trans rfl; have hcz23_8 : w21.cell? ⟨gb309, 8, none⟩ = some (.string a1_8) := (blk_cell BK309.out 8).trans rfl; have hcz23_9 : w21.cell? ⟨gb309, 9, none⟩ = some (.int .i64 a1_9) := (blk_cell BK309.out 9).trans rfl; have hcz23_10 : w21.cell? ⟨gb309, 10, none⟩ = some (.slice A1_10 l1_10.length c1_10) := (blk_cell BK309.out 10).trans rfl; have hcz23_11 : w21.cell? ⟨gb309, 11, none⟩ = some (.slice A1_11 l1_11.length c1_11) := (blk_cell BK309.out 11).trans rfl; have hfz23_0 := blk_frozen BK309.out 0; have hfz23_1 := blk_frozen BK309.out 1; have hfz23_2 := blk_frozen BK309.out 2; have hfz23_3 := blk_frozen BK309.out 3; have hfz23_4 := blk_frozen BK309.out 4; have hfz23_5 := blk_frozen BK309.out 5; have hfz23_6 := blk_frozen BK309.out 6; have hfz23_7 := blk_frozen BK309.out 7; have hfz23_8 := blk_frozen BK309.out 8; have hfz23_9 := blk_frozen BK309.out 9; have hfz23_10 := blk_frozen BK309.out 10; have hfz23_11 := blk_frozen BK309.out 11) | (go_at_call 41; (with_reducible refine (raddlekeep_Ints.calls k _ _ l0_2 _ _ l1_2 true _ ?side1 ?side2 ?side3 ?side4 A5.out).mono ?_); (case side1 => exact cX_ (C_below HR0_2.out HB.out)); (case side2 => exact HC0_2.out); (case side3 => exact cX_ (C_below HR1_2.out HB.out)); (case side4 => exact HC1_2.out); rintro e w' ⟨rfl, ⟨nd, rfl⟩⟩) | (go_at_call 42; (with_reducible refine (raddlekeep_Stamp.calls a0_3 a0_4 a0_5 a1_3 a1_4 a1_5 true _ A7.out).mono ?_); rintro e w24 ⟨rfl, hb⟩; have n0_ := mk_ (bB_ BK308 hb); have n1_ := mk_ (bB_ BK309 hb); have n2_ := mk_ (below_step (Short.hB HB) hb); clear BK308 BK309 HB; revert n0_ n1_ n2_; intro BK308 BK309 HB; (try clear hb); (try clear hb2); (try clear hk); (try clear hi); have hcz25_0 : w24.cell? ⟨gb308, 0, none⟩ = some (.int .i64 a0_0) := (blk_cell BK308.out 0).trans rfl; have hcz25_1 : w24.cell? ⟨gb308, 1, none⟩ = some (.int .i64 a0_1) := (blk_cell BK308.out 1).trans rfl; have hcz25_2 : w24.cell? ⟨gb308, 2, none⟩ = some (.slice A0_2 l0_2.length c0_2) := (blk_cell BK308.out 2).trans rfl; have hcz25_3 : w24.cell? ⟨gb308, 3, none⟩ = some (.int .i64 a0_3) := (blk_cell BK308.out 3).trans rfl; have hcz25_4 : w24.cell? ⟨gb308, 4, none⟩ = some (.int .i64 a0_4) := (blk_cell BK308.out 4).trans rfl; have hcz25_5 : w24.cell? ⟨gb308, 5, none⟩ = some (.int .i64 a0_5) := (blk_cell BK308.out 5).trans rfl; have hcz25_6 : w24.cell? ⟨gb308, 6, none⟩ = some (.int .i64 a0_6) := (blk_cell BK308.out 6).trans rfl; have hcz25_7 : w24.cell? ⟨gb308, 7, none⟩ = some (.int .i64 a0_7) := (blk_cell BK308.out 7).trans rfl; have hcz25_8 : w24.cell? ⟨gb308, 8, none⟩ = some (.string a0_8) := (blk_cell BK308.out 8).trans rfl; have hcz25_9 : w24.cell? ⟨gb308, 9, none⟩ = some (.int .i64 a0_9) := (blk_cell BK308.out 9).trans rfl; have hcz25_10 : w24.cell? ⟨gb308, 10, none⟩ = some (.slice A0_10 l0_10.length c0_10) := (blk_cell BK308.out 10).trans rfl; have hcz25_11 : w24.cell? ⟨gb308, 11, none⟩ = some (.slice A0_11 l0_11.length c0_11) := (blk_cell BK308.out 11).trans rfl; have hfz25_0 := blk_frozen BK308.out 0; have hfz25_1 := blk_frozen BK308.out 1; have hfz25_2 := blk_frozen BK308.out 2; have hfz25_3 := blk_frozen BK308.out 3; have hfz25_4 := blk_frozen BK308.out 4; have hfz25_5 := blk_frozen BK308.out 5; have hfz25_6 := blk_frozen BK308.out 6; have hfz25_7 := blk_frozen BK308.out 7; have hfz25_8 := blk_frozen BK308.out 8; have hfz25_9 := blk_frozen BK308.out 9; have hfz25_10 := blk_frozen BK308.out 10; have hfz25_11 := blk_frozen BK308.out 11; have hcz26_0 : w24.cell? ⟨gb309, 0, none⟩ = some (.int .i64 a1_0) := (blk_cell BK309.out 0).trans rfl; have hcz26_1 : w24.cell? ⟨gb309, 1, none⟩ = some (.int .i64 a1_1) := (blk_cell BK309.out 1).trans rfl; have hcz26_2 : w24.cell? ⟨gb309, 2, none⟩ = some (.slice A1_2 l1_2.length c1_2) := (blk_cell BK309.out 2).trans rfl; have hcz26_3 : w24.cell? ⟨gb309, 3, none⟩ = some (.int .i64 a1_3) := (blk_cell BK309.out 3).trans rfl; have hcz26_4 : w24.cell? ⟨gb309, 4, none⟩ = some (.int .i64 a1_4) := (blk_cell BK309.out 4).trans rfl; have hcz26_5 : w24.cell? ⟨gb309, 5, none⟩ = some (.int .i64 a1_5) := (blk_cell BK309.out 5).trans rfl; have hcz26_6 : w24.cell? ⟨gb309, 6, none⟩ = some (.int .i64 a1_6) := (blk_cell BK309.out 6).trans rfl; have hcz26_7 : w24.cell? ⟨gb309, 7, none⟩ = some (.int .i64 a1_7) := (blk_cell BK309.out 7).trans rfl; have hcz26_8 : w24.cell? ⟨gb309, 8, none⟩ = some (.string a1_8) := (blk_cell BK309.out 8).trans rfl; have hcz26_9 : w24.cell? ⟨gb309, 9, none⟩ = some (.int .i64 a1_9) := (blk_cell BK309.out 9).trans rfl; have hcz26_10 : w24.cell? ⟨gb309, 10, none⟩ = some (.slice A1_10 l1_10.length c1_10) := (blk_cell BK309.out 10).trans rfl; have hcz26_11 : w24.cell? ⟨gb309, 11, none⟩ = some (.slice A1_11 l1_11.length c1_11) := (blk_cell BK309.out 11).trans rfl; have hfz26_0 := blk_frozen BK309.out 0; have hfz26_1 := blk_frozen BK309.out 1; have hfz26_2 := blk_frozen BK309.out 2; have hfz26_3 := blk_frozen BK309.out 3; have hfz26_4 := blk_frozen BK309.out 4; have hfz26_5 := blk_frozen BK309.out 5; have hfz26_6 := blk_frozen BK309.out 6; have hfz26_7 := blk_frozen BK309.out 7; have hfz26_8 := blk_frozen BK309.out 8; have hfz26_9 := blk_frozen BK309.out 9; have hfz26_10 := blk_frozen BK309.out 10; have hfz26_11 := blk_frozen BK309.out 11) | (go_at_call 84; (with_reducible refine (raddlekeep_Row.calls k _ _ l0_10 _ _ l1_10 true _ ?side1 ?side2 ?side3 ?side4 A13.out).mono ?_); (case side1 => exact cX_ (C_below HR0_10.out HB.out)); (case side2 => exact HC0_10.out); (case side3 => exact cX_ (C_below HR1_10.out HB.out)); (case side4 => exact HC1_10.out); rintro e w27 ⟨rfl, hb⟩; have n0_ := mk_ (bB_ BK308 hb); have n1_ := mk_ (bB_ BK309 hb); have n2_ := mk_ (below_step (Short.hB HB) hb); clear BK308 BK309 HB; revert n0_ n1_ n2_; intro BK308 BK309 HB; (try clear hb); (try clear hb2); (try clear hk); (try clear hi); have hcz28_0 : w27.cell? ⟨gb308, 0, none⟩ = some (.int .i64 a0_0) := (blk_cell BK308.out 0).trans rfl; have hcz28_1 : w27.cell? ⟨gb308, 1, none⟩ = some (.int .i64 a0_1) := (blk_cell BK308.out 1).trans rfl; have hcz28_2 : w27.cell? ⟨gb308, 2, none⟩ = some (.slice A0_2 l0_2.length c0_2) := (blk_cell BK308.out 2).trans rfl; have hcz28_3 : w27.cell? ⟨gb308, 3, none⟩ = some (.int .i64 a0_3) := (blk_cell BK308.out 3).trans rfl; have hcz28_4 : w27.cell? ⟨gb308, 4, none⟩ = some (.int .i64 a0_4) := (blk_cell BK308.out 4).trans rfl; have hcz28_5 : w27.cell? ⟨gb308, 5, none⟩ = some (.int .i64 a0_5) := (blk_cell BK308.out 5).trans rfl; have hcz28_6 : w27.cell? ⟨gb308, 6, none⟩ = some (.int .i64 a0_6) := (blk_cell BK308.out 6).trans rfl; have hcz28_7 : w27.cell? ⟨gb308, 7, none⟩ = some (.int .i64 a0_7) := (blk_cell BK308.out 7).trans rfl; have hcz28_8 : w27.cell? ⟨gb308, 8, none⟩ = some (.string a0_8) := (blk_cell BK308.out 8).trans rfl; have hcz28_9 : w27.cell? ⟨gb308, 9, none⟩ = some (.int .i64 a0_9) := (blk_cell BK308.out 9).trans rfl; have hcz28_10 : w27.cell? ⟨gb308, 10, none⟩ = some (.slice A0_10 l0_10.length c0_10) := (blk_cell BK308.out 10).trans rfl; have hcz28_11 : w27.cell? ⟨gb308, 11, none⟩ = some (.slice A0_11 l0_11.length c0_11) := (blk_cell BK308.out 11).trans rfl; have hfz28_0 := blk_frozen BK308.out 0; have hfz28_1 := blk_frozen BK308.out 1; have hfz28_2 := blk_frozen BK308.out 2; have hfz28_3 := blk_frozen BK308.out 3; have hfz28_4 := blk_frozen BK308.out 4; have hfz28_5 := blk_frozen BK308.out 5; have hfz28_6 := blk_frozen BK308.out 6; have hfz28_7 := blk_frozen BK308.out 7; have hfz28_8 := blk_frozen BK308.out 8; have hfz28_9 := blk_frozen BK308.out 9; have hfz28_10 := blk_frozen BK308.out 10; have hfz28_11 := blk_frozen BK308.out 11; have hcz29_0 : w27.cell? ⟨gb309, 0, none⟩ = some (.int .i64 a1_0) := (blk_cell BK309.out 0).trans rfl; have hcz29_1 : w27.cell? ⟨gb309, 1, none⟩ = some (.int .i64 a1_1) := (blk_cell BK309.out 1).trans rfl; have hcz29_2 : w27.cell? ⟨gb309, 2, none⟩ = some (.slice A1_2 l1_2.length c1_2) := (blk_cell BK309.out 2).trans rfl; have hcz29_3 : w27.cell? ⟨gb309, 3, none⟩ = some (.int .i64 a1_3) := (blk_cell BK309.out 3).trans rfl; have hcz29_4 : w27.cell? ⟨gb309, 4, none⟩ = some (.int .i64 a1_4) := (blk_cell BK309.out 4).trans rfl; have hcz29_5 : w27.cell? ⟨gb309, 5, none⟩ = some (.int .i64 a1_5) := (blk_cell BK309.out 5).trans rfl; have hcz29_6 : w27.cell? ⟨gb309, 6, none⟩ = some (.int .i64 a1_6) := (blk_cell BK309.out 6).trans rfl; have hcz29_7 : w27.cell? ⟨gb309, 7, none⟩ = some (.int .i64 a1_7) := (blk_cell BK309.out 7).trans rfl; have hcz29_8 : w27.cell? ⟨gb309, 8, none⟩ = some (.string a1_8) := (blk_cell BK309.out 8).trans rfl; have hcz29_9 : w27.cell? ⟨gb309, 9, none⟩ = some (.int .i64 a1_9) := (blk_cell BK309.out 9).trans rfl; have hcz29_10 : w27.cell? ⟨gb309, 10, none⟩ = some (.slice A1_10 l1_10.length c1_10) := (blk_cell BK309.out 10).trans rfl; have hcz29_11 : w27.cell? ⟨gb309, 11, none⟩ = some (.slice A1_11 l1_11.length c1_11) := (blk_cell BK309.out 11).trans rfl; have hfz29_0 := blk_frozen BK309.out 0; have hfz29_1 := blk_frozen BK309.out 1; have hfz29_2 := blk_frozen BK309.out 2; have hfz29_3 := blk_frozen BK309.out 3; have hfz29_4 := blk_frozen BK309.out 4; have hfz29_5 := blk_frozen BK309.out 5; have hfz29_6 := blk_frozen BK309.out 6; have hfz29_7 := blk_frozen BK309.out 7; have hfz29_8 := blk_frozen BK309.out 8; have hfz29_9 := blk_frozen BK309.out 9; have hfz29_10 := blk_frozen BK309.out 10; have hfz29_11 := blk_frozen BK309.out 11) | (go_at_call 81; (with_reducible refine (raddlekeep_Dots.calls k _ _ l0_11 _ _ l1_11 t314 _ ?side1 ?side2 ?side3 ?side4 A15.out).mono ?_); (case side1 => exact cX_ (C_below HR0_11.out HB.out)); (case side2 => exact HC0_11.out); (case side3 => exact cX_ (C_below HR1_11.out HB.out)); (case side4 => exact HC1_11.out); rintro e w30 ⟨rfl, hb⟩; have n0_ := mk_ (bB_ BK308 hb); have n1_ := mk_ (bB_ BK309 hb); have n2_ := mk_ (below_step (Short.hB HB) hb); clear BK308 BK309 HB; revert n0_ n1_ n2_; intro BK308 BK309 HB; (try clear hb); (try clear hb2); (try clear hk); (try clear hi)))
         go_ret
         exact ⟨by first | rfl | (simp [errW_none, errW_some] <;> rfl) | (simp [*, errW_none, errW_some] <;> rfl), Short.hB HB⟩
        ·
         replace c14 := Bool.eq_false_iff.mpr c14
         subst c14
         have H1 : (some false) = some r := by rw [if_neg (show ¬ (false = true) by decide)] at H; exact H
         clear H
         have H := H1
         clear H1
         obtain rfl := Option.some.inj H
         go_enter Try.func46, Try.ntmps46
         go_wp2_with (first | ((with_reducible refine gate_dst (N := 2) rfl ?_); refine box_event ?hg (N := 2) ?hd (cs := #[.int .i64 a0_0, .int .i64 a0_1, .slice A0_2 l0_2.length c0_2, .int .i64 a0_3, .int .i64 a0_4, .int .i64 a0_5, .int .i64 a0_6, .int .i64 a0_7, .string a0_8, .int .i64 a0_9, .slice A0_10 l0_10.length c0_10, .slice A0_11 l0_11.length c0_11]) (t := 54) ?hr ?_; (case hd => rfl); (case hg => rfl); (case hr => first | (go_simp; done) | (go_simp; rfl)); intro gb308 hg w31 hbox hb; have n0_ := mk_ (below_step (Short.hB HB) hb); have n1_ := mk_ (hbox); have n2_ := mk_ ((by rw [hg]; exact (below_size (Short.hB HB)) : w.heap.size ≤ gb308)); have n3_ := mk_ ((by rw [hg]; exact (below_size (Short.hB HB)) : w.heap.size ≤ gb308)); clear HB; revert n0_ n1_ n2_ n3_; intro HB BK308 GW308 GE308; clear hb hbox hg) | ((with_reducible refine gate_dst (N := 3) rfl ?_); refine box_event ?hg (N := 3) ?hd (cs := #[.int .i64 a1_0, .int .i64 a1_1, .slice A1_2 l1_2.length c1_2, .int .i64 a1_3, .int .i64 a1_4, .int .i64 a1_5, .int .i64 a1_6, .int .i64 a1_7, .string a1_8, .int .i64 a1_9, .slice A1_10 l1_10.length c1_10, .slice A1_11 l1_11.length c1_11]) (t := 54) ?hr ?_; (case hd => rfl); (case hg => rfl); (case hr => first | (go_simp; done) | (go_simp; rfl)); intro gb309 hg w32 hbox hb; have n0_ := mk_ (bB_ BK308 hb); have n1_ := mk_ (below_step (Short.hB HB) hb); have n2_ := mk_ (hbox); have n3_ := mk_ ((by rw [hg]; exact (below_size (Short.hB HB)) : w.heap.size ≤ gb309)); have n4_ := mk_ ((by rw [hg]; exact (below_size (Short.hB HB)) : w.heap.size ≤ gb309)); have n5_ := mk_ ((by rw [hg]; exact Nat.ne_of_lt (blk_lt (g := gb308) (o := .cells #[.int .i64 a0_0, .int .i64 a0_1, .slice A0_2 l0_2.length c0_2, .int .i64 a0_3, .int .i64 a0_4, .int .i64 a0_5, .int .i64 a0_6, .int .i64 a0_7, .string a0_8, .int .i64 a0_9, .slice A0_10 l0_10.length c0_10, .slice A0_11 l0_11.length c0_11] 54 (0, 0)) (Short.bK BK308)) : gb308 ≠ gb309)); have n6_ := mk_ ((by rw [hg]; exact Nat.ne_of_gt (blk_lt (g := gb308) (o := .cells #[.int .i64 a0_0, .int .i64 a0_1, .slice A0_2 l0_2.length c0_2, .int .i64 a0_3, .int .i64 a0_4, .int .i64 a0_5, .int .i64 a0_6, .int .i64 a0_7, .string a0_8, .int .i64 a0_9, .slice A0_10 l0_10.length c0_10, .slice A0_11 l0_11.length c0_11] 54 (0, 0)) (Short.bK BK308)) : gb309 ≠ gb308)); clear BK308 HB; revert n0_ n1_ n2_ n3_ n4_ n5_ n6_; intro BK308 HB BK309 GW309 GE309 NB308_309 NB309_308; clear hb hbox hg; have hnb33 := NB308_309.out; have hnc33 := NB309_308.out; have hcz34_0 : w32.cell? ⟨gb308, 0, none⟩ = some (.int .i64 a0_0) := (blk_cell BK308.out 0).trans rfl; have hcz34_1 : w32.cell? ⟨gb308, 1, none⟩ = some (.int .i64 a0_1) := (blk_cell BK308.out 1).trans rfl; have hcz34_2 : w32.cell? ⟨gb308, 2, none⟩ = some (.slice A0_2 l0_2.length c0_2) := (blk_cell BK308.out 2).trans rfl; have hcz34_3 : w32.cell? ⟨gb308, 3, none⟩ = some (.int .i64 a0_3) := (blk_cell BK308.out 3).trans rfl; have hcz34_4 : w32.cell? ⟨gb308, 4, none⟩ = some (.int .i64 a0_4) := (blk_cell BK308.out 4).trans rfl; have hcz34_5 : w32.cell? ⟨gb308, 5, none⟩ = some (.int .i64 a0_5) := (blk_cell BK308.out 5).trans rfl; have hcz34_6 : w32.cell? ⟨gb308, 6, none⟩ = some (.int .i64 a0_6) := (blk_cell BK308.out 6).trans rfl; have hcz34_7 : w32.cell? ⟨gb308, 7, none⟩ = some (.int .i64 a0_7) := (blk_cell BK308.out 7).trans rfl; have hcz34_8 : w32.cell? ⟨gb308, 8, none⟩ = some (.string a0_8) := (blk_cell BK308.out 8).trans rfl; have hcz34_9 : w32.cell? ⟨gb308, 9, none⟩ = some (.int .i64 a0_9) := (blk_cell BK308.out 9).trans rfl; have hcz34_10 : w32.cell? ⟨gb308, 10, none⟩ = some (.slice A0_10 l0_10.length c0_10) := (blk_cell BK308.out 10).trans rfl; have hcz34_11 : w32.cell? ⟨gb308, 11, none⟩ = some (.slice A0_11 l0_11.length c0_11) := (blk_cell BK308.out 11).trans rfl; have hfz34_0 := blk_frozen BK308.out 0; have hfz34_1 := blk_frozen BK308.out 1; have hfz34_2 := blk_frozen BK308.out 2; have hfz34_3 := blk_frozen BK308.out 3; have hfz34_4 := blk_frozen BK308.out 4; have hfz34_5 := blk_frozen BK308.out 5; have hfz34_6 := blk_frozen BK308.out 6; have hfz34_7 := blk_frozen BK308.out 7; have hfz34_8 := blk_frozen BK308.out 8; have hfz34_9 := blk_frozen BK308.out 9; have hfz34_10 := blk_frozen BK308.out 10; have hfz34_11 := blk_frozen BK308.out 11; have hcz35_0 : w32.cell? ⟨gb309, 0, none⟩ = some (.int .i64 a1_0) := (blk_cell BK309.out 0).trans rfl; have hcz35_1 : w32.cell? ⟨gb309, 1, none⟩ = some (.int .i64 a1_1) := (blk_cell BK309.out 1).trans rfl; have hcz35_2 : w32.cell? ⟨gb309, 2, none⟩ = some (.slice A1_2 l1_2.length c1_2) := (blk_cell BK309.out 2).trans rfl; have hcz35_3 : w32.cell? ⟨gb309, 3, none⟩ = some (.int .i64 a1_3) := (blk_cell BK309.out 3).trans rfl; have hcz35_4 : w32.cell? ⟨gb309, 4, none⟩ = some (.int .i64 a1_4) := (blk_cell BK309.out 4).trans rfl; have hcz35_5 : w32.cell? ⟨gb309, 5, none⟩ = some (.int .i64 a1_5) := (blk_cell BK309.out 5).trans rfl; have hcz35_6 : w32.cell? ⟨gb309, 6, none⟩ = some (.int .i64 a1_6) := (blk_cell BK309.out 6).trans rfl; have hcz35_7 : w32.cell? ⟨gb309, 7, none⟩ = some (.int .i64 a1_7) := (blk_cell BK309.out 7).trans rfl; have hcz35_8 : w32.cell? ⟨gb309, 8, none⟩ = some (.string a1_8) := (blk_cell BK309.out 8).trans rfl; have hcz35_9 : w32.cell? ⟨gb309, 9, none⟩ = some (.int .i64 a1_9) := (blk_cell BK309.out 9).trans rfl; have hcz35_10 : w32.cell? ⟨gb309, 10, none⟩ = some (.slice A1_10 l1_10.length c1_10) := (blk_cell BK309.out 10).trans rfl; have hcz35_11 : w32.cell? ⟨gb309, 11, none⟩ = some (.slice A1_11 l1_11.length c1_11) := (blk_cell BK309.out 11).trans rfl; have hfz35_0 := blk_frozen BK309.out 0; have hfz35_1 := blk_frozen BK309.out 1; have hfz35_2 := blk_frozen BK309.out 2; have hfz35_3 := blk_frozen BK309.out 3; have hfz35_4 := blk_frozen BK309.out 4; have hfz35_5 := blk_frozen BK309.out 5; have hfz35_6 := blk_frozen BK309.out 6; have hfz35_7 := blk_frozen BK309.out 7; have hfz35_8 := blk_frozen BK309.out 8; have hfz35_9 := blk_frozen BK309.out 9; have hfz35_10 := blk_frozen BK309.out 10; have hfz35_11 := blk_frozen BK309.out 11) | ((with_reducible refine gate_callee (f := 83) rfl ?_); refine Short.gL (some 9) Try.func83 #[.agg #[.int .i64 a0_0, .int .i64 a0_1], .agg #[.int .i64 a1_0, .int .i64 a1_1]] (h := ?_); (with_reducible refine (raddlekeep_Dot.calls a0_0 a0_1 a1_0 a1_1 true _ A3.out).mono ?_); rintro e w36 ⟨rfl, hb⟩; refine ⟨_, rfl, ?_⟩; have n0_ := mk_ (bB_ BK308 hb); have n1_ := mk_ (bB_ BK309 hb); have n2_ := mk_ (below_step (Short.hB HB) hb); clear BK308 BK309 HB; revert n0_ n1_ n2_; intro BK308 BK309 HB; (try clear hb); have hcz37_0 : w36.cell? ⟨gb308, 0, none⟩ = some (.int .i64 a0_0) := (blk_cell BK308.out 0).trans rfl; have hcz37_1 : w36.cell? ⟨gb308, 1, none⟩ = some (.int .i64 a0_1) := (blk_cell BK308.out 1).trans rfl; have hcz37_2 : w36.cell? ⟨gb308, 2, none⟩ = some (.slice A0_2 l0_2.length c0_2) := (blk_cell BK308.out 2).trans rfl; have hcz37_3 : w36.cell? ⟨gb308, 3, none⟩ = some (.int .i64 a0_3) := (blk_cell BK308.out 3).trans rfl; have hcz37_4 : w36.cell? ⟨gb308, 4, none⟩ = some (.int .i64 a0_4) := (blk_cell BK308.out 4).trans rfl; have hcz37_5 : w36.cell? ⟨gb308, 5, none⟩ = some (.int .i64 a0_5) := (blk_cell BK308.out 5).trans rfl; have hcz37_6 : w36.cell? ⟨gb308, 6, none⟩ = some (.int .i64 a0_6) := (blk_cell BK308.out 6).trans rfl; have hcz37_7 : w36.cell? ⟨gb308, 7, none⟩ = some (.int .i64 a0_7) := (blk_cell BK308.out 7).trans rfl; have hcz37_8 : w36.cell? ⟨gb308, 8, none⟩ = some (.string a0_8) := (blk_cell BK308.out 8).trans rfl; have hcz37_9 : w36.cell? ⟨gb308, 9, none⟩ = some (.int .i64 a0_9) := (blk_cell BK308.out 9).trans rfl; have hcz37_10 : w36.cell? ⟨gb308, 10, none⟩ = some (.slice A0_10 l0_10.length c0_10) := (blk_cell BK308.out 10).trans rfl; have hcz37_11 : w36.cell? ⟨gb308, 11, none⟩ = some (.slice A0_11 l0_11.length c0_11) := (blk_cell BK308.out 11).trans rfl; have hfz37_0 := blk_frozen BK308.out 0; have hfz37_1 := blk_frozen BK308.out 1; have hfz37_2 := blk_frozen BK308.out 2; have hfz37_3 := blk_frozen BK308.out 3; have hfz37_4 := blk_frozen BK308.out 4; have hfz37_5 := blk_frozen BK308.out 5; have hfz37_6 := blk_frozen BK308.out 6; have hfz37_7 := blk_frozen BK308.out 7; have hfz37_8 := blk_frozen BK308.out 8; have hfz37_9 := blk_frozen BK308.out 9; have hfz37_10 := blk_frozen BK308.out 10; have hfz37_11 := blk_frozen BK308.out 11; have hcz38_0 : w36.cell? ⟨gb309, 0, none⟩ = some (.int .i64 a1_0) := (blk_cell BK309.out 0).trans rfl; have hcz38_1 : w36.cell? ⟨gb309, 1, none⟩ = some (.int .i64 a1_1) := (blk_cell BK309.out 1).trans rfl; have hcz38_2 : w36.cell? ⟨gb309, 2, none⟩ = some (.slice A1_2 l1_2.length c1_2) := (blk_cell BK309.out 2).trans rfl; have hcz38_3 : w36.cell? ⟨gb309, 3, none⟩ = some (.int .i64 a1_3) := (blk_cell BK309.out 3).trans rfl; have hcz38_4 : w36.cell? ⟨gb309, 4, none⟩ = some (.int .i64 a1_4) := (blk_cell BK309.out 4).trans rfl; have hcz38_5 : w36.cell? ⟨gb309, 5, none⟩ = some (.int .i64 a1_5) := (blk_cell BK309.out 5).trans rfl; have hcz38_6 : w36.cell? ⟨gb309, 6, none⟩ = some (.int .i64 a1_6) := (blk_cell BK309.out 6).trans rfl; have hcz38_7 : w36.cell? ⟨gb309, 7, none⟩ = some (.int .i64 a1_7) := (blk_cell BK309.out 7).trans rfl; have hcz38_8 : w36.cell? ⟨gb309, 8, none⟩ = some (.string a1_8) := (blk_cell BK309.out 8).trans rfl; have hcz38_9 : w36.cell? ⟨gb309, 9, none⟩ = some (.int .i64 a1_9) := (blk_cell BK309.out 9).trans rfl; have hcz38_10 : w36.cell? ⟨gb309, 10, none⟩ = some (.slice A1_10 l1_10.length c1_10) := (blk_cell BK309.out 10).trans rfl; have hcz38_11 : w36.cell? ⟨gb309, 11, none⟩ = some (.slice A1_11 l1_11.length c1_11) := (blk_cell BK309.out 11).trans rfl; have hfz38_0 := blk_frozen BK309.out 0; have hfz38_1 := blk_frozen BK309.out 1; have hfz38_2 := blk_frozen BK309.out 2; have hfz38_3 := blk_frozen BK309.out 3; have hfz38_4 := blk_frozen BK309.out 4; have hfz38_5 := blk_frozen BK309.out 5; have hfz38_6 := blk_frozen BK309.out 6; have hfz38_7 := blk_frozen BK309.out 7; have hfz38_8 := blk_frozen BK309.out 8; have hfz38_9 := blk_frozen BK309.out 9; have hfz38_10 := blk_frozen BK309.out 10; have hfz38_11 := blk_frozen BK309.out 11) | (go_at_call 41; (with_reducible refine (raddlekeep_Ints.calls k _ _ l0_2 _ _ l1_2 true _ ?side1 ?side2 ?side3 ?side4 A5.out).mono ?_); (case side1 => exact cX_ (C_below HR0_2.out HB.out)); (case side2 => exact HC0_2.out); (case side3 => exact cX_ (C_below HR1_2.out HB.out)); (case side4 => exact HC1_2.out); rintro e w' ⟨rfl, ⟨nd, rfl⟩⟩) | (go_at_call 42; (with_reducible refine (raddlekeep_Stamp.calls a0_3 a0_4 a0_5 a1_3 a1_4 a1_5 true _ A7.out).mono ?_); rintro e w39 ⟨rfl, hb⟩; have n0_ := mk_ (bB_ BK308 hb); have n1_ := mk_ (bB_ BK309 hb); have n2_ := mk_ (below_step (Short.hB HB) hb); clear BK308 BK309 HB; revert n0_ n1_ n2_; intro BK308 BK309 HB; (try clear hb); (try clear hb2); (try clear hk); (try clear hi); have hcz40_0 : w39.cell? ⟨gb308, 0, none⟩ = some (.int .i64 a0_0) := (blk_cell BK308.out 0).trans rfl; have hcz40_1 : w39.cell? ⟨gb308, 1, none⟩ = some (.int .i64 a0_1) := (blk_cell BK308.out 1).trans rfl; have hcz40_2 : w39.cell? ⟨gb308, 2, none⟩ = some (.slice A0_2 l0_2.length c0_2) := (blk_cell BK308.out 2).trans rfl; have hcz40_3 : w39.cell? ⟨gb308, 3, none⟩ = some (.int .i64 a0_3) := (blk_cell BK308.out 3).trans rfl; have hcz40_4 : w39.cell? ⟨gb308, 4, none⟩ = some (.int .i64 a0_4) := (blk_cell BK308.out 4).trans rfl; have hcz40_5 : w39.cell? ⟨gb308, 5, none⟩ = some (.int .i64 a0_5) := (blk_cell BK308.out 5).trans rfl; have hcz40_6 : w39.cell? ⟨gb308, 6, none⟩ = some (.int .i64 a0_6) := (blk_cell BK308.out 6).trans rfl; have hcz40_7 : w39.cell? ⟨gb308, 7, none⟩ = some (.int .i64 a0_7) := (blk_cell BK308.out 7).trans rfl; have hcz40_8 : w39.cell? ⟨gb308, 8, none⟩ = some (.string a0_8) := (blk_cell BK308.out 8).trans rfl; have hcz40_9 : w39.cell? ⟨gb308, 9, none⟩ = some (.int .i64 a0_9) := (blk_cell BK308.out 9).trans rfl; have hcz40_10 : w39.cell? ⟨gb308, 10, none⟩ = some (.slice A0_10 l0_10.length c0_10) := (blk_cell BK308.out 10).trans rfl; have hcz40_11 : w39.cell? ⟨gb308, 11, none⟩ = some (.slice A0_11 l0_11.length c0_11) := (blk_cell BK308.out 11).trans rfl; have hfz40_0 := blk_frozen BK308.out 0; have hfz40_1 := blk_frozen BK308.out 1; have hfz40_2 := blk_frozen BK308.out 2; have hfz40_3 := blk_frozen BK308.out 3; have hfz40_4 := blk_frozen BK308.out 4; have hfz40_5 := blk_frozen BK308.out 5; have hfz40_6 := blk_frozen BK308.out 6; have hfz40_7 := blk_frozen BK308.out 7; have hfz40_8 := blk_frozen BK308.out 8; have hfz40_9 := blk_frozen BK308.out 9; have hfz40_10 := blk_frozen BK308.out 10; have hfz40_11 := blk_frozen BK308.out 11; have hcz41_0 : w39.cell? ⟨gb309, 0, none⟩ = some (.int .i64 a1_0) := (blk_cell BK309.out 0).trans rfl; have hcz41_1 : w39.cell? ⟨gb309, 1, none⟩ = some (.int .i64 a1_1) := (blk_cell BK309.out 1).trans rfl; have hcz41_2 : w39.cell? ⟨gb309, 2, none⟩ = some (.slice A1_2 l1_2.length c1_2) := (blk_cell BK309.out 2).trans rfl; have hcz41_3 : w39.cell? ⟨gb309, 3, none⟩ = some (.int .i64 a1_3) := (blk_cell BK309.out 3).trans rfl; have hcz41_4 : w39.cell? ⟨gb309, 4, none⟩ = some (.int .i64 a1_4) := (blk_cell BK309.out 4).trans rfl; have hcz41_5 : w39.cell? ⟨gb309, 5, none⟩ = some (.int .i64 a1_5) := (blk_cell BK309.out 5).trans rfl; have hcz41_6 : w39.cell? ⟨gb309, 6, none⟩ = some (.int .i64 a1_6) := (blk_cell BK309.out 6).trans rfl; have hcz41_7 : w39.cell? ⟨gb309, 7, none⟩ = some (.int .i64 a1_7) := (blk_cell BK309.out 7).trans rfl; have hcz41_8 : w39.cell? ⟨gb309, 8, none⟩ = some (.string a1_8) := (blk_cell BK309.out 8).trans rfl; have hcz41_9 : w39.cell? ⟨gb309, 9, none⟩ = some (.int .i64 a1_9) := (blk_cell BK309.out 9).trans rfl; have hcz41_10 : w39.cell? ⟨gb309, 10, none⟩ = some (.slice A1_10 l1_10.length c1_10) := (blk_cell BK309.out 10).trans rfl; have hcz41_11 : w39.cell? ⟨gb309, 11, none⟩ = some (.slice A1_11 l1_11.length c1_11) := (blk_cell BK309.out 11).trans rfl; have hfz41_0 := blk_frozen BK309.out 0; have hfz41_1 := blk_frozen BK309.out 1; have hfz41_2 := blk_frozen BK309.out 2; have hfz41_3 := blk_frozen BK309.out 3; have hfz41_4 := blk_frozen BK309.out 4; have hfz41_5 := blk_frozen BK309.out 5; have hfz41_6 := blk_frozen BK309.out 6; have hfz41_7 := blk_frozen BK309.out 7; have hfz41_8 := blk_frozen BK309.out 8; have hfz41_9 := blk_frozen BK309.out 9; have hfz41_10 := blk_frozen BK309.out 10; have hfz41_11 := blk_frozen BK309.out 11) | (go_at_call 84; (with_reducible refine (raddlekeep_Row.calls k _ _ l0_10 _ _ l1_10 false _ ?side1 ?side2 ?side3 ?side4 A13.out).mono ?_); (case side1 => exact cX_ (C_below HR0_10.out HB.out)); (case side2 => exact HC0_10.out); (case side3 => exact cX_ (C_below HR1_10.out HB.out)); (case side4 => exact HC1_10.out); rintro e w42 ⟨rfl, hb⟩; have n0_ := mk_ (bB_ BK308 hb); have n1_ := mk_ (bB_ BK309 hb); have n2_ := mk_ (below_step (Short.hB HB) hb); clear BK308 BK309 HB; revert n0_ n1_ n2_; intro BK308 BK309 HB; (try clear hb); (try clear hb2); (try clear hk); (try clear hi)))
         go_ret
         exact ⟨by first | rfl | (simp [errW_none, errW_some] <;> rfl) | (simp [*, errW_none, errW_some] <;> rfl), Short.hB HB⟩
       ·
        rw [if_neg c12] at H
        have c12b0 : (a0_9 == a1_9) = false := beq_eq_false_iff_ne.mpr c12
        have c12b1 : (a0_9 != a1_9) = true := bne_iff_ne.mpr c12
        obtain rfl := Option.some.inj H
        go_enter Try.func46, Try.ntmps46
        go_wp2_with (first | ((with_reducible refine gate_dst (N := 2) rfl ?_); refine box_event ?hg (N := 2) ?hd (cs := #[.int .i64 a0_0, .int .i64 a0_1, .slice A0_2 l0_2.length c0_2, .int .i64 a0_3, .int .i64 a0_4, .int .i64 a0_5, .int .i64 a0_6, .int .i64 a0_7, .string a0_8, .int .i64 a0_9, .slice A0_10 l0_10.length c0_10, .slice A0_11 l0_11.length c0_11]) (t := 54) ?hr ?_; (case hd => rfl); (case hg => rfl); (case hr => first | (go_simp; done) | (go_simp; rfl)); intro gb308 hg w43 hbox hb; have n0_ := mk_ (below_step (Short.hB HB) hb); have n1_ := mk_ (hbox); have n2_ := mk_ ((by rw [hg]; exact (below_size (Short.hB HB)) : w.heap.size ≤ gb308)); have n3_ := mk_ ((by rw [hg]; exact (below_size (Short.hB HB)) : w.heap.size ≤ gb308)); clear HB; revert n0_ n1_ n2_ n3_; intro HB BK308 GW308 GE308; clear hb hbox hg) | ((with_reducible refine gate_dst (N := 3) rfl ?_); refine box_event ?hg (N := 3) ?hd (cs := #[.int .i64 a1_0, .int .i64 a1_1, .slice A1_2 l1_2.length c1_2, .int .i64 a1_3, .int .i64 a1_4, .int .i64 a1_5, .int .i64 a1_6, .int .i64 a1_7, .string a1_8, .int .i64 a1_9, .slice A1_10 l1_10.length c1_10, .slice A1_11 l1_11.length c1_11]) (t := 54) ?hr ?_; (case hd => rfl); (case hg => rfl); (case hr => first | (go_simp; done) | (go_simp; rfl)); intro gb309 hg w44 hbox hb; have n0_ := mk_ (bB_ BK308 hb); have n1_ := mk_ (below_step (Short.hB HB) hb); have n2_ := mk_ (hbox); have n3_ := mk_ ((by rw [hg]; exact (below_size (Short.hB HB)) : w.heap.size ≤ gb309)); have n4_ := mk_ ((by rw [hg]; exact (below_size (Short.hB HB)) : w.heap.size ≤ gb309)); have n5_ := mk_ ((by rw [hg]; exact Nat.ne_of_lt (blk_lt (g := gb308) (o := .cells #[.int .i64 a0_0, .int .i64 a0_1, .slice A0_2 l0_2.length c0_2, .int .i64 a0_3, .int .i64 a0_4, .int .i64 a0_5, .int .i64 a0_6, .int .i64 a0_7, .string a0_8, .int .i64 a0_9, .slice A0_10 l0_10.length c0_10, .slice A0_11 l0_11.length c0_11] 54 (0, 0)) (Short.bK BK308)) : gb308 ≠ gb309)); have n6_ := mk_ ((by rw [hg]; exact Nat.ne_of_gt (blk_lt (g := gb308) (o := .cells #[.int .i64 a0_0, .int .i64 a0_1, .slice A0_2 l0_2.length c0_2, .int .i64 a0_3, .int .i64 a0_4, .int .i64 a0_5, .int .i64 a0_6, .int .i64 a0_7, .string a0_8, .int .i64 a0_9, .slice A0_10 l0_10.length c0_10, .slice A0_11 l0_11.length c0_11] 54 (0, 0)) (Short.bK BK308)) : gb309 ≠ gb308)); clear BK308 HB; revert n0_ n1_ n2_ n3_ n4_ n5_ n6_; intro BK308 HB BK309 GW309 GE309 NB308_309 NB309_308; clear hb hbox hg; have hnb45 := NB308_309.out; have hnc45 := NB309_308.out; have hcz46_0 : w44.cell? ⟨gb308, 0, none⟩ = some (.int .i64 a0_0) := (blk_cell BK308.out 0).trans rfl; have hcz46_1 : w44.cell? ⟨gb308, 1, none⟩ = some (.int .i64 a0_1) := (blk_cell BK308.out 1).trans rfl; have hcz46_2 : w44.cell? ⟨gb308, 2, none⟩ = some (.slice A0_2 l0_2.length c0_2) := (blk_cell BK308.out 2).trans rfl; have hcz46_3 : w44.cell? ⟨gb308, 3, none⟩ = some (.int .i64 a0_3) := (blk_cell BK308.out 3).trans rfl; have hcz46_4 : w44.cell? ⟨gb308, 4, none⟩ = some (.int .i64 a0_4) := (blk_cell BK308.out 4).trans rfl; have hcz46_5 : w44.cell? ⟨gb308, 5, none⟩ = some (.int .i64 a0_5) := (blk_cell BK308.out 5).trans rfl; have hcz46_6 : w44.cell? ⟨gb308, 6, none⟩ = some (.int .i64 a0_6) := (blk_cell BK308.out 6).trans rfl; have hcz46_7 : w44.cell? ⟨gb308, 7, none⟩ = some (.int .i64 a0_7) := (blk_cell BK308.out 7).trans rfl; have hcz46_8 : w44.cell? ⟨gb308, 8, none⟩ = some (.string a0_8) := (blk_cell BK308.out 8).trans rfl; have hcz46_9 : w44.cell? ⟨gb308, 9, none⟩ = some (.int .i64 a0_9) := (blk_cell BK308.out 9).trans rfl; have hcz46_10 : w44.cell? ⟨gb308, 10, none⟩ = some (.slice A0_10 l0_10.length c0_10) := (blk_cell BK308.out 10).trans rfl; have hcz46_11 : w44.cell? ⟨gb308, 11, none⟩ = some (.slice A0_11 l0_11.length c0_11) := (blk_cell BK308.out 11).trans rfl; have hfz46_0 := blk_frozen BK308.out 0; have hfz46_1 := blk_frozen BK308.out 1; have hfz46_2 := blk_frozen BK308.out 2; have hfz46_3 := blk_frozen BK308.out 3; have hfz46_4 := blk_frozen BK308.out 4; have hfz46_5 := blk_frozen BK308.out 5; have hfz46_6 := blk_frozen BK308.out 6; have hfz46_7 := blk_frozen BK308.out 7; have hfz46_8 := blk_frozen BK308.out 8; have hfz46_9 := blk_frozen BK308.out 9; have hfz46_10 := blk_frozen BK308.out 10; have hfz46_11 := blk_frozen BK308.out 11; have hcz47_0 : w44.cell? ⟨gb309, 0, none⟩ = some (.int .i64 a1_0) := (blk_cell BK309.out 0).trans rfl; have hcz47_1 : w44.cell? ⟨gb309, 1, none⟩ = some (.int .i64 a1_1) := (blk_cell BK309.out 1).trans rfl; have hcz47_2 : w44.cell? ⟨gb309, 2, none⟩ = some (.slice A1_2 l1_2.length c1_2) := (blk_cell BK309.out 2).trans rfl; have hcz47_3 : w44.cell? ⟨gb309, 3, none⟩ = some (.int .i64 a1_3) := (blk_cell BK309.out 3).trans rfl; have hcz47_4 : w44.cell? ⟨gb309, 4, none⟩ = some (.int .i64 a1_4) := (blk_cell BK309.out 4).trans rfl; have hcz47_5 : w44.cell? ⟨gb309, 5, none⟩ = some (.int .i64 a1_5) := (blk_cell BK309.out 5).trans rfl; have hcz47_6 : w44.cell? ⟨gb309, 6, none⟩ = some (.int .i64 a1_6) := (blk_cell BK309.out 6).trans rfl; have hcz47_7 : w44.cell? ⟨gb309, 7, none⟩ = some (.int .i64 a1_7) := (blk_cell BK309.out 7).trans rfl; have hcz47_8 : w44.cell? ⟨gb309, 8, none⟩ = some (.string a1_8) := (blk_cell BK309.out 8).trans rfl; have hcz47_9 : w44.cell? ⟨gb309, 9, none⟩ = some (.int .i64 a1_9) := (blk_cell BK309.out 9).trans rfl; have hcz47_10 : w44.cell? ⟨gb309, 10, none⟩ = some (.slice A1_10 l1_10.length c1_10) := (blk_cell BK309.out 10).trans rfl; have hcz47_11 : w44.cell? ⟨gb309, 11, none⟩ = some (.slice A1_11 l1_11.length c1_11) := (blk_cell BK309.out 11).trans rfl; have hfz47_0 := blk_frozen BK309.out 0; have hfz47_1 := blk_frozen BK309.out 1; have hfz47_2 := blk_frozen BK309.out 2; have hfz47_3 := blk_frozen BK309.out 3; have hfz47_4 := blk_frozen BK309.out 4; have hfz47_5 := blk_frozen BK309.out 5; have hfz47_6 := blk_frozen BK309.out 6; have hfz47_7 := blk_frozen BK309.out 7; have hfz47_8 := blk_frozen BK309.out 8; have hfz47_9 := blk_frozen BK309.out 9; have hfz47_10 := blk_frozen BK309.out 10; have hfz47_11 := blk_frozen BK309.out 11) | ((with_reducible refine gate_callee (f := 83) rfl ?_); refine Short.gL (some 9) Try.func83 #[.agg #[.int .i64 a0_0, .int .i64 a0_1], .agg #[.int .i64 a1_0, .int .i64 a1_1]] (h := ?_); (with_reducible refine (raddlekeep_Dot.calls a0_0 a0_1 a1_0 a1_1 true _ A3.out).mono ?_); rintro e w48 ⟨rfl, hb⟩; refine ⟨_, rfl, ?_⟩; have n0_ := mk_ (bB_ BK308 hb); have n1_ := mk_ (bB_ BK309 hb); have n2_ := mk_ (below_step (Short.hB HB) hb); clear BK308 BK309 HB; revert n0_ n1_ n2_; intro BK308 BK309 HB; (try clear hb); have hcz49_0 : w48.cell? ⟨gb308, 0, none⟩ = some (.int .i64 a0_0) := (blk_cell BK308.out 0).trans rfl; have hcz49_1 : w48.cell? ⟨gb308, 1, none⟩ = some (.int .i64 a0_1) := (blk_cell BK308.out 1).trans rfl; have hcz49_2 : w48.cell? ⟨gb308, 2, none⟩ = some (.slice A0_2 l0_2.length c0_2) := (blk_cell BK308.out 2).trans rfl; have hcz49_3 : w48.cell? ⟨gb308, 3, none⟩ = some (.int .i64 a0_3) := (blk_cell BK308.out 3).trans rfl; have hcz49_4 : w48.cell? ⟨gb308, 4, none⟩ = some (.int .i64 a0_4) := (blk_cell BK308.out 4).trans rfl; have hcz49_5 : w48.cell? ⟨gb308, 5, none⟩ = some (.int .i64 a0_5) := (blk_cell BK308.out 5).trans rfl; have hcz49_6 : w48.cell? ⟨gb308, 6, none⟩ = some (.int .i64 a0_6) := (blk_cell BK308.out 6).trans rfl; have hcz49_7 : w48.cell? ⟨gb308, 7, none⟩ = some (.int .i64 a0_7) := (blk_cell BK308.out 7).trans rfl; have hcz49_8 : w48.cell? ⟨gb308, 8, none⟩ = some (.string a0_8) := (blk_cell BK308.out 8).trans rfl; have hcz49_9 : w48.cell? ⟨gb308, 9, none⟩ = some (.int .i64 a0_9) := (blk_cell BK308.out 9).trans rfl; have hcz49_10 : w48.cell? ⟨gb308, 10, none⟩ = some (.slice A0_10 l0_10.length c0_10) := (blk_cell BK308.out 10).trans rfl; have hcz49_11 : w48.cell? ⟨gb308, 11, none⟩ = some (.slice A0_11 l0_11.length c0_11) := (blk_cell BK308.out 11).trans rfl; have hfz49_0 := blk_frozen BK308.out 0; have hfz49_1 := blk_frozen BK308.out 1; have hfz49_2 := blk_frozen BK308.out 2; have hfz49_3 := blk_frozen BK308.out 3; have hfz49_4 := blk_frozen BK308.out 4; have hfz49_5 := blk_frozen BK308.out 5; have hfz49_6 := blk_frozen BK308.out 6; have hfz49_7 := blk_frozen BK308.out 7; have hfz49_8 := blk_frozen BK308.out 8; have hfz49_9 := blk_frozen BK308.out 9; have hfz49_10 := blk_frozen BK308.out 10; have hfz49_11 := blk_frozen BK308.out 11; have hcz50_0 : w48.cell? ⟨gb309, 0, none⟩ = some (.int .i64 a1_0) := (blk_cell BK309.out 0).trans rfl; have hcz50_1 : w48.cell? ⟨gb309, 1, none⟩ = some (.int .i64 a1_1) := (blk_cell BK309.out 1).trans rfl; have hcz50_2 : w48.cell? ⟨gb309, 2, none⟩ = some (.slice A1_2 l1_2.length c1_2) := (blk_cell BK309.out 2).trans rfl; have hcz50_3 : w48.cell? ⟨gb309, 3, none⟩ = some (.int .i64 a1_3) := (blk_cell BK309.out 3).trans rfl; have hcz50_4 : w48.cell? ⟨gb309, 4, none⟩ = some (.int .i64 a1_4) := (blk_cell BK309.out 4).trans rfl; have hcz50_5 : w48.cell? ⟨gb309, 5, none⟩ = some (.int .i64 a1_5) := (blk_cell BK309.out 5).trans rfl; have hcz50_6 : w48.cell? ⟨gb309, 6, none⟩ = some (.int .i64 a1_6) := (blk_cell BK309.out 6).trans rfl; have hcz50_7 : w48.cell? ⟨gb309, 7, none⟩ = some (.int .i64 a1_7) := (blk_cell BK309.out 7).trans rfl; have hcz50_8 : w48.cell? ⟨gb309, 8, none⟩ = some (.string a1_8) := (blk_cell BK309.out 8).trans rfl; have hcz50_9 : w48.cell? ⟨gb309, 9, none⟩ = some (.int .i64 a1_9) := (blk_cell BK309.out 9).trans rfl; have hcz50_10 : w48.cell? ⟨gb309, 10, none⟩ = some (.slice A1_10 l1_10.length c1_10) := (blk_cell BK309.out 10).trans rfl; have hcz50_11 : w48.cell? ⟨gb309, 11, none⟩ = some (.slice A1_11 l1_11.length c1_11) := (blk_cell BK309.out 11).trans rfl; have hfz50_0 := blk_frozen BK309.out 0; have hfz50_1 := blk_frozen BK309.out 1; have hfz50_2 := blk_frozen BK309.out 2; have hfz50_3 := blk_frozen BK309.out 3; have hfz50_4 := blk_frozen BK309.out 4; have hfz50_5 := blk_frozen BK309.out 5; have hfz50_6 := blk_frozen BK309.out 6; have hfz50_7 := blk_frozen BK309.out 7; have hfz50_8 := blk_frozen BK309.out 8; have hfz50_9 := blk_frozen BK309.out 9; have hfz50_10 := blk_frozen BK309.out 10; have hfz50_11 := blk_frozen BK309.out 11) | (go_at_call 41; (with_reducible refine (raddlekeep_Ints.calls k _ _ l0_2 _ _ l1_2 true _ ?side1 ?side2 ?side3 ?side4 A5.out).mono ?_); (case side1 => exact cX_ (C_below HR0_2.out HB.out)); (case side2 => exact HC0_2.out); (case side3 => exact cX_ (C_below HR1_2.out HB.out)); (case side4 => exact HC1_2.out); rintro e w' ⟨rfl, ⟨nd, rfl⟩⟩) | (go_at_call 42; (with_reducible refine (raddlekeep_Stamp.calls a0_3 a0_4 a0_5 a1_3 a1_4 a1_5 true _ A7.out).mono ?_); rintro e w51 ⟨rfl, hb⟩; have n0_ := mk_ (bB_ BK308 hb); have n1_ := mk_ (bB_ BK309 hb); have n2_ := mk_ (below_step (Short.hB HB) hb); clear BK308 BK309 HB; revert n0_ n1_ n2_; intro BK308 BK309 HB; (try clear hb); (try clear hb2); (try clear hk); (try clear hi); have hcz52_0 : w51.cell? ⟨gb308, 0, none⟩ = some (.int .i64 a0_0) := (blk_cell BK308.out 0).trans rfl; have hcz52_1 : w51.cell? ⟨gb308, 1, none⟩ = some (.int .i64 a0_1) := (blk_cell BK308.out 1).trans rfl; have hcz52_2 : w51.cell? ⟨gb308, 2, none⟩ = some (.slice A0_2 l0_2.length c0_2) := (blk_cell BK308.out 2).trans rfl; have hcz52_3 : w51.cell? ⟨gb308, 3, none⟩ = some (.int .i64 a0_3) := (blk_cell BK308.out 3).trans rfl; have hcz52_4 : w51.cell? ⟨gb308, 4, none⟩ = some (.int .i64 a0_4) := (blk_cell BK308.out 4).trans rfl; have hcz52_5 : w51.cell? ⟨gb308, 5, none⟩ = some (.int .i64 a0_5) := (blk_cell BK308.out 5).trans rfl; have hcz52_6 : w51.cell? ⟨gb308, 6, none⟩ = some (.int .i64 a0_6) := (blk_cell BK308.out 6).trans rfl; have hcz52_7 : w51.cell? ⟨gb308, 7, none⟩ = some (.int .i64 a0_7) := (blk_cell BK308.out 7).trans rfl; have hcz52_8 : w51.cell? ⟨gb308, 8, none⟩ = some (.string a0_8) := (blk_cell BK308.out 8).trans rfl; have hcz52_9 : w51.cell? ⟨gb308, 9, none⟩ = some (.int .i64 a0_9) := (blk_cell BK308.out 9).trans rfl; have hcz52_10 : w51.cell? ⟨gb308, 10, none⟩ = some (.slice A0_10 l0_10.length c0_10) := (blk_cell BK308.out 10).trans rfl; have hcz52_11 : w51.cell? ⟨gb308, 11, none⟩ = some (.slice A0_11 l0_11.length c0_11) := (blk_cell BK308.out 11).trans rfl; have hfz52_0 := blk_frozen BK308.out 0; have hfz52_1 := blk_frozen BK308.out 1; have hfz52_2 := blk_frozen BK308.out 2; have hfz52_3 := blk_frozen BK308.out 3; have hfz52_4 := blk_frozen BK308.out 4; have hfz52_5 := blk_frozen BK308.out 5; have hfz52_6 := blk_frozen BK308.out 6; have hfz52_7 := blk_frozen BK308.out 7; have hfz52_8 := blk_frozen BK308.out 8; have hfz52_9 := blk_frozen BK308.out 9; have hfz52_10 := blk_frozen BK308.out 10; have hfz52_11 := blk_frozen BK308.out 11; have hcz53_0 : w51.cell? ⟨gb309, 0, none⟩ = some (.int .i64 a1_0) := (blk_cell BK309.out 0).trans rfl; have hcz53_1 : w51.cell? ⟨gb309, 1, none⟩ = some (.int .i64 a1_1) := (blk_cell BK309.out 1).trans rfl; have hcz53_2 : w51.cell? ⟨gb309, 2, none⟩ = some (.slice A1_2 l1_2.length c1_2) := (blk_cell BK309.out 2).trans rfl; have hcz53_3 : w51.cell? ⟨gb309, 3, none⟩ = some (.int .i64 a1_3) := (blk_cell BK309.out 3).trans rfl; have hcz53_4 : w51.cell? ⟨gb309, 4, none⟩ = some (.int .i64 a1_4) := (blk_cell BK309.out 4).trans rfl; have hcz53_5 : w51.cell? ⟨gb309, 5, none⟩ = some (.int .i64 a1_5) := (blk_cell BK309.out 5).trans rfl; have hcz53_6 : w51.cell? ⟨gb309, 6, none⟩ = some (.int .i64 a1_6) := (blk_cell BK309.out 6).trans rfl; have hcz53_7 : w51.cell? ⟨gb309, 7, none⟩ = some (.int .i64 a1_7) := (blk_cell BK309.out 7).trans rfl; have hcz53_8 : w51.cell? ⟨gb309, 8, none⟩ = some (.string a1_8) := (blk_cell BK309.out 8).trans rfl; have hcz53_9 : w51.cell? ⟨gb309, 9, none⟩ = some (.int .i64 a1_9) := (blk_cell BK309.out 9).trans rfl; have hcz53_10 : w51.cell? ⟨gb309, 10, none⟩ = some (.slice A1_10 l1_10.length c1_10) := (blk_cell BK309.out 10).trans rfl; have hcz53_11 : w51.cell? ⟨gb309, 11, none⟩ = some (.slice A1_11 l1_11.length c1_11) := (blk_cell BK309.out 11).trans rfl; have hfz53_0 := blk_frozen BK309.out 0; have hfz53_1 := blk_frozen BK309.out 1; have hfz53_2 := blk_frozen BK309.out 2; have hfz53_3 := blk_frozen BK309.out 3; have hfz53_4 := blk_frozen BK309.out 4; have hfz53_5 := blk_frozen BK309.out 5; have hfz53_6 := blk_frozen BK309.out 6; have hfz53_7 := blk_frozen BK309.out 7; have hfz53_8 := blk_frozen BK309.out 8; have hfz53_9 := blk_frozen BK309.out 9; have hfz53_10 := blk_frozen BK309.out 10; have hfz53_11 := blk_frozen BK309.out 11))
        go_ret
        exact ⟨by first | rfl | (simp [errW_none, errW_some] <;> rfl) | (simp [*, errW_none, errW_some] <;> rfl), Short.hB HB⟩
      ·
       rw [if_neg c11] at H
       have c11b0 : (a0_8.toList == a1_8.toList) = false := beq_eq_false_iff_ne.mpr c11
       have c11b1 : (a0_8.toList != a1_8.toList) = true := bne_iff_ne.mpr c11
       obtain rfl := Option.some.inj H
       go_enter Try.func46, Try.ntmps46
       go_wp2_with (first | ((with_reducible refine gate_dst (N := 2) rfl ?_); refine box_event ?hg (N := 2) ?hd (cs := #[.int .i64 a0_0, .int .i64 a0_1, .slice A0_2 l0_2.length c0_2, .int .i64 a0_3, .int .i64 a0_4, .int .i64 a0_5, .int .i64 a0_6, .int .i64 a0_7, .string a0_8, .int .i64 a0_9, .slice A0_10 l0_10.length c0_10, .slice A0_11 l0_11.length c0_11]) (t := 54) ?hr ?_; (case hd => rfl); (case hg => rfl); (case hr => first | (go_simp; done) | (go_simp; rfl)); intro gb308 hg w54 hbox hb; have n0_ := mk_ (below_step (Short.hB HB) hb); have n1_ := mk_ (hbox); have n2_ := mk_ ((by rw [hg]; exact (below_size (Short.hB HB)) : w.heap.size ≤ gb308)); have n3_ := mk_ ((by rw [hg]; exact (below_size (Short.hB HB)) : w.heap.size ≤ gb308)); clear HB; revert n0_ n1_ n2_ n3_; intro HB BK308 GW308 GE308; clear hb hbox hg) | ((with_reducible refine gate_dst (N := 3) rfl ?_); refine box_event ?hg (N := 3) ?hd (cs := #[.int .i64 a1_0, .int .i64 a1_1, .slice A1_2 l1_2.length c1_2, .int .i64 a1_3, .int .i64 a1_4, .int .i64 a1_5, .int .i64 a1_6, .int .i64 a1_7, .string a1_8, .int .i64 a1_9, .slice A1_10 l1_10.length c1_10, .slice A1_11 l1_11.length c1_11]) (t := 54) ?hr ?_; (case hd => rfl); (case hg => rfl); (case hr => first | (go_simp; done) | (go_simp; rfl)); intro gb309 hg w55 hbox hb; have n0_ := mk_ (bB_ BK308 hb); have n1_ := mk_ (below_step (Short.hB HB) hb); have n2_ := mk_ (hbox); have n3_ := mk_ ((by rw [hg]; exact (below_size (Short.hB HB)) : w.heap.size ≤ gb309)); have n4_ := mk_ ((by rw [hg]; exact (below_size (Short.hB HB)) : w.heap.size ≤ gb309)); have n5_ := mk_ ((by rw [hg]; exact Nat.ne_of_lt (blk_lt (g := gb308) (o := .cells #[.int .i64 a0_0, .int .i64 a0_1, .slice A0_2 l0_2.length c0_2, .int .i64 a0_3, .int .i64 a0_4, .int .i64 a0_5, .int .i64 a0_6, .int .i64 a0_7, .string a0_8, .int .i64 a0_9, .slice A0_10 l0_10.length c0_10, .slice A0_11 l0_11.length c0_11] 54 (0, 0)) (Short.bK BK308)) : gb308 ≠ gb309)); have n6_ := mk_ ((by rw [hg]; exact Nat.ne_of_gt (blk_lt (g := gb308) (o := .cells #[.int .i64 a0_0, .int .i64 a0_1, .slice A0_2 l0_2.length c0_2, .int .i64 a0_3, .int .i64 a0_4, .int .i64 a0_5, .int .i64 a0_6, .int .i64 a0_7, .string a0_8, .int .i64 a0_9, .slice A0_10 l0_10.length c0_10, .slice A0_11 l0_11.length c0_11] 54 (0, 0)) (Short.bK BK308)) : gb309 ≠ gb308)); clear BK308 HB; revert n0_ n1_ n2_ n3_ n4_ n5_ n6_; intro BK308 HB BK309 GW309 GE309 NB308_309 NB309_308; clear hb hbox hg; have hnb56 := NB308_309.out; have hnc56 := NB309_308.out; have hcz57_0 : w55.cell? ⟨gb308, 0, none⟩ = some (.int .i64 a0_0) := (blk_cell BK308.out 0).trans rfl; have hcz57_1 : w55.cell? ⟨gb308, 1, none⟩ = some (.int .i64 a0_1) := (blk_cell BK308.out 1).trans rfl; have hcz57_2 : w55.cell? ⟨gb308, 2, none⟩ = some (.slice A0_2 l0_2.length c0_2) := (blk_cell BK308.out 2).trans rfl; have hcz57_3 : w55.cell? ⟨gb308, 3, none⟩ = some (.int .i64 a0_3) := (blk_cell BK308.out 3).trans rfl; have hcz57_4 : w55.cell? ⟨gb308, 4, none⟩ = some (.int .i64 a0_4) := (blk_cell BK308.out 4).trans rfl; have hcz57_5 : w55.cell? ⟨gb308, 5, none⟩ = some (.int .i64 a0_5) := (blk_cell BK308.out 5).trans rfl; have hcz57_6 : w55.cell? ⟨gb308, 6, none⟩ = some (.int .i64 a0_6) := (blk_cell BK308.out 6).trans rfl; have hcz57_7 : w55.cell? ⟨gb308, 7, none⟩ = some (.int .i64 a0_7) := (blk_cell BK308.out 7).trans rfl; have hcz57_8 : w55.cell? ⟨gb308, 8, none⟩ = some (.string a0_8) := (blk_cell BK308.out 8).trans rfl; have hcz57_9 : w55.cell? ⟨gb308, 9, none⟩ = some (.int .i64 a0_9) := (blk_cell BK308.out 9).trans rfl; have hcz57_10 : w55.cell? ⟨gb308, 10, none⟩ = some (.slice A0_10 l0_10.length c0_10) := (blk_cell BK308.out 10).trans rfl; have hcz57_11 : w55.cell? ⟨gb308, 11, none⟩ = some (.slice A0_11 l0_11.length c0_11) := (blk_cell BK308.out 11).trans rfl; have hfz57_0 := blk_frozen BK308.out 0; have hfz57_1 := blk_frozen BK308.out 1; have hfz57_2 := blk_frozen BK308.out 2; have hfz57_3 := blk_frozen BK308.out 3; have hfz57_4 := blk_frozen BK308.out 4; have hfz57_5 := blk_frozen BK308.out 5; have hfz57_6 := blk_frozen BK308.out 6; have hfz57_7 := blk_frozen BK308.out 7; have hfz57_8 := blk_frozen BK308.out 8; have hfz57_9 := blk_frozen BK308.out 9; have hfz57_10 := blk_frozen BK308.out 10; have hfz57_11 := blk_frozen BK308.out 11; have hcz58_0 : w55.cell? ⟨gb309, 0, none⟩ = some (.int .i64 a1_0) := (blk_cell BK309.out 0).trans rfl; have hcz58_1 : w55.cell? ⟨gb309, 1, none⟩ = some (.int .i64 a1_1) := (blk_cell BK309.out 1).trans rfl; have hcz58_2 : w55.cell? ⟨gb309, 2, none⟩ = some (.slice A1_2 l1_2.length c1_2) := (blk_cell BK309.out 2).trans rfl; have hcz58_3 : w55.cell? ⟨gb309, 3, none⟩ = some (.int .i64 a1_3) := (blk_cell BK309.out 3).trans rfl; have hcz58_4 : w55.cell? ⟨gb309, 4, none⟩ = some (.int .i64 a1_4) := (blk_cell BK309.out 4).trans rfl; have hcz58_5 : w55.cell? ⟨gb309, 5, none⟩ = some (.int .i64 a1_5) := (blk_cell BK309.out 5).trans rfl; have hcz58_6 : w55.cell? ⟨gb309, 6, none⟩ = some (.int .i64 a1_6) := (blk_cell BK309.out 6).trans rfl; have hcz58_7 : w55.cell? ⟨gb309, 7, none⟩ = some (.int .i64 a1_7) := (blk_cell BK309.out 7).trans rfl; have hcz58_8 : w55.cell? ⟨gb309, 8, none⟩ = some (.string a1_8) := (blk_cell BK309.out 8).trans rfl; have hcz58_9 : w55.cell? ⟨gb309, 9, none⟩ = some (.int .i64 a1_9) := (blk_cell BK309.out 9).trans rfl; have hcz58_10 : w55.cell? ⟨gb309, 10, none⟩ = some (.slice A1_10 l1_10.length c1_10) := (blk_cell BK309.out 10).trans rfl; have hcz58_11 : w55.cell? ⟨gb309, 11, none⟩ = some (.slice A1_11 l1_11.length c1_11) := (blk_cell BK309.out 11).trans rfl; have hfz58_0 := blk_frozen BK309.out 0; have hfz58_1 := blk_frozen BK309.out 1; have hfz58_2 := blk_frozen BK309.out 2; have hfz58_3 := blk_frozen BK309.out 3; have hfz58_4 := blk_frozen BK309.out 4; have hfz58_5 := blk_frozen BK309.out 5; have hfz58_6 := blk_frozen BK309.out 6; have hfz58_7 := blk_frozen BK309.out 7; have hfz58_8 := blk_frozen BK309.out 8; have hfz58_9 := blk_frozen BK309.out 9; have hfz58_10 := blk_frozen BK309.out 10; have hfz58_11 := blk_frozen BK309.out 11) | ((with_reducible refine gate_callee (f := 83) rfl ?_); refine Short.gL (some 9) Try.func83 #[.agg #[.int .i64 a0_0, .int .i64 a0_1], .agg #[.int .i64 a1_0, .int .i64 a1_1]] (h := ?_); (with_reducible refine (raddlekeep_Dot.calls a0_0 a0_1 a1_0 a1_1 true _ A3.out).mono ?_); rintro e w59 ⟨rfl, hb⟩; refine ⟨_, rfl, ?_⟩; have n0_ := mk_ (bB_ BK308 hb); have n1_ := mk_ (bB_ BK309 hb); have n2_ := mk_ (below_step (Short.hB HB) hb); clear BK308 BK309 HB; revert n0_ n1_ n2_; intro BK308 BK309 HB; (try clear hb); have hcz60_0 : w59.cell? ⟨gb308, 0, none⟩ = some (.int .i64 a0_0) := (blk_cell BK308.out 0).trans rfl; have hcz60_1 : w59.cell? ⟨gb308, 1, none⟩ = some (.int .i64 a0_1) := (blk_cell BK308.out 1).trans rfl; have hcz60_2 : w59.cell? ⟨gb308, 2, none⟩ = some (.slice A0_2 l0_2.length c0_2) := (blk_cell BK308.out 2).trans rfl; have hcz60_3 : w59.cell? ⟨gb308, 3, none⟩ = some (.int .i64 a0_3) := (blk_cell BK308.out 3).trans rfl; have hcz60_4 : w59.cell? ⟨gb308, 4, none⟩ = some (.int .i64 a0_4) := (blk_cell BK308.out 4).trans rfl; have hcz60_5 : w59.cell? ⟨gb308, 5, none⟩ = some (.int .i64 a0_5) := (blk_cell BK308.out 5).trans rfl; have hcz60_6 : w59.cell? ⟨gb308, 6, none⟩ = some (.int .i64 a0_6) := (blk_cell BK308.out 6).trans rfl; have hcz60_7 : w59.cell? ⟨gb308, 7, none⟩ = some (.int .i64 a0_7) := (blk_cell BK308.out 7).trans rfl; have hcz60_8 : w59.cell? ⟨gb308, 8, none⟩ = some (.string a0_8) := (blk_cell BK308.out 8).trans rfl; have hcz60_9 : w59.cell? ⟨gb308, 9, none⟩ = some (.int .i64 a0_9) := (blk_cell BK308.out 9).trans rfl; have hcz60_10 : w59.cell? ⟨gb308, 10, none⟩ = some (.slice A0_10 l0_10.length c0_10) := (blk_cell BK308.out 10).trans rfl; have hcz60_11 : w59.cell? ⟨gb308, 11, none⟩ = some (.slice A0_11 l0_11.length c0_11) := (blk_cell BK308.out 11).trans rfl; have hfz60_0 := blk_frozen BK308.out 0; have hfz60_1 := blk_frozen BK308.out 1; have hfz60_2 := blk_frozen BK308.out 2; have hfz60_3 := blk_frozen BK308.out 3; have hfz60_4 := blk_frozen BK308.out 4; have hfz60_5 := blk_frozen BK308.out 5; have hfz60_6 := blk_frozen BK308.out 6; have hfz60_7 := blk_frozen BK308.out 7; have hfz60_8 := blk_frozen BK308.out 8; have hfz60_9 := blk_frozen BK308.out 9; have hfz60_10 := blk_frozen BK308.out 10; have hfz60_11 := blk_frozen BK308.out 11; have hcz61_0 : w59.cell? ⟨gb309, 0, none⟩ = some (.int .i64 a1_0) := (blk_cell BK309.out 0).trans rfl; have hcz61_1 : w59.cell? ⟨gb309, 1, none⟩ = some (.int .i64 a1_1) := (blk_cell BK309.out 1).trans rfl; have hcz61_2 : w59.cell? ⟨gb309, 2, none⟩ = some (.slice A1_2 l1_2.length c1_2) := (blk_cell BK309.out 2).trans rfl; have hcz61_3 : w59.cell? ⟨gb309, 3, none⟩ = some (.int .i64 a1_3) := (blk_cell BK309.out 3).trans rfl; have hcz61_4 : w59.cell? ⟨gb309, 4, none⟩ = some (.int .i64 a1_4) := (blk_cell BK309.out 4).trans rfl; have hcz61_5 : w59.cell? ⟨gb309, 5, none⟩ = some (.int .i64 a1_5) := (blk_cell BK309.out 5).trans rfl; have hcz61_6 : w59.cell? ⟨gb309, 6, none⟩ = some (.int .i64 a1_6) := (blk_cell BK309.out 6).trans rfl; have hcz61_7 : w59.cell? ⟨gb309, 7, none⟩ = some (.int .i64 a1_7) := (blk_cell BK309.out 7).trans rfl; have hcz61_8 : w59.cell? ⟨gb309, 8, none⟩ = some (.string a1_8) := (blk_cell BK309.out 8).trans rfl; have hcz61_9 : w59.cell? ⟨gb309, 9, none⟩ = some (.int .i64 a1_9) := (blk_cell BK309.out 9).trans rfl; have hcz61_10 : w59.cell? ⟨gb309, 10, none⟩ = some (.slice A1_10 l1_10.length c1_10) := (blk_cell BK309.out 10).trans rfl; have hcz61_11 : w59.cell? ⟨gb309, 11, none⟩ = some (.slice A1_11 l1_11.length c1_11) := (blk_cell BK309.out 11).trans rfl; have hfz61_0 := blk_frozen BK309.out 0; have hfz61_1 := blk_frozen BK309.out 1; have hfz61_2 := blk_frozen BK309.out 2; have hfz61_3 := blk_frozen BK309.out 3; have hfz61_4 := blk_frozen BK309.out 4; have hfz61_5 := blk_frozen BK309.out 5; have hfz61_6 := blk_frozen BK309.out 6; have hfz61_7 := blk_frozen BK309.out 7; have hfz61_8 := blk_frozen BK309.out 8; have hfz61_9 := blk_frozen BK309.out 9; have hfz61_10 := blk_frozen BK309.out 10; have hfz61_11 := blk_frozen BK309.out 11) | (go_at_call 41; (with_reducible refine (raddlekeep_Ints.calls k _ _ l0_2 _ _ l1_2 true _ ?side1 ?side2 ?side3 ?side4 A5.out).mono ?_); (case side1 => exact cX_ (C_below HR0_2.out HB.out)); (case side2 => exact HC0_2.out); (case side3 => exact cX_ (C_below HR1_2.out HB.out)); (case side4 => exact HC1_2.out); rintro e w' ⟨rfl, ⟨nd, rfl⟩⟩) | (go_at_call 42; (with_reducible refine (raddlekeep_Stamp.calls a0_3 a0_4 a0_5 a1_3 a1_4 a1_5 true _ A7.out).mono ?_); rintro e w62 ⟨rfl, hb⟩; have n0_ := mk_ (bB_ BK308 hb); have n1_ := mk_ (bB_ BK309 hb); have n2_ := mk_ (below_step (Short.hB HB) hb); clear BK308 BK309 HB; revert n0_ n1_ n2_; intro BK308 BK309 HB; (try clear hb); (try clear hb2); (try clear hk); (try clear hi); have hcz63_0 : w62.cell? ⟨gb308, 0, none⟩ = some (.int .i64 a0_0) := (blk_cell BK308.out 0).trans rfl; have hcz63_1 : w62.cell? ⟨gb308, 1, none⟩ = some (.int .i64 a0_1) := (blk_cell BK308.out 1).trans rfl; have hcz63_2 : w62.cell? ⟨gb308, 2, none⟩ = some (.slice A0_2 l0_2.length c0_2) := (blk_cell BK308.out 2).trans rfl; have hcz63_3 : w62.cell? ⟨gb308, 3, none⟩ = some (.int .i64 a0_3) := (blk_cell BK308.out 3).trans rfl; have hcz63_4 : w62.cell? ⟨gb308, 4, none⟩ = some (.int .i64 a0_4) := (blk_cell BK308.out 4).trans rfl; have hcz63_5 : w62.cell? ⟨gb308, 5, none⟩ = some (.int .i64 a0_5) := (blk_cell BK308.out 5).trans rfl; have hcz63_6 : w62.cell? ⟨gb308, 6, none⟩ = some (.int .i64 a0_6) := (blk_cell BK308.out 6).trans rfl; have hcz63_7 : w62.cell? ⟨gb308, 7, none⟩ = some (.int .i64 a0_7) := (blk_cell BK308.out 7).trans rfl; have hcz63_8 : w62.cell? ⟨gb308, 8, none⟩ = some (.string a0_8) := (blk_cell BK308.out 8).trans rfl; have hcz63_9 : w62.cell? ⟨gb308, 9, none⟩ = some (.int .i64 a0_9) := (blk_cell BK308.out 9).trans rfl; have hcz63_10 : w62.cell? ⟨gb308, 10, none⟩ = some (.slice A0_10 l0_10.length c0_10) := (blk_cell BK308.out 10).trans rfl; have hcz63_11 : w62.cell? ⟨gb308, 11, none⟩ = some (.slice A0_11 l0_11.length c0_11) := (blk_cell BK308.out 11).trans rfl; have hfz63_0 := blk_frozen BK308.out 0; have hfz63_1 := blk_frozen BK308.out 1; have hfz63_2 := blk_frozen BK308.out 2; have hfz63_3 := blk_frozen BK308.out 3; have hfz63_4 := blk_frozen BK308.out 4; have hfz63_5 := blk_frozen BK308.out 5; have hfz63_6 := blk_frozen BK308.out 6; have hfz63_7 := blk_frozen BK308.out 7; have hfz63_8 := blk_frozen BK308.out 8; have hfz63_9 := blk_frozen BK308.out 9; have hfz63_10 := blk_frozen BK308.out 10; have hfz63_11 := blk_frozen BK308.out 11; have hcz64_0 : w62.cell? ⟨gb309, 0, none⟩ = some (.int .i64 a1_0) := (blk_cell BK309.out 0).trans rfl; have hcz64_1 : w62.cell? ⟨gb309, 1, none⟩ = some (.int .i64 a1_1) := (blk_cell BK309.out 1).trans rfl; have hcz64_2 : w62.cell? ⟨gb309, 2, none⟩ = some (.slice A1_2 l1_2.length c1_2) := (blk_cell BK309.out 2).trans rfl; have hcz64_3 : w62.cell? ⟨gb309, 3, none⟩ = some (.int .i64 a1_3) := (blk_cell BK309.out 3).trans rfl; have hcz64_4 : w62.cell? ⟨gb309, 4, none⟩ = some (.int .i64 a1_4) := (blk_cell BK309.out 4).trans rfl; have hcz64_5 : w62.cell? ⟨gb309, 5, none⟩ = some (.int .i64 a1_5) := (blk_cell BK309.out 5).trans rfl; have hcz64_6 : w62.cell? ⟨gb309, 6, none⟩ = some (.int .i64 a1_6) := (blk_cell BK309.out 6).trans rfl; have hcz64_7 : w62.cell? ⟨gb309, 7, none⟩ = some (.int .i64 a1_7) := (blk_cell BK309.out 7).trans rfl; have hcz64_8 : w62.cell? ⟨gb309, 8, none⟩ = some (.string a1_8) := (blk_cell BK309.out 8).trans rfl; have hcz64_9 : w62.cell? ⟨gb309, 9, none⟩ = some (.int .i64 a1_9) := (blk_cell BK309.out 9).trans rfl; have hcz64_10 : w62.cell? ⟨gb309, 10, none⟩ = some (.slice A1_10 l1_10.length c1_10) := (blk_cell BK309.out 10).trans rfl; have hcz64_11 : w62.cell? ⟨gb309, 11, none⟩ = some (.slice A1_11 l1_11.length c1_11) := (blk_cell BK309.out 11).trans rfl; have hfz64_0 := blk_frozen BK309.out 0; have hfz64_1 := blk_frozen BK309.out 1; have hfz64_2 := blk_frozen BK309.out 2; have hfz64_3 := blk_frozen BK309.out 3; have hfz64_4 := blk_frozen BK309.out 4; have hfz64_5 := blk_frozen BK309.out 5; have hfz64_6 := blk_frozen BK309.out 6; have hfz64_7 := blk_frozen BK309.out 7; have hfz64_8 := blk_frozen BK309.out 8; have hfz64_9 := blk_frozen BK309.out 9; have hfz64_10 := blk_frozen BK309.out 10; have hfz64_11 := blk_frozen BK309.out 11))
       go_ret
       exact ⟨by first | rfl | (simp [errW_none, errW_some] <;> rfl) | (simp [*, errW_none, errW_some] <;> rfl), Short.hB HB⟩
     ·
      rw [if_neg c10] at H
      have c10b0 : (a0_7 == a1_7) = false := beq_eq_false_iff_ne.mpr c10
      have c10b1 : (a0_7 != a1_7) = true := bne_iff_ne.mpr c10
      obtain rfl := Option.some.inj H
      go_enter Try.func46, Try.ntmps46
      go_wp2_with (first | ((with_reducible refine gate_dst (N := 2) rfl ?_); refine box_event ?hg (N := 2) ?hd (cs := #[.int .i64 a0_0, .int .i64 a0_1, .slice A0_2 l0_2.length c0_2, .int .i64 a0_3, .int .i64 a0_4, .int .i64 a0_5, .int .i64 a0_6, .int .i64 a0_7, .string a0_8, .int .i64 a0_9, .slice A0_10 l0_10.length c0_10, .slice A0_11 l0_11.length c0_11]) (t := 54) ?hr ?_; (case hd => rfl); (case hg => rfl); (case hr => first | (go_simp; done) | (go_simp; rfl)); intro gb308 hg w65 hbox hb; have n0_ := mk_ (below_step (Short.hB HB) hb); have n1_ := mk_ (hbox); have n2_ := mk_ ((by rw [hg]; exact (below_size (Short.hB HB)) : w.heap.size ≤ gb308)); have n3_ := mk_ ((by rw [hg]; exact (below_size (Short.hB HB)) : w.heap.size ≤ gb308)); clear HB; revert n0_ n1_ n2_ n3_; intro HB BK308 GW308 GE308; clear hb hbox hg) | ((with_reducible refine gate_dst (N := 3) rfl ?_); refine box_event ?hg (N := 3) ?hd (cs := #[.int .i64 a1_0, .int .i64 a1_1, .slice A1_2 l1_2.length c1_2, .int .i64 a1_3, .int .i64 a1_4, .int .i64 a1_5, .int .i64 a1_6, .int .i64 a1_7, .string a1_8, .int .i64 a1_9, .slice A1_10 l1_10.length c1_10, .slice A1_11 l1_11.length c1_11]) (t := 54) ?hr ?_; (case hd => rfl); (case hg => rfl); (case hr => first | (go_simp; done) | (go_simp; rfl)); intro gb309 hg w66 hbox hb; have n0_ := mk_ (bB_ BK308 hb); have n1_ := mk_ (below_step (Short.hB HB) hb); have n2_ := mk_ (hbox); have n3_ := mk_ ((by rw [hg]; exact (below_size (Short.hB HB)) : w.heap.size ≤ gb309)); have n4_ := mk_ ((by rw [hg]; exact (below_size (Short.hB HB)) : w.heap.size ≤ gb309)); have n5_ := mk_ ((by rw [hg]; exact Nat.ne_of_lt (blk_lt (g := gb308) (o := .cells #[.int .i64 a0_0, .int .i64 a0_1, .slice A0_2 l0_2.length c0_2, .int .i64 a0_3, .int .i64 a0_4, .int .i64 a0_5, .int .i64 a0_6, .int .i64 a0_7, .string a0_8, .int .i64 a0_9, .slice A0_10 l0_10.length c0_10, .slice A0_11 l0_11.length c0_11] 54 (0, 0)) (Short.bK BK308)) : gb308 ≠ gb309)); have n6_ := mk_ ((by rw [hg]; exact Nat.ne_of_gt (blk_lt (g := gb308) (o := .cells #[.int .i64 a0_0, .int .i64 a0_1, .slice A0_2 l0_2.length c0_2, .int .i64 a0_3, .int .i64 a0_4, .int .i64 a0_5, .int .i64 a0_6, .int .i64 a0_7, .string a0_8, .int .i64 a0_9, .slice A0_10 l0_10.length c0_10, .slice A0_11 l0_11.length c0_11] 54 (0, 0)) (Short.bK BK308)) : gb309 ≠ gb308)); clear BK308 HB; revert n0_ n1_ n2_ n3_ n4_ n5_ n6_; intro BK308 HB BK309 GW309 GE309 NB308_309 NB309_308; clear hb hbox hg; have hnb67 := NB308_309.out; have hnc67 := NB309_308.out; have hcz68_0 : w66.cell? ⟨gb308, 0, none⟩ = some (.int .i64 a0_0) := (blk_cell BK308.out 0).trans rfl; have hcz68_1 : w66.cell? ⟨gb308, 1, none⟩ = some (.int .i64 a0_1) := (blk_cell BK308.out 1).trans rfl; have hcz68_2 : w66.cell? ⟨gb308, 2, none⟩ = some (.slice A0_2 l0_2.length c0_2) := (blk_cell BK308.out 2).trans rfl; have hcz68_3 : w66.cell? ⟨gb308, 3, none⟩ = some (.int .i64 a0_3) := (blk_cell BK308.out 3).trans rfl; have hcz68_4 : w66.cell? ⟨gb308, 4, none⟩ = some (.int .i64 a0_4) := (blk_cell BK308.out 4).trans rfl; have hcz68_5 : w66.cell? ⟨gb308, 5, none⟩ = some (.int .i64 a0_5) := (blk_cell BK308.out 5).trans rfl; have hcz68_6 : w66.cell? ⟨gb308, 6, none⟩ = some (.int .i64 a0_6) := (blk_cell BK308.out 6).trans rfl; have hcz68_7 : w66.cell? ⟨gb308, 7, none⟩ = some (.int .i64 a0_7) := (blk_cell BK308.out 7).trans rfl; have hcz68_8 : w66.cell? ⟨gb308, 8, none⟩ = some (.string a0_8) := (blk_cell BK308.out 8).trans rfl; have hcz68_9 : w66.cell? ⟨gb308, 9, none⟩ = some (.int .i64 a0_9) := (blk_cell BK308.out 9).trans rfl; have hcz68_10 : w66.cell? ⟨gb308, 10, none⟩ = some (.slice A0_10 l0_10.length c0_10) := (blk_cell BK308.out 10).trans rfl; have hcz68_11 : w66.cell? ⟨gb308, 11, none⟩ = some (.slice A0_11 l0_11.length c0_11) := (blk_cell BK308.out 11).trans rfl; have hfz68_0 := blk_frozen BK308.out 0; have hfz68_1 := blk_frozen BK308.out 1; have hfz68_2 := blk_frozen BK308.out 2; have hfz68_3 := blk_frozen BK308.out 3; have hfz68_4 := blk_frozen BK308.out 4; have hfz68_5 := blk_frozen BK308.out 5; have hfz68_6 := blk_frozen BK308.out 6; have hfz68_7 := blk_frozen BK308.out 7; have hfz68_8 := blk_frozen BK308.out 8; have hfz68_9 := blk_frozen BK308.out 9; have hfz68_10 := blk_frozen BK308.out 10; have hfz68_11 := blk_frozen BK308.out 11; have hcz69_0 : w66.cell? ⟨gb309, 0, none⟩ = some (.int .i64 a1_0) := (blk_cell BK309.out 0).trans rfl; have hcz69_1 : w66.cell? ⟨gb309, 1, none⟩ = some (.int .i64 a1_1) := (blk_cell BK309.out 1).trans rfl; have hcz69_2 : w66.cell? ⟨gb309, 2, none⟩ = some (.slice A1_2 l1_2.length c1_2) := (blk_cell BK309.out 2).trans rfl; have hcz69_3 : w66.cell? ⟨gb309, 3, none⟩ = some (.int .i64 a1_3) := (blk_cell BK309.out 3).trans rfl; have hcz69_4 : w66.cell? ⟨gb309, 4, none⟩ = some (.int .i64 a1_4) := (blk_cell BK309.out 4).trans rfl; have hcz69_5 : w66.cell? ⟨gb309, 5, none⟩ = some (.int .i64 a1_5) := (blk_cell BK309.out 5).trans rfl; have hcz69_6 : w66.cell? ⟨gb309, 6, none⟩ = some (.int .i64 a1_6) := (blk_cell BK309.out 6).trans rfl; have hcz69_7 : w66.cell? ⟨gb309, 7, none⟩ = some (.int .i64 a1_7) := (blk_cell BK309.out 7).trans rfl; have hcz69_8 : w66.cell? ⟨gb309, 8, none⟩ = some (.string a1_8) := (blk_cell BK309.out 8).trans rfl; have hcz69_9 : w66.cell? ⟨gb309, 9, none⟩ = some (.int .i64 a1_9) := (blk_cell BK309.out 9).trans rfl; have hcz69_10 : w66.cell? ⟨gb309, 10, none⟩ = some (.slice A1_10 l1_10.length c1_10) := (blk_cell BK309.out 10).trans rfl; have hcz69_11 : w66.cell? ⟨gb309, 11, none⟩ = some (.slice A1_11 l1_11.length c1_11) := (blk_cell BK309.out 11).trans rfl; have hfz69_0 := blk_frozen BK309.out 0; have hfz69_1 := blk_frozen BK309.out 1; have hfz69_2 := blk_frozen BK309.out 2; have hfz69_3 := blk_frozen BK309.out 3; have hfz69_4 := blk_frozen BK309.out 4; have hfz69_5 := blk_frozen BK309.out 5; have hfz69_6 := blk_frozen BK309.out 6; have hfz69_7 := blk_frozen BK309.out 7; have hfz69_8 := blk_frozen BK309.out 8; have hfz69_9 := blk_frozen BK309.out 9; have hfz69_10 := blk_frozen BK309.out 10; have hfz69_11 := blk_frozen BK309.out 11) | ((with_reducible refine gate_callee (f := 83) rfl ?_); refine Short.gL (some 9) Try.func83 #[.agg #[.int .i64 a0_0, .int .i64 a0_1], .agg #[.int .i64 a1_0, .int .i64 a1_1]] (h := ?_); (with_reducible refine (raddlekeep_Dot.calls a0_0 a0_1 a1_0 a1_1 true _ A3.out).mono ?_); rintro e w70 ⟨rfl, hb⟩; refine ⟨_, rfl, ?_⟩; have n0_ := mk_ (bB_ BK308 hb); have n1_ := mk_ (bB_ BK309 hb); have n2_ := mk_ (below_step (Short.hB HB) hb); clear BK308 BK309 HB; revert n0_ n1_ n2_; intro BK308 BK309 HB; (try clear hb); have hcz71_0 : w70.cell? ⟨gb308, 0, none⟩ = some (.int .i64 a0_0) := (blk_cell BK308.out 0).trans rfl; have hcz71_1 : w70.cell? ⟨gb308, 1, none⟩ = some (.int .i64 a0_1) := (blk_cell BK308.out 1).trans rfl; have hcz71_2 : w70.cell? ⟨gb308, 2, none⟩ = some (.slice A0_2 l0_2.length c0_2) := (blk_cell BK308.out 2).trans rfl; have hcz71_3 : w70.cell? ⟨gb308, 3, none⟩ = some (.int .i64 a0_3) := (blk_cell BK308.out 3).trans rfl; have hcz71_4 : w70.cell? ⟨gb308, 4, none⟩ = some (.int .i64 a0_4) := (blk_cell BK308.out 4).trans rfl; have hcz71_5 : w70.cell? ⟨gb308, 5, none⟩ = some (.int .i64 a0_5) := (blk_cell BK308.out 5).trans rfl; have hcz71_6 : w70.cell? ⟨gb308, 6, none⟩ = some (.int .i64 a0_6) := (blk_cell BK308.out 6).trans rfl; have hcz71_7 : w70.cell? ⟨gb308, 7, none⟩ = some (.int .i64 a0_7) := (blk_cell BK308.out 7).trans rfl; have hcz71_8 : w70.cell? ⟨gb308, 8, none⟩ = some (.string a0_8) := (blk_cell BK308.out 8).trans rfl; have hcz71_9 : w70.cell? ⟨gb308, 9, none⟩ = some (.int .i64 a0_9) := (blk_cell BK308.out 9).trans rfl; have hcz71_10 : w70.cell? ⟨gb308, 10, none⟩ = some (.slice A0_10 l0_10.length c0_10) := (blk_cell BK308.out 10).trans rfl; have hcz71_11 : w70.cell? ⟨gb308, 11, none⟩ = some (.slice A0_11 l0_11.length c0_11) := (blk_cell BK308.out 11).trans rfl; have hfz71_0 := blk_frozen BK308.out 0; have hfz71_1 := blk_frozen BK308.out 1; have hfz71_2 := blk_frozen BK308.out 2; have hfz71_3 := blk_frozen BK308.out 3; have hfz71_4 := blk_frozen BK308.out 4; have hfz71_5 := blk_frozen BK308.out 5; have hfz71_6 := blk_frozen BK308.out 6; have hfz71_7 := blk_frozen BK308.out 7; have hfz71_8 := blk_frozen BK308.out 8; have hfz71_9 := blk_frozen BK308.out 9; have hfz71_10 := blk_frozen BK308.out 10; have hfz71_11 := blk_frozen BK308.out 11; have hcz72_0 : w70.cell? ⟨gb309, 0, none⟩ = some (.int .i64 a1_0) := (blk_cell BK309.out 0).trans rfl; have hcz72_1 : w70.cell? ⟨gb309, 1, none⟩ = some (.int .i64 a1_1) := (blk_cell BK309.out 1).trans rfl; have hcz72_2 : w70.cell? ⟨gb309, 2, none⟩ = some (.slice A1_2 l1_2.length c1_2) := (blk_cell BK309.out 2).trans rfl; have hcz72_3 : w70.cell? ⟨gb309, 3, none⟩ = some (.int .i64 a1_3) := (blk_cell BK309.out 3).trans rfl; have hcz72_4 : w70.cell? ⟨gb309, 4, none⟩ = some (.int .i64 a1_4) := (blk_cell BK309.out 4).trans rfl; have hcz72_5 : w70.cell? ⟨gb309, 5, none⟩ = some (.int .i64 a1_5) := (blk_cell BK309.out 5).trans rfl; have hcz72_6 : w70.cell? ⟨gb309, 6, none⟩ = some (.int .i64 a1_6) := (blk_cell BK309.out 6).trans rfl; have hcz72_7 : w70.cell? ⟨gb309, 7, none⟩ = some (.int .i64 a1_7) := (blk_cell BK309.out 7).trans rfl; have hcz72_8 : w70.cell? ⟨gb309, 8, none⟩ = some (.string a1_8) := (blk_cell BK309.out 8).trans rfl; have hcz72_9 : w70.cell? ⟨gb309, 9, none⟩ = some (.int .i64 a1_9) := (blk_cell BK309.out 9).trans rfl; have hcz72_10 : w70.cell? ⟨gb309, 10, none⟩ = some (.slice A1_10 l1_10.length c1_10) := (blk_cell BK309.out 10).trans rfl; have hcz72_11 : w70.cell? ⟨gb309, 11, none⟩ = some (.slice A1_11 l1_11.length c1_11) := (blk_cell BK309.out 11).trans rfl; have hfz72_0 := blk_frozen BK309.out 0; have hfz72_1 := blk_frozen BK309.out 1; have hfz72_2 := blk_frozen BK309.out 2; have hfz72_3 := blk_frozen BK309.out 3; have hfz72_4 := blk_frozen BK309.out 4; have hfz72_5 := blk_frozen BK309.out 5; have hfz72_6 := blk_frozen BK309.out 6; have hfz72_7 := blk_frozen BK309.out 7; have hfz72_8 := blk_frozen BK309.out 8; have hfz72_9 := blk_frozen BK309.out 9; have hfz72_10 := blk_frozen BK309.out 10; have hfz72_11 := blk_frozen BK309.out 11) | (go_at_call 41; (with_reducible refine (raddlekeep_Ints.calls k _ _ l0_2 _ _ l1_2 true _ ?side1 ?side2 ?side3 ?side4 A5.out).mono ?_); (case side1 => exact cX_ (C_below HR0_2.out HB.out)); (case side2 => exact HC0_2.out); (case side3 => exact cX_ (C_below HR1_2.out HB.out)); (case side4 => exact HC1_2.out); rintro e w' ⟨rfl, ⟨nd, rfl⟩⟩) | (go_at_call 42; (with_reducible refine (raddlekeep_Stamp.calls a0_3 a0_4 a0_5 a1_3 a1_4 a1_5 true _ A7.out).mono ?_); rintro e w73 ⟨rfl, hb⟩; have n0_ := mk_ (bB_ BK308 hb); have n1_ := mk_ (bB_ BK309 hb); have n2_ := mk_ (below_step (Short.hB HB) hb); clear BK308 BK309 HB; revert n0_ n1_ n2_; intro BK308 BK309 HB; (try clear hb); (try clear hb2); (try clear hk); (try clear hi); have hcz74_0 : w73.cell? ⟨gb308, 0, none⟩ = some (.int .i64 a0_0) := (blk_cell BK308.out 0).trans rfl; have hcz74_1 : w73.cell? ⟨gb308, 1, none⟩ = some (.int .i64 a0_1) := (blk_cell BK308.out 1).trans rfl; have hcz74_2 : w73.cell? ⟨gb308, 2, none⟩ = some (.slice A0_2 l0_2.length c0_2) := (blk_cell BK308.out 2).trans rfl; have hcz74_3 : w73.cell? ⟨gb308, 3, none⟩ = some (.int .i64 a0_3) := (blk_cell BK308.out 3).trans rfl; have hcz74_4 : w73.cell? ⟨gb308, 4, none⟩ = some (.int .i64 a0_4) := (blk_cell BK308.out 4).trans rfl; have hcz74_5 : w73.cell? ⟨gb308, 5, none⟩ = some (.int .i64 a0_5) := (blk_cell BK308.out 5).trans rfl; have hcz74_6 : w73.cell? ⟨gb308, 6, none⟩ = some (.int .i64 a0_6) := (blk_cell BK308.out 6).trans rfl; have hcz74_7 : w73.cell? ⟨gb308, 7, none⟩ = some (.int .i64 a0_7) := (blk_cell BK308.out 7).trans rfl; have hcz74_8 : w73.cell? ⟨gb308, 8, none⟩ = some (.string a0_8) := (blk_cell BK308.out 8).trans rfl; have hcz74_9 : w73.cell? ⟨gb308, 9, none⟩ = some (.int .i64 a0_9) := (blk_cell BK308.out 9).trans rfl; have hcz74_10 : w73.cell? ⟨gb308, 10, none⟩ = some (.slice A0_10 l0_10.length c0_10) := (blk_cell BK308.out 10).trans rfl; have hcz74_11 : w73.cell? ⟨gb308, 11, none⟩ = some (.slice A0_11 l0_11.length c0_11) := (blk_cell BK308.out 11).trans rfl; have hfz74_0 := blk_frozen BK308.out 0; have hfz74_1 := blk_frozen BK308.out 1; have hfz74_2 := blk_frozen BK308.out 2; have hfz74_3 := blk_frozen BK308.out 3; have hfz74_4 := blk_frozen BK308.out 4; have hfz74_5 := blk_frozen BK308.out 5; have hfz74_6 := blk_frozen BK308.out 6; have hfz74_7 := blk_frozen BK308.out 7; have hfz74_8 := blk_frozen BK308.out 8; have hfz74_9 := blk_frozen BK308.out 9; have hfz74_10 := blk_frozen BK308.out 10; have hfz74_11 := blk_frozen BK308.out 11; have hcz75_0 : w73.cell? ⟨gb309, 0, none⟩ = some (.int .i64 a1_0) := (blk_cell BK309.out 0).trans rfl; have hcz75_1 : w73.cell? ⟨gb309, 1, none⟩ = some (.int .i64 a1_1) := (blk_cell BK309.out 1).trans rfl; have hcz75_2 : w73.cell? ⟨gb309, 2, none⟩ = some (.slice A1_2 l1_2.length c1_2) := (blk_cell BK309.out 2).trans rfl; have hcz75_3 : w73.cell? ⟨gb309, 3, none⟩ = some (.int .i64 a1_3) := (blk_cell BK309.out 3).trans rfl; have hcz75_4 : w73.cell? ⟨gb309, 4, none⟩ = some (.int .i64 a1_4) := (blk_cell BK309.out 4).trans rfl; have hcz75_5 : w73.cell? ⟨gb309, 5, none⟩ = some (.int .i64 a1_5) := (blk_cell BK309.out 5).trans rfl; have hcz75_6 : w73.cell? ⟨gb309, 6, none⟩ = some (.int .i64 a1_6) := (blk_cell BK309.out 6).trans rfl; have hcz75_7 : w73.cell? ⟨gb309, 7, none⟩ = some (.int .i64 a1_7) := (blk_cell BK309.out 7).trans rfl; have hcz75_8 : w73.cell? ⟨gb309, 8, none⟩ = some (.string a1_8) := (blk_cell BK309.out 8).trans rfl; have hcz75_9 : w73.cell? ⟨gb309, 9, none⟩ = some (.int .i64 a1_9) := (blk_cell BK309.out 9).trans rfl; have hcz75_10 : w73.cell? ⟨gb309, 10, none⟩ = some (.slice A1_10 l1_10.length c1_10) := (blk_cell BK309.out 10).trans rfl; have hcz75_11 : w73.cell? ⟨gb309, 11, none⟩ = some (.slice A1_11 l1_11.length c1_11) := (blk_cell BK309.out 11).trans rfl; have hfz75_0 := blk_frozen BK309.out 0; have hfz75_1 := blk_frozen BK309.out 1; have hfz75_2 := blk_frozen BK309.out 2; have hfz75_3 := blk_frozen BK309.out 3; have hfz75_4 := blk_frozen BK309.out 4; have hfz75_5 := blk_frozen BK309.out 5; have hfz75_6 := blk_frozen BK309.out 6; have hfz75_7 := blk_frozen BK309.out 7; have hfz75_8 := blk_frozen BK309.out 8; have hfz75_9 := blk_frozen BK309.out 9; have hfz75_10 := blk_frozen BK309.out 10; have hfz75_11 := blk_frozen BK309.out 11))
      go_ret
      exact ⟨by first | rfl | (simp [errW_none, errW_some] <;> rfl) | (simp [*, errW_none, errW_some] <;> rfl), Short.hB HB⟩
    ·
     rw [if_neg c9] at H
     have c9b0 : (a0_6 == a1_6) = false := beq_eq_false_iff_ne.mpr c9
     have c9b1 : (a0_6 != a1_6) = true := bne_iff_ne.mpr c9
     obtain rfl := Option.some.inj H
     go_enter Try.func46, Try.ntmps46
     go_wp2_with (first | ((with_reducible refine gate_dst (N := 2) rfl ?_); refine box_event ?hg (N := 2) ?hd (cs := #[.int .i64 a0_0, .int .i64 a0_1, .slice A0_2 l0_2.length c0_2, .int .i64 a0_3, .int .i64 a0_4, .int .i64 a0_5, .int .i64 a0_6, .int .i64 a0_7, .string a0_8, .int .i64 a0_9, .slice A0_10 l0_10.length c0_10, .slice A0_11 l0_11.length c0_11]) (t := 54) ?hr ?_; (case hd => rfl); (case hg => rfl); (case hr => first | (go_simp; done) | (go_simp; rfl)); intro gb308 hg w76 hbox hb; have n0_ := mk_ (below_step (Short.hB HB) hb); have n1_ := mk_ (hbox); have n2_ := mk_ ((by rw [hg]; exact (below_size (Short.hB HB)) : w.heap.size ≤ gb308)); have n3_ := mk_ ((by rw [hg]; exact (below_size (Short.hB HB)) : w.heap.size ≤ gb308)); clear HB; revert n0_ n1_ n2_ n3_; intro HB BK308 GW308 GE308; clear hb hbox hg) | ((with_reducible refine gate_dst (N := 3) rfl ?_); refine box_event ?hg (N := 3) ?hd (cs := #[.int .i64 a1_0, .int .i64 a1_1, .slice A1_2 l1_2.length c1_2, .int .i64 a1_3, .int .i64 a1_4, .int .i64 a1_5, .int .i64 a1_6, .int .i64 a1_7, .string a1_8, .int .i64 a1_9, .slice A1_10 l1_10.length c1_10, .slice A1_11 l1_11.length c1_11]) (t := 54) ?hr ?_; (case hd => rfl); (case hg => rfl); (case hr => first | (go_simp; done) | (go_simp; rfl)); intro gb309 hg w77 hbox hb; have n0_ := mk_ (bB_ BK308 hb); have n1_ := mk_ (below_step (Short.hB HB) hb); have n2_ := mk_ (hbox); have n3_ := mk_ ((by rw [hg]; exact (below_size (Short.hB HB)) : w.heap.size ≤ gb309)); have n4_ := mk_ ((by rw [hg]; exact (below_size (Short.hB HB)) : w.heap.size ≤ gb309)); have n5_ := mk_ ((by rw [hg]; exact Nat.ne_of_lt (blk_lt (g := gb308) (o := .cells #[.int .i64 a0_0, .int .i64 a0_1, .slice A0_2 l0_2.length c0_2, .int .i64 a0_3, .int .i64 a0_4, .int .i64 a0_5, .int .i64 a0_6, .int .i64 a0_7, .string a0_8, .int .i64 a0_9, .slice A0_10 l0_10.length c0_10, .slice A0_11 l0_11.length c0_11] 54 (0, 0)) (Short.bK BK308)) : gb308 ≠ gb309)); have n6_ := mk_ ((by rw [hg]; exact Nat.ne_of_gt (blk_lt (g := gb308) (o := .cells #[.int .i64 a0_0, .int .i64 a0_1, .slice A0_2 l0_2.length c0_2, .int .i64 a0_3, .int .i64 a0_4, .int .i64 a0_5, .int .i64 a0_6, .int .i64 a0_7, .string a0_8, .int .i64 a0_9, .slice A0_10 l0_10.length c0_10, .slice A0_11 l0_11.length c0_11] 54 (0, 0)) (Short.bK BK308)) : gb309 ≠ gb308)); clear BK308 HB; revert n0_ n1_ n2_ n3_ n4_ n5_ n6_; intro BK308 HB BK309 GW309 GE309 NB308_309 NB309_308; clear hb hbox hg; have hnb78 := NB308_309.out; have hnc78 := NB309_308.out; have hcz79_0 : w77.cell? ⟨gb308, 0, none⟩ = some (.int .i64 a0_0) := (blk_cell BK308.out 0).trans rfl; have hcz79_1 : w77.cell? ⟨gb308, 1, none⟩ = some (.int .i64 a0_1) := (blk_cell BK308.out 1).trans rfl; have hcz79_2 : w77.cell? ⟨gb308, 2, none⟩ = some (.slice A0_2 l0_2.length c0_2) := (blk_cell BK308.out 2).trans rfl; have hcz79_3 : w77.cell? ⟨gb308, 3, none⟩ = some (.int .i64 a0_3) := (blk_cell BK308.out 3).trans rfl; have hcz79_4 : w77.cell? ⟨gb308, 4, none⟩ = some (.int .i64 a0_4) := (blk_cell BK308.out 4).trans rfl; have hcz79_5 : w77.cell? ⟨gb308, 5, none⟩ = some (.int .i64 a0_5) := (blk_cell BK308.out 5).trans rfl; have hcz79_6 : w77.cell? ⟨gb308, 6, none⟩ = some (.int .i64 a0_6) := (blk_cell BK308.out 6).trans rfl; have hcz79_7 : w77.cell? ⟨gb308, 7, none⟩ = some (.int .i64 a0_7) := (blk_cell BK308.out 7).trans rfl; have hcz79_8 : w77.cell? ⟨gb308, 8, none⟩ = some (.string a0_8) := (blk_cell BK308.out 8).trans rfl; have hcz79_9 : w77.cell? ⟨gb308, 9, none⟩ = some (.int .i64 a0_9) := (blk_cell BK308.out 9).trans rfl; have hcz79_10 : w77.cell? ⟨gb308, 10, none⟩ = some (.slice A0_10 l0_10.length c0_10) := (blk_cell BK308.out 10).trans rfl; have hcz79_11 : w77.cell? ⟨gb308, 11, none⟩ = some (.slice A0_11 l0_11.length c0_11) := (blk_cell BK308.out 11).trans rfl; have hfz79_0 := blk_frozen BK308.out 0; have hfz79_1 := blk_frozen BK308.out 1; have hfz79_2 := blk_frozen BK308.out 2; have hfz79_3 := blk_frozen BK308.out 3; have hfz79_4 := blk_frozen BK308.out 4; have hfz79_5 := blk_frozen BK308.out 5; have hfz79_6 := blk_frozen BK308.out 6; have hfz79_7 := blk_frozen BK308.out 7; have hfz79_8 := blk_frozen BK308.out 8; have hfz79_9 := blk_frozen BK308.out 9; have hfz79_10 := blk_frozen BK308.out 10; have hfz79_11 := blk_frozen BK308.out 11; have hcz80_0 : w77.cell? ⟨gb309, 0, none⟩ = some (.int .i64 a1_0) := (blk_cell BK309.out 0).trans rfl; have hcz80_1 : w77.cell? ⟨gb309, 1, none⟩ = some (.int .i64 a1_1) := (blk_cell BK309.out 1).trans rfl; have hcz80_2 : w77.cell? ⟨gb309, 2, none⟩ = some (.slice A1_2 l1_2.length c1_2) := (blk_cell BK309.out 2).trans rfl; have hcz80_3 : w77.cell? ⟨gb309, 3, none⟩ = some (.int .i64 a1_3) := (blk_cell BK309.out 3).trans rfl; have hcz80_4 : w77.cell? ⟨gb309, 4, none⟩ = some (.int .i64 a1_4) := (blk_cell BK309.out 4).trans rfl; have hcz80_5 : w77.cell? ⟨gb309, 5, none⟩ = some (.int .i64 a1_5) := (blk_cell BK309.out 5).trans rfl; have hcz80_6 : w77.cell? ⟨gb309, 6, none⟩ = some (.int .i64 a1_6) := (blk_cell BK309.out 6).trans rfl; have hcz80_7 : w77.cell? ⟨gb309, 7, none⟩ = some (.int .i64 a1_7) := (blk_cell BK309.out 7).trans rfl; have hcz80_8 : w77.cell? ⟨gb309, 8, none⟩ = some (.string a1_8) := (blk_cell BK309.out 8).trans rfl; have hcz80_9 : w77.cell? ⟨gb309, 9, none⟩ = some (.int .i64 a1_9) := (blk_cell BK309.out 9).trans rfl; have hcz80_10 : w77.cell? ⟨gb309, 10, none⟩ = some (.slice A1_10 l1_10.length c1_10) := (blk_cell BK309.out 10).trans rfl; have hcz80_11 : w77.cell? ⟨gb309, 11, none⟩ = some (.slice A1_11 l1_11.length c1_11) := (blk_cell BK309.out 11).trans rfl; have hfz80_0 := blk_frozen BK309.out 0; have hfz80_1 := blk_frozen BK309.out 1; have hfz80_2 := blk_frozen BK309.out 2; have hfz80_3 := blk_frozen BK309.out 3; have hfz80_4 := blk_frozen BK309.out 4; have hfz80_5 := blk_frozen BK309.out 5; have hfz80_6 := blk_frozen BK309.out 6; have hfz80_7 := blk_frozen BK309.out 7; have hfz80_8 := blk_frozen BK309.out 8; have hfz80_9 := blk_frozen BK309.out 9; have hfz80_10 := blk_frozen BK309.out 10; have hfz80_11 := blk_frozen BK309.out 11) | ((with_reducible refine gate_callee (f := 83) rfl ?_); refine Short.gL (some 9) Try.func83 #[.agg #[.int .i64 a0_0, .int .i64 a0_1], .agg #[.int .i64 a1_0, .int .i64 a1_1]] (h := ?_); (with_reducible refine (raddlekeep_Dot.calls a0_0 a0_1 a1_0 a1_1 true _ A3.out).mono ?_); rintro e w81 ⟨rfl, hb⟩; refine ⟨_, rfl, ?_⟩; have n0_ := mk_ (bB_ BK308 hb); have n1_ := mk_ (bB_ BK309 hb); have n2_ := mk_ (below_step (Short.hB HB) hb); clear BK308 BK309 HB; revert n0_ n1_ n2_; intro BK308 BK309 HB; (try clear hb); have hcz82_0 : w81.cell? ⟨gb308, 0, none⟩ = some (.int .i64 a0_0) := (blk_cell BK308.out 0).trans rfl; have hcz82_1 : w81.cell? ⟨gb308, 1, none⟩ = some (.int .i64 a0_1) := (blk_cell BK308.out 1).trans rfl; have hcz82_2 : w81.cell? ⟨gb308, 2, none⟩ = some (.slice A0_2 l0_2.length c0_2) := (blk_cell BK308.out 2).trans rfl; have hcz82_3 : w81.cell? ⟨gb308, 3, none⟩ = some (.int .i64 a0_3) := (blk_cell BK308.out 3).trans rfl; have hcz82_4 : w81.cell? ⟨gb308, 4, none⟩ = some (.int .i64 a0_4) := (blk_cell BK308.out 4).trans rfl; have hcz82_5 : w81.cell? ⟨gb308, 5, none⟩ = some (.int .i64 a0_5) := (blk_cell BK308.out 5).trans rfl; have hcz82_6 : w81.cell? ⟨gb308, 6, none⟩ = some (.int .i64 a0_6) := (blk_cell BK308.out 6).trans rfl; have hcz82_7 : w81.cell? ⟨gb308, 7, none⟩ = some (.int .i64 a0_7) := (blk_cell BK308.out 7).trans rfl; have hcz82_8 : w81.cell? ⟨gb308, 8, none⟩ = some (.string a0_8) := (blk_cell BK308.out 8).trans rfl; have hcz82_9 : w81.cell? ⟨gb308, 9, none⟩ = some (.int .i64 a0_9) := (blk_cell BK308.out 9).trans rfl; have hcz82_10 : w81.cell? ⟨gb308, 10, none⟩ = some (.slice A0_10 l0_10.length c0_10) := (blk_cell BK308.out 10).trans rfl; have hcz82_11 : w81.cell? ⟨gb308, 11, none⟩ = some (.slice A0_11 l0_11.length c0_11) := (blk_cell BK308.out 11).trans rfl; have hfz82_0 := blk_frozen BK308.out 0; have hfz82_1 := blk_frozen BK308.out 1; have hfz82_2 := blk_frozen BK308.out 2; have hfz82_3 := blk_frozen BK308.out 3; have hfz82_4 := blk_frozen BK308.out 4; have hfz82_5 := blk_frozen BK308.out 5; have hfz82_6 := blk_frozen BK308.out 6; have hfz82_7 := blk_frozen BK308.out 7; have hfz82_8 := blk_frozen BK308.out 8; have hfz82_9 := blk_frozen BK308.out 9; have hfz82_10 := blk_frozen BK308.out 10; have hfz82_11 := blk_frozen BK308.out 11; have hcz83_0 : w81.cell? ⟨gb309, 0, none⟩ = some (.int .i64 a1_0) := (blk_cell BK309.out 0).trans rfl; have hcz83_1 : w81.cell? ⟨gb309, 1, none⟩ = some (.int .i64 a1_1) := (blk_cell BK309.out 1).trans rfl; have hcz83_2 : w81.cell? ⟨gb309, 2, none⟩ = some (.slice A1_2 l1_2.length c1_2) := (blk_cell BK309.out 2).trans rfl; have hcz83_3 : w81.cell? ⟨gb309, 3, none⟩ = some (.int .i64 a1_3) := (blk_cell BK309.out 3).trans rfl; have hcz83_4 : w81.cell? ⟨gb309, 4, none⟩ = some (.int .i64 a1_4) := (blk_cell BK309.out 4).trans rfl; have hcz83_5 : w81.cell? ⟨gb309, 5, none⟩ = some (.int .i64 a1_5) := (blk_cell BK309.out 5).trans rfl; have hcz83_6 : w81.cell? ⟨gb309, 6, none⟩ = some (.int .i64 a1_6) := (blk_cell BK309.out 6).trans rfl; have hcz83_7 : w81.cell? ⟨gb309, 7, none⟩ = some (.int .i64 a1_7) := (blk_cell BK309.out 7).trans rfl; have hcz83_8 : w81.cell? ⟨gb309, 8, none⟩ = some (.string a1_8) := (blk_cell BK309.out 8).trans rfl; have hcz83_9 : w81.cell? ⟨gb309, 9, none⟩ = some (.int .i64 a1_9) := (blk_cell BK309.out 9).trans rfl; have hcz83_10 : w81.cell? ⟨gb309, 10, none⟩ = some (.slice A1_10 l1_10.length c1_10) := (blk_cell BK309.out 10).trans rfl; have hcz83_11 : w81.cell? ⟨gb309, 11, none⟩ = some (.slice A1_11 l1_11.length c1_11) := (blk_cell BK309.out 11).trans rfl; have hfz83_0 := blk_frozen BK309.out 0; have hfz83_1 := blk_frozen BK309.out 1; have hfz83_2 := blk_frozen BK309.out 2; have hfz83_3 := blk_frozen BK309.out 3; have hfz83_4 := blk_frozen BK309.out 4; have hfz83_5 := blk_frozen BK309.out 5; have hfz83_6 := blk_frozen BK309.out 6; have hfz83_7 := blk_frozen BK309.out 7; have hfz83_8 := blk_frozen BK309.out 8; have hfz83_9 := blk_frozen BK309.out 9; have hfz83_10 := blk_frozen BK309.out 10; have hfz83_11 := blk_frozen BK309.out 11) | (go_at_call 41; (with_reducible refine (raddlekeep_Ints.calls k _ _ l0_2 _ _ l1_2 true _ ?side1 ?side2 ?side3 ?side4 A5.out).mono ?_); (case side1 => exact cX_ (C_below HR0_2.out HB.out)); (case side2 => exact HC0_2.out); (case side3 => exact cX_ (C_below HR1_2.out HB.out)); (case side4 => exact HC1_2.out); rintro e w' ⟨rfl, ⟨nd, rfl⟩⟩) | (go_at_call 42; (with_reducible refine (raddlekeep_Stamp.calls a0_3 a0_4 a0_5 a1_3 a1_4 a1_5 true _ A7.out).mono ?_); rintro e w84 ⟨rfl, hb⟩; have n0_ := mk_ (bB_ BK308 hb); have n1_ := mk_ (bB_ BK309 hb); have n2_ := mk_ (below_step (Short.hB HB) hb); clear BK308 BK309 HB; revert n0_ n1_ n2_; intro BK308 BK309 HB; (try clear hb); (try clear hb2); (try clear hk); (try clear hi); have hcz85_0 : w84.cell? ⟨gb308, 0, none⟩ = some (.int .i64 a0_0) := (blk_cell BK308.out 0).trans rfl; have hcz85_1 : w84.cell? ⟨gb308, 1, none⟩ = some (.int .i64 a0_1) := (blk_cell BK308.out 1).trans rfl; have hcz85_2 : w84.cell? ⟨gb308, 2, none⟩ = some (.slice A0_2 l0_2.length c0_2) := (blk_cell BK308.out 2).trans rfl; have hcz85_3 : w84.cell? ⟨gb308, 3, none⟩ = some (.int .i64 a0_3) := (blk_cell BK308.out 3).trans rfl; have hcz85_4 : w84.cell? ⟨gb308, 4, none⟩ = some (.int .i64 a0_4) := (blk_cell BK308.out 4).trans rfl; have hcz85_5 : w84.cell? ⟨gb308, 5, none⟩ = some (.int .i64 a0_5) := (blk_cell BK308.out 5).trans rfl; have hcz85_6 : w84.cell? ⟨gb308, 6, none⟩ = some (.int .i64 a0_6) := (blk_cell BK308.out 6).trans rfl; have hcz85_7 : w84.cell? ⟨gb308, 7, none⟩ = some (.int .i64 a0_7) := (blk_cell BK308.out 7).trans rfl; have hcz85_8 : w84.cell? ⟨gb308, 8, none⟩ = some (.string a0_8) := (blk_cell BK308.out 8).trans rfl; have hcz85_9 : w84.cell? ⟨gb308, 9, none⟩ = some (.int .i64 a0_9) := (blk_cell BK308.out 9).trans rfl; have hcz85_10 : w84.cell? ⟨gb308, 10, none⟩ = some (.slice A0_10 l0_10.length c0_10) := (blk_cell BK308.out 10).trans rfl; have hcz85_11 : w84.cell? ⟨gb308, 11, none⟩ = some (.slice A0_11 l0_11.length c0_11) := (blk_cell BK308.out 11).trans rfl; have hfz85_0 := blk_frozen BK308.out 0; have hfz85_1 := blk_frozen BK308.out 1; have hfz85_2 := blk_frozen BK308.out 2; have hfz85_3 := blk_frozen BK308.out 3; have hfz85_4 := blk_frozen BK308.out 4; have hfz85_5 := blk_frozen BK308.out 5; have hfz85_6 := blk_frozen BK308.out 6; have hfz85_7 := blk_frozen BK308.out 7; have hfz85_8 := blk_frozen BK308.out 8; have hfz85_9 := blk_frozen BK308.out 9; have hfz85_10 := blk_frozen BK308.out 10; have hfz85_11 := blk_frozen BK308.out 11; have hcz86_0 : w84.cell? ⟨gb309, 0, none⟩ = some (.int .i64 a1_0) := (blk_cell BK309.out 0).trans rfl; have hcz86_1 : w84.cell? ⟨gb309, 1, none⟩ = some (.int .i64 a1_1) := (blk_cell BK309.out 1).trans rfl; have hcz86_2 : w84.cell? ⟨gb309, 2, none⟩ = some (.slice A1_2 l1_2.length c1_2) := (blk_cell BK309.out 2).trans rfl; have hcz86_3 : w84.cell? ⟨gb309, 3, none⟩ = some (.int .i64 a1_3) := (blk_cell BK309.out 3).trans rfl; have hcz86_4 : w84.cell? ⟨gb309, 4, none⟩ = some (.int .i64 a1_4) := (blk_cell BK309.out 4).trans rfl; have hcz86_5 : w84.cell? ⟨gb309, 5, none⟩ = some (.int .i64 a1_5) := (blk_cell BK309.out 5).trans rfl; have hcz86_6 : w84.cell? ⟨gb309, 6, none⟩ = some (.int .i64 a1_6) := (blk_cell BK309.out 6).trans rfl; have hcz86_7 : w84.cell? ⟨gb309, 7, none⟩ = some (.int .i64 a1_7) := (blk_cell BK309.out 7).trans rfl; have hcz86_8 : w84.cell? ⟨gb309, 8, none⟩ = some (.string a1_8) := (blk_cell BK309.out 8).trans rfl; have hcz86_9 : w84.cell? ⟨gb309, 9, none⟩ = some (.int .i64 a1_9) := (blk_cell BK309.out 9).trans rfl; have hcz86_10 : w84.cell? ⟨gb309, 10, none⟩ = some (.slice A1_10 l1_10.length c1_10) := (blk_cell BK309.out 10).trans rfl; have hcz86_11 : w84.cell? ⟨gb309, 11, none⟩ = some (.slice A1_11 l1_11.length c1_11) := (blk_cell BK309.out 11).trans rfl; have hfz86_0 := blk_frozen BK309.out 0; have hfz86_1 := blk_frozen BK309.out 1; have hfz86_2 := blk_frozen BK309.out 2; have hfz86_3 := blk_frozen BK309.out 3; have hfz86_4 := blk_frozen BK309.out 4; have hfz86_5 := blk_frozen BK309.out 5; have hfz86_6 := blk_frozen BK309.out 6; have hfz86_7 := blk_frozen BK309.out 7; have hfz86_8 := blk_frozen BK309.out 8; have hfz86_9 := blk_frozen BK309.out 9; have hfz86_10 := blk_frozen BK309.out 10; have hfz86_11 := blk_frozen BK309.out 11))
     go_ret
     exact ⟨by first | rfl | (simp [errW_none, errW_some] <;> rfl) | (simp [*, errW_none, errW_some] <;> rfl), Short.hB HB⟩
   ·
    replace c8 := Bool.eq_false_iff.mpr c8
    subst c8
    have H1 : (some false) = some r := by rw [if_neg (show ¬ (false = true) by decide)] at H; exact H
    clear H
    have H := H1
    clear H1
    obtain rfl := Option.some.inj H
    go_enter Try.func46, Try.ntmps46
    go_wp2_with (first | ((with_reducible refine gate_dst (N := 2) rfl ?_); refine box_event ?hg (N := 2) ?hd (cs := #[.int .i64 a0_0, .int .i64 a0_1, .slice A0_2 l0_2.length c0_2, .int .i64 a0_3, .int .i64 a0_4, .int .i64 a0_5, .int .i64 a0_6, .int .i64 a0_7, .string a0_8, .int .i64 a0_9, .slice A0_10 l0_10.length c0_10, .slice A0_11 l0_11.length c0_11]) (t := 54) ?hr ?_; (case hd => rfl); (case hg => rfl); (case hr => first | (go_simp; done) | (go_simp; rfl)); intro gb308 hg w87 hbox hb; have n0_ := mk_ (below_step (Short.hB HB) hb); have n1_ := mk_ (hbox); have n2_ := mk_ ((by rw [hg]; exact (below_size (Short.hB HB)) : w.heap.size ≤ gb308)); have n3_ := mk_ ((by rw [hg]; exact (below_size (Short.hB HB)) : w.heap.size ≤ gb308)); clear HB; revert n0_ n1_ n2_ n3_; intro HB BK308 GW308 GE308; clear hb hbox hg) | ((with_reducible refine gate_dst (N := 3) rfl ?_); refine box_event ?hg (N := 3) ?hd (cs := #[.int .i64 a1_0, .int .i64 a1_1, .slice A1_2 l1_2.length c1_2, .int .i64 a1_3, .int .i64 a1_4, .int .i64 a1_5, .int .i64 a1_6, .int .i64 a1_7, .string a1_8, .int .i64 a1_9, .slice A1_10 l1_10.length c1_10, .slice A1_11 l1_11.length c1_11]) (t := 54) ?hr ?_; (case hd => rfl); (case hg => rfl); (case hr => first | (go_simp; done) | (go_simp; rfl)); intro gb309 hg w88 hbox hb; have n0_ := mk_ (bB_ BK308 hb); have n1_ := mk_ (below_step (Short.hB HB) hb); have n2_ := mk_ (hbox); have n3_ := mk_ ((by rw [hg]; exact (below_size (Short.hB HB)) : w.heap.size ≤ gb309)); have n4_ := mk_ ((by rw [hg]; exact (below_size (Short.hB HB)) : w.heap.size ≤ gb309)); have n5_ := mk_ ((by rw [hg]; exact Nat.ne_of_lt (blk_lt (g := gb308) (o := .cells #[.int .i64 a0_0, .int .i64 a0_1, .slice A0_2 l0_2.length c0_2, .int .i64 a0_3, .int .i64 a0_4, .int .i64 a0_5, .int .i64 a0_6, .int .i64 a0_7, .string a0_8, .int .i64 a0_9, .slice A0_10 l0_10.length c0_10, .slice A0_11 l0_11.length c0_11] 54 (0, 0)) (Short.bK BK308)) : gb308 ≠ gb309)); have n6_ := mk_ ((by rw [hg]; exact Nat.ne_of_gt (blk_lt (g := gb308) (o := .cells #[.int .i64 a0_0, .int .i64 a0_1, .slice A0_2 l0_2.length c0_2, .int .i64 a0_3, .int .i64 a0_4, .int .i64 a0_5, .int .i64 a0_6, .int .i64 a0_7, .string a0_8, .int .i64 a0_9, .slice A0_10 l0_10.length c0_10, .slice A0_11 l0_11.length c0_11] 54 (0, 0)) (Short.bK BK308)) : gb309 ≠ gb308)); clear BK308 HB; revert n0_ n1_ n2_ n3_ n4_ n5_ n6_; intro BK308 HB BK309 GW309 GE309 NB308_309 NB309_308; clear hb hbox hg; have hnb89 := NB308_309.out; have hnc89 := NB309_308.out; have hcz90_0 : w88.cell? ⟨gb308, 0, none⟩ = some (.int .i64 a0_0) := (blk_cell BK308.out 0).trans rfl; have hcz90_1 : w88.cell? ⟨gb308, 1, none⟩ = some (.int .i64 a0_1) := (blk_cell BK308.out 1).trans rfl; have hcz90_2 : w88.cell? ⟨gb308, 2, none⟩ = some (.slice A0_2 l0_2.length c0_2) := (blk_cell BK308.out 2).trans rfl; have hcz90_3 : w88.cell? ⟨gb308, 3, none⟩ = some (.int .i64 a0_3) := (blk_cell BK308.out 3).trans rfl; have hcz90_4 : w88.cell? ⟨gb308, 4, none⟩ = some (.int .i64 a0_4) := (blk_cell BK308.out 4).trans rfl; have hcz90_5 : w88.cell? ⟨gb308, 5, none⟩ = some (.int .i64 a0_5) := (blk_cell BK308.out 5).trans rfl; have hcz90_6 : w88.cell? ⟨gb308, 6, none⟩ = some (.int .i64 a0_6) := (blk_cell BK308.out 6).trans rfl; have hcz90_7 : w88.cell? ⟨gb308, 7, none⟩ = some (.int .i64 a0_7) := (blk_cell BK308.out 7).trans rfl; have hcz90_8 : w88.cell? ⟨gb308, 8, none⟩ = some (.string a0_8) := (blk_cell BK308.out 8).trans rfl; have hcz90_9 : w88.cell? ⟨gb308, 9, none⟩ = some (.int .i64 a0_9) := (blk_cell BK308.out 9).trans rfl; have hcz90_10 : w88.cell? ⟨gb308, 10, none⟩ = some (.slice A0_10 l0_10.length c0_10) := (blk_cell BK308.out 10).trans rfl; have hcz90_11 : w88.cell? ⟨gb308, 11, none⟩ = some (.slice A0_11 l0_11.length c0_11) := (blk_cell BK308.out 11).trans rfl; have hfz90_0 := blk_frozen BK308.out 0; have hfz90_1 := blk_frozen BK308.out 1; have hfz90_2 := blk_frozen BK308.out 2; have hfz90_3 := blk_frozen BK308.out 3; have hfz90_4 := blk_frozen BK308.out 4; have hfz90_5 := blk_frozen BK308.out 5; have hfz90_6 := blk_frozen BK308.out 6; have hfz90_7 := blk_frozen BK308.out 7; have hfz90_8 := blk_frozen BK308.out 8; have hfz90_9 := blk_frozen BK308.out 9; have hfz90_10 := blk_frozen BK308.out 10; have hfz90_11 := blk_frozen BK308.out 11; have hcz91_0 : w88.cell? ⟨gb309, 0, none⟩ = some (.int .i64 a1_0) := (blk_cell BK309.out 0).trans rfl; have hcz91_1 : w88.cell? ⟨gb309, 1, none⟩ = some (.int .i64 a1_1) := (blk_cell BK309.out 1).trans rfl; have hcz91_2 : w88.cell? ⟨gb309, 2, none⟩ = some (.slice A1_2 l1_2.length c1_2) := (blk_cell BK309.out 2).trans rfl; have hcz91_3 : w88.cell? ⟨gb309, 3, none⟩ = some (.int .i64 a1_3) := (blk_cell BK309.out 3).trans rfl; have hcz91_4 : w88.cell? ⟨gb309, 4, none⟩ = some (.int .i64 a1_4) := (blk_cell BK309.out 4).trans rfl; have hcz91_5 : w88.cell? ⟨gb309, 5, none⟩ = some (.int .i64 a1_5) := (blk_cell BK309.out 5).trans rfl; have hcz91_6 : w88.cell? ⟨gb309, 6, none⟩ = some (.int .i64 a1_6) := (blk_cell BK309.out 6).trans rfl; have hcz91_7 : w88.cell? ⟨gb309, 7, none⟩ = some (.int .i64 a1_7) := (blk_cell BK309.out 7).trans rfl; have hcz91_8 : w88.cell? ⟨gb309, 8, none⟩ = some (.string a1_8) := (blk_cell BK309.out 8).trans rfl; have hcz91_9 : w88.cell? ⟨gb309, 9, none⟩ = some (.int .i64 a1_9) := (blk_cell BK309.out 9).trans rfl; have hcz91_10 : w88.cell? ⟨gb309, 10, none⟩ = some (.slice A1_10 l1_10.length c1_10) := (blk_cell BK309.out 10).trans rfl; have hcz91_11 : w88.cell? ⟨gb309, 11, none⟩ = some (.slice A1_11 l1_11.length c1_11) := (blk_cell BK309.out 11).trans rfl; have hfz91_0 := blk_frozen BK309.out 0; have hfz91_1 := blk_frozen BK309.out 1; have hfz91_2 := blk_frozen BK309.out 2; have hfz91_3 := blk_frozen BK309.out 3; have hfz91_4 := blk_frozen BK309.out 4; have hfz91_5 := blk_frozen BK309.out 5; have hfz91_6 := blk_frozen BK309.out 6; have hfz91_7 := blk_frozen BK309.out 7; have hfz91_8 := blk_frozen BK309.out 8; have hfz91_9 := blk_frozen BK309.out 9; have hfz91_10 := blk_frozen BK309.out 10; have hfz91_11 := blk_frozen BK309.out 11) | ((with_reducible refine gate_callee (f := 83) rfl ?_); refine Short.gL (some 9) Try.func83 #[.agg #[.int .i64 a0_0, .int .i64 a0_1], .agg #[.int .i64 a1_0, .int .i64 a1_1]] (h := ?_); (with_reducible refine (raddlekeep_Dot.calls a0_0 a0_1 a1_0 a1_1 true _ A3.out).mono ?_); rintro e w92 ⟨rfl, hb⟩; refine ⟨_, rfl, ?_⟩; have n0_ := mk_ (bB_ BK308 hb); have n1_ := mk_ (bB_ BK309 hb); have n2_ := mk_ (below_step (Short.hB HB) hb); clear BK308 BK309 HB; revert n0_ n1_ n2_; intro BK308 BK309 HB; (try clear hb); have hcz93_0 : w92.cell? ⟨gb308, 0, none⟩ = some (.int .i64 a0_0) := (blk_cell BK308.out 0).trans rfl; have hcz93_1 : w92.cell? ⟨gb308, 1, none⟩ = some (.int .i64 a0_1) := (blk_cell BK308.out 1).trans rfl; have hcz93_2 : w92.cell? ⟨gb308, 2, none⟩ = some (.slice A0_2 l0_2.length c0_2) := (blk_cell BK308.out 2).trans rfl; have hcz93_3 : w92.cell? ⟨gb308, 3, none⟩ = some (.int .i64 a0_3) := (blk_cell BK308.out 3).trans rfl; have hcz93_4 : w92.cell? ⟨gb308, 4, none⟩ = some (.int .i64 a0_4) := (blk_cell BK308.out 4).trans rfl; have hcz93_5 : w92.cell? ⟨gb308, 5, none⟩ = some (.int .i64 a0_5) := (blk_cell BK308.out 5).trans rfl; have hcz93_6 : w92.cell? ⟨gb308, 6, none⟩ = some (.int .i64 a0_6) := (blk_cell BK308.out 6).trans rfl; have hcz93_7 : w92.cell? ⟨gb308, 7, none⟩ = some (.int .i64 a0_7) := (blk_cell BK308.out 7).trans rfl; have hcz93_8 : w92.cell? ⟨gb308, 8, none⟩ = some (.string a0_8) := (blk_cell BK308.out 8).trans rfl; have hcz93_9 : w92.cell? ⟨gb308, 9, none⟩ = some (.int .i64 a0_9) := (blk_cell BK308.out 9).trans rfl; have hcz93_10 : w92.cell? ⟨gb308, 10, none⟩ = some (.slice A0_10 l0_10.length c0_10) := (blk_cell BK308.out 10).trans rfl; have hcz93_11 : w92.cell? ⟨gb308, 11, none⟩ = some (.slice A0_11 l0_11.length c0_11) := (blk_cell BK308.out 11).trans rfl; have hfz93_0 := blk_frozen BK308.out 0; have hfz93_1 := blk_frozen BK308.out 1; have hfz93_2 := blk_frozen BK308.out 2; have hfz93_3 := blk_frozen BK308.out 3; have hfz93_4 := blk_frozen BK308.out 4; have hfz93_5 := blk_frozen BK308.out 5; have hfz93_6 := blk_frozen BK308.out 6; have hfz93_7 := blk_frozen BK308.out 7; have hfz93_8 := blk_frozen BK308.out 8; have hfz93_9 := blk_frozen BK308.out 9; have hfz93_10 := blk_frozen BK308.out 10; have hfz93_11 := blk_frozen BK308.out 11; have hcz94_0 : w92.cell? ⟨gb309, 0, none⟩ = some (.int .i64 a1_0) := (blk_cell BK309.out 0).trans rfl; have hcz94_1 : w92.cell? ⟨gb309, 1, none⟩ = some (.int .i64 a1_1) := (blk_cell BK309.out 1).trans rfl; have hcz94_2 : w92.cell? ⟨gb309, 2, none⟩ = some (.slice A1_2 l1_2.length c1_2) := (blk_cell BK309.out 2).trans rfl; have hcz94_3 : w92.cell? ⟨gb309, 3, none⟩ = some (.int .i64 a1_3) := (blk_cell BK309.out 3).trans rfl; have hcz94_4 : w92.cell? ⟨gb309, 4, none⟩ = some (.int .i64 a1_4) := (blk_cell BK309.out 4).trans rfl; have hcz94_5 : w92.cell? ⟨gb309, 5, none⟩ = some (.int .i64 a1_5) := (blk_cell BK309.out 5).trans rfl; have hcz94_6 : w92.cell? ⟨gb309, 6, none⟩ = some (.int .i64 a1_6) := (blk_cell BK309.out 6).trans rfl; have hcz94_7 : w92.cell? ⟨gb309, 7, none⟩ = some (.int .i64 a1_7) := (blk_cell BK309.out 7).trans rfl; have hcz94_8 : w92.cell? ⟨gb309, 8, none⟩ = some (.string a1_8) := (blk_cell BK309.out 8).trans rfl; have hcz94_9 : w92.cell? ⟨gb309, 9, none⟩ = some (.int .i64 a1_9) := (blk_cell BK309.out 9).trans rfl; have hcz94_10 : w92.cell? ⟨gb309, 10, none⟩ = some (.slice A1_10 l1_10.length c1_10) := (blk_cell BK309.out 10).trans rfl; have hcz94_11 : w92.cell? ⟨gb309, 11, none⟩ = some (.slice A1_11 l1_11.length c1_11) := (blk_cell BK309.out 11).trans rfl; have hfz94_0 := blk_frozen BK309.out 0; have hfz94_1 := blk_frozen BK309.out 1; have hfz94_2 := blk_frozen BK309.out 2; have hfz94_3 := blk_frozen BK309.out 3; have hfz94_4 := blk_frozen BK309.out 4; have hfz94_5 := blk_frozen BK309.out 5; have hfz94_6 := blk_frozen BK309.out 6; have hfz94_7 := blk_frozen BK309.out 7; have hfz94_8 := blk_frozen BK309.out 8; have hfz94_9 := blk_frozen BK309.out 9; have hfz94_10 := blk_frozen BK309.out 10; have hfz94_11 := blk_frozen BK309.out 11) | (go_at_call 41; (with_reducible refine (raddlekeep_Ints.calls k _ _ l0_2 _ _ l1_2 true _ ?side1 ?side2 ?side3 ?side4 A5.out).mono ?_); (case side1 => exact cX_ (C_below HR0_2.out HB.out)); (case side2 => exact HC0_2.out); (case side3 => exact cX_ (C_below HR1_2.out HB.out)); (case side4 => exact HC1_2.out); rintro e w' ⟨rfl, ⟨nd, rfl⟩⟩) | (go_at_call 42; (with_reducible refine (raddlekeep_Stamp.calls a0_3 a0_4 a0_5 a1_3 a1_4 a1_5 false _ A7.out).mono ?_); rintro e w95 ⟨rfl, hb⟩; have n0_ := mk_ (bB_ BK308 hb); have n1_ := mk_ (bB_ BK309 hb); have n2_ := mk_ (below_step (Short.hB HB) hb); clear BK308 BK309 HB; revert n0_ n1_ n2_; intro BK308 BK309 HB; (try clear hb); (try clear hb2); (try clear hk); (try clear hi)))
    go_ret
    exact ⟨by first | rfl | (simp [errW_none, errW_some] <;> rfl) | (simp [*, errW_none, errW_some] <;> rfl), Short.hB HB⟩
  ·
   replace c6 := Bool.eq_false_iff.mpr c6
   subst c6
   have H1 : (some false) = some r := by rw [if_neg (show ¬ (false = true) by decide)] at H; exact H
   clear H
   have H := H1
   clear H1
   obtain rfl := Option.some.inj H
   go_enter Try.func46, Try.ntmps46
   go_wp2_with (first | ((with_reducible refine gate_dst (N := 2) rfl ?_); refine box_event ?hg (N := 2) ?hd (cs := #[.int .i64 a0_0, .int .i64 a0_1, .slice A0_2 l0_2.length c0_2, .int .i64 a0_3, .int .i64 a0_4, .int .i64 a0_5, .int .i64 a0_6, .int .i64 a0_7, .string a0_8, .int .i64 a0_9, .slice A0_10 l0_10.length c0_10, .slice A0_11 l0_11.length c0_11]) (t := 54) ?hr ?_; (case hd => rfl); (case hg => rfl); (case hr => first | (go_simp; done) | (go_simp; rfl)); intro gb308 hg w96 hbox hb; have n0_ := mk_ (below_step (Short.hB HB) hb); have n1_ := mk_ (hbox); have n2_ := mk_ ((by rw [hg]; exact (below_size (Short.hB HB)) : w.heap.size ≤ gb308)); have n3_ := mk_ ((by rw [hg]; exact (below_size (Short.hB HB)) : w.heap.size ≤ gb308)); clear HB; revert n0_ n1_ n2_ n3_; intro HB BK308 GW308 GE308; clear hb hbox hg) | ((with_reducible refine gate_dst (N := 3) rfl ?_); refine box_event ?hg (N := 3) ?hd (cs := #[.int .i64 a1_0, .int .i64 a1_1, .slice A1_2 l1_2.length c1_2, .int .i64 a1_3, .int .i64 a1_4, .int .i64 a1_5, .int .i64 a1_6, .int .i64 a1_7, .string a1_8, .int .i64 a1_9, .slice A1_10 l1_10.length c1_10, .slice A1_11 l1_11.length c1_11]) (t := 54) ?hr ?_; (case hd => rfl); (case hg => rfl); (case hr => first | (go_simp; done) | (go_simp; rfl)); intro gb309 hg w97 hbox hb; have n0_ := mk_ (bB_ BK308 hb); have n1_ := mk_ (below_step (Short.hB HB) hb); have n2_ := mk_ (hbox); have n3_ := mk_ ((by rw [hg]; exact (below_size (Short.hB HB)) : w.heap.size ≤ gb309)); have n4_ := mk_ ((by rw [hg]; exact (below_size (Short.hB HB)) : w.heap.size ≤ gb309)); have n5_ := mk_ ((by rw [hg]; exact Nat.ne_of_lt (blk_lt (g := gb308) (o := .cells #[.int .i64 a0_0, .int .i64 a0_1, .slice A0_2 l0_2.length c0_2, .int .i64 a0_3, .int .i64 a0_4, .int .i64 a0_5, .int .i64 a0_6, .int .i64 a0_7, .string a0_8, .int .i64 a0_9, .slice A0_10 l0_10.length c0_10, .slice A0_11 l0_11.length c0_11] 54 (0, 0)) (Short.bK BK308)) : gb308 ≠ gb309)); have n6_ := mk_ ((by rw [hg]; exact Nat.ne_of_gt (blk_lt (g := gb308) (o := .cells #[.int .i64 a0_0, .int .i64 a0_1, .slice A0_2 l0_2.length c0_2, .int .i64 a0_3, .int .i64 a0_4, .int .i64 a0_5, .int .i64 a0_6, .int .i64 a0_7, .string a0_8, .int .i64 a0_9, .slice A0_10 l0_10.length c0_10, .slice A0_11 l0_11.length c0_11] 54 (0, 0)) (Short.bK BK308)) : gb309 ≠ gb308)); clear BK308 HB; revert n0_ n1_ n2_ n3_ n4_ n5_ n6_; intro BK308 HB BK309 GW309 GE309 NB308_309 NB309_308; clear hb hbox hg; have hnb98 := NB308_309.out; have hnc98 := NB309_308.out; have hcz99_0 : w97.cell? ⟨gb308, 0, none⟩ = some (.int .i64 a0_0) := (blk_cell BK308.out 0).trans rfl; have hcz99_1 : w97.cell? ⟨gb308, 1, none⟩ = some (.int .i64 a0_1) := (blk_cell BK308.out 1).trans rfl; have hcz99_2 : w97.cell? ⟨gb308, 2, none⟩ = some (.slice A0_2 l0_2.length c0_2) := (blk_cell BK308.out 2).trans rfl; have hcz99_3 : w97.cell? ⟨gb308, 3, none⟩ = some (.int .i64 a0_3) := (blk_cell BK308.out 3).trans rfl; have hcz99_4 : w97.cell? ⟨gb308, 4, none⟩ = some (.int .i64 a0_4) := (blk_cell BK308.out 4).trans rfl; have hcz99_5 : w97.cell? ⟨gb308, 5, none⟩ = some (.int .i64 a0_5) := (blk_cell BK308.out 5).trans rfl; have hcz99_6 : w97.cell? ⟨gb308, 6, none⟩ = some (.int .i64 a0_6) := (blk_cell BK308.out 6).trans rfl; have hcz99_7 : w97.cell? ⟨gb308, 7, none⟩ = some (.int .i64 a0_7) := (blk_cell BK308.out 7).trans rfl; have hcz99_8 : w97.cell? ⟨gb308, 8, none⟩ = some (.string a0_8) := (blk_cell BK308.out 8).trans rfl; have hcz99_9 : w97.cell? ⟨gb308, 9, none⟩ = some (.int .i64 a0_9) := (blk_cell BK308.out 9).trans rfl; have hcz99_10 : w97.cell? ⟨gb308, 10, none⟩ = some (.slice A0_10 l0_10.length c0_10) := (blk_cell BK308.out 10).trans rfl; have hcz99_11 : w97.cell? ⟨gb308, 11, none⟩ = some (.slice A0_11 l0_11.length c0_11) := (blk_cell BK308.out 11).trans rfl; have hfz99_0 := blk_frozen BK308.out 0; have hfz99_1 := blk_frozen BK308.out 1; have hfz99_2 := blk_frozen BK308.out 2; have hfz99_3 := blk_frozen BK308.out 3; have hfz99_4 := blk_frozen BK308.out 4; have hfz99_5 := blk_frozen BK308.out 5; have hfz99_6 := blk_frozen BK308.out 6; have hfz99_7 := blk_frozen BK308.out 7; have hfz99_8 := blk_frozen BK308.out 8; have hfz99_9 := blk_frozen BK308.out 9; have hfz99_10 := blk_frozen BK308.out 10; have hfz99_11 := blk_frozen BK308.out 11; have hcz100_0 : w97.cell? ⟨gb309, 0, none⟩ = some (.int .i64 a1_0) := (blk_cell BK309.out 0).trans rfl; have hcz100_1 : w97.cell? ⟨gb309, 1, none⟩ = some (.int .i64 a1_1) := (blk_cell BK309.out 1).trans rfl; have hcz100_2 : w97.cell? ⟨gb309, 2, none⟩ = some (.slice A1_2 l1_2.length c1_2) := (blk_cell BK309.out 2).trans rfl; have hcz100_3 : w97.cell? ⟨gb309, 3, none⟩ = some (.int .i64 a1_3) := (blk_cell BK309.out 3).trans rfl; have hcz100_4 : w97.cell? ⟨gb309, 4, none⟩ = some (.int .i64 a1_4) := (blk_cell BK309.out 4).trans rfl; have hcz100_5 : w97.cell? ⟨gb309, 5, none⟩ = some (.int .i64 a1_5) := (blk_cell BK309.out 5).trans rfl; have hcz100_6 : w97.cell? ⟨gb309, 6, none⟩ = some (.int .i64 a1_6) := (blk_cell BK309.out 6).trans rfl; have hcz100_7 : w97.cell? ⟨gb309, 7, none⟩ = some (.int .i64 a1_7) := (blk_cell BK309.out 7).trans rfl; have hcz100_8 : w97.cell? ⟨gb309, 8, none⟩ = some (.string a1_8) := (blk_cell BK309.out 8).trans rfl; have hcz100_9 : w97.cell? ⟨gb309, 9, none⟩ = some (.int .i64 a1_9) := (blk_cell BK309.out 9).trans rfl; have hcz100_10 : w97.cell? ⟨gb309, 10, none⟩ = some (.slice A1_10 l1_10.length c1_10) := (blk_cell BK309.out 10).trans rfl; have hcz100_11 : w97.cell? ⟨gb309, 11, none⟩ = some (.slice A1_11 l1_11.length c1_11) := (blk_cell BK309.out 11).trans rfl; have hfz100_0 := blk_frozen BK309.out 0; have hfz100_1 := blk_frozen BK309.out 1; have hfz100_2 := blk_frozen BK309.out 2; have hfz100_3 := blk_frozen BK309.out 3; have hfz100_4 := blk_frozen BK309.out 4; have hfz100_5 := blk_frozen BK309.out 5; have hfz100_6 := blk_frozen BK309.out 6; have hfz100_7 := blk_frozen BK309.out 7; have hfz100_8 := blk_frozen BK309.out 8; have hfz100_9 := blk_frozen BK309.out 9; have hfz100_10 := blk_frozen BK309.out 10; have hfz100_11 := blk_frozen BK309.out 11) | ((with_reducible refine gate_callee (f := 83) rfl ?_); refine Short.gL (some 9) Try.func83 #[.agg #[.int .i64 a0_0, .int .i64 a0_1], .agg #[.int .i64 a1_0, .int .i64 a1_1]] (h := ?_); (with_reducible refine (raddlekeep_Dot.calls a0_0 a0_1 a1_0 a1_1 true _ A3.out).mono ?_); rintro e w101 ⟨rfl, hb⟩; refine ⟨_, rfl, ?_⟩; have n0_ := mk_ (bB_ BK308 hb); have n1_ := mk_ (bB_ BK309 hb); have n2_ := mk_ (below_step (Short.hB HB) hb); clear BK308 BK309 HB; revert n0_ n1_ n2_; intro BK308 BK309 HB; (try clear hb); have hcz102_0 : w101.cell? ⟨gb308, 0, none⟩ = some (.int .i64 a0_0) := (blk_cell BK308.out 0).trans rfl; have hcz102_1 : w101.cell? ⟨gb308, 1, none⟩ = some (.int .i64 a0_1) := (blk_cell BK308.out 1).trans rfl; have hcz102_2 : w101.cell? ⟨gb308, 2, none⟩ = some (.slice A0_2 l0_2.length c0_2) := (blk_cell BK308.out 2).trans rfl; have hcz102_3 : w101.cell? ⟨gb308, 3, none⟩ = some (.int .i64 a0_3) := (blk_cell BK308.out 3).trans rfl; have hcz102_4 : w101.cell? ⟨gb308, 4, none⟩ = some (.int .i64 a0_4) := (blk_cell BK308.out 4).trans rfl; have hcz102_5 : w101.cell? ⟨gb308, 5, none⟩ = some (.int .i64 a0_5) := (blk_cell BK308.out 5).trans rfl; have hcz102_6 : w101.cell? ⟨gb308, 6, none⟩ = some (.int .i64 a0_6) := (blk_cell BK308.out 6).trans rfl; have hcz102_7 : w101.cell? ⟨gb308, 7, none⟩ = some (.int .i64 a0_7) := (blk_cell BK308.out 7).trans rfl; have hcz102_8 : w101.cell? ⟨gb308, 8, none⟩ = some (.string a0_8) := (blk_cell BK308.out 8).trans rfl; have hcz102_9 : w101.cell? ⟨gb308, 9, none⟩ = some (.int .i64 a0_9) := (blk_cell BK308.out 9).trans rfl; have hcz102_10 : w101.cell? ⟨gb308, 10, none⟩ = some (.slice A0_10 l0_10.length c0_10) := (blk_cell BK308.out 10).trans rfl; have hcz102_11 : w101.cell? ⟨gb308, 11, none⟩ = some (.slice A0_11 l0_11.length c0_11) := (blk_cell BK308.out 11).trans rfl; have hfz102_0 := blk_frozen BK308.out 0; have hfz102_1 := blk_frozen BK308.out 1; have hfz102_2 := blk_frozen BK308.out 2; have hfz102_3 := blk_frozen BK308.out 3; have hfz102_4 := blk_frozen BK308.out 4; have hfz102_5 := blk_frozen BK308.out 5; have hfz102_6 := blk_frozen BK308.out 6; have hfz102_7 := blk_frozen BK308.out 7; have hfz102_8 := blk_frozen BK308.out 8; have hfz102_9 := blk_frozen BK308.out 9; have hfz102_10 := blk_frozen BK308.out 10; have hfz102_11 := blk_frozen BK308.out 11; have hcz103_0 : w101.cell? ⟨gb309, 0, none⟩ = some (.int .i64 a1_0) := (blk_cell BK309.out 0).trans rfl; have hcz103_1 : w101.cell? ⟨gb309, 1, none⟩ = some (.int .i64 a1_1) := (blk_cell BK309.out 1).trans rfl; have hcz103_2 : w101.cell? ⟨gb309, 2, none⟩ = some (.slice A1_2 l1_2.length c1_2) := (blk_cell BK309.out 2).trans rfl; have hcz103_3 : w101.cell? ⟨gb309, 3, none⟩ = some (.int .i64 a1_3) := (blk_cell BK309.out 3).trans rfl; have hcz103_4 : w101.cell? ⟨gb309, 4, none⟩ = some (.int .i64 a1_4) := (blk_cell BK309.out 4).trans rfl; have hcz103_5 : w101.cell? ⟨gb309, 5, none⟩ = some (.int .i64 a1_5) := (blk_cell BK309.out 5).trans rfl; have hcz103_6 : w101.cell? ⟨gb309, 6, none⟩ = some (.int .i64 a1_6) := (blk_cell BK309.out 6).trans rfl; have hcz103_7 : w101.cell? ⟨gb309, 7, none⟩ = some (.int .i64 a1_7) := (blk_cell BK309.out 7).trans rfl; have hcz103_8 : w101.cell? ⟨gb309, 8, none⟩ = some (.string a1_8) := (blk_cell BK309.out 8).trans rfl; have hcz103_9 : w101.cell? ⟨gb309, 9, none⟩ = some (.int .i64 a1_9) := (blk_cell BK309.out 9).trans rfl; have hcz103_10 : w101.cell? ⟨gb309, 10, none⟩ = some (.slice A1_10 l1_10.length c1_10) := (blk_cell BK309.out 10).trans rfl; have hcz103_11 : w101.cell? ⟨gb309, 11, none⟩ = some (.slice A1_11 l1_11.length c1_11) := (blk_cell BK309.out 11).trans rfl; have hfz103_0 := blk_frozen BK309.out 0; have hfz103_1 := blk_frozen BK309.out 1; have hfz103_2 := blk_frozen BK309.out 2; have hfz103_3 := blk_frozen BK309.out 3; have hfz103_4 := blk_frozen BK309.out 4; have hfz103_5 := blk_frozen BK309.out 5; have hfz103_6 := blk_frozen BK309.out 6; have hfz103_7 := blk_frozen BK309.out 7; have hfz103_8 := blk_frozen BK309.out 8; have hfz103_9 := blk_frozen BK309.out 9; have hfz103_10 := blk_frozen BK309.out 10; have hfz103_11 := blk_frozen BK309.out 11) | (go_at_call 41; (with_reducible refine (raddlekeep_Ints.calls k _ _ l0_2 _ _ l1_2 false _ ?side1 ?side2 ?side3 ?side4 A5.out).mono ?_); (case side1 => exact cX_ (C_below HR0_2.out HB.out)); (case side2 => exact HC0_2.out); (case side3 => exact cX_ (C_below HR1_2.out HB.out)); (case side4 => exact HC1_2.out); rintro e w' ⟨rfl, ⟨nd, rfl⟩⟩))
   go_ret
   exact ⟨by first | rfl | (simp [errW_none, errW_some] <;> rfl) | (simp [*, errW_none, errW_some] <;> rfl), Short.hB HB⟩
 ·
  replace c4 := Bool.eq_false_iff.mpr c4
  subst c4
  have H1 : (some false) = some r := by rw [if_neg (show ¬ (false = true) by decide)] at H; exact H
  clear H
  have H := H1
  clear H1
  obtain rfl := Option.some.inj H
  go_enter Try.func46, Try.ntmps46
  go_wp2_with (first | ((with_reducible refine gate_dst (N := 2) rfl ?_); refine box_event ?hg (N := 2) ?hd (cs := #[.int .i64 a0_0, .int .i64 a0_1, .slice A0_2 l0_2.length c0_2, .int .i64 a0_3, .int .i64 a0_4, .int .i64 a0_5, .int .i64 a0_6, .int .i64 a0_7, .string a0_8, .int .i64 a0_9, .slice A0_10 l0_10.length c0_10, .slice A0_11 l0_11.length c0_11]) (t := 54) ?hr ?_; (case hd => rfl); (case hg => rfl); (case hr => first | (go_simp; done) | (go_simp; rfl)); intro gb308 hg w104 hbox hb; have n0_ := mk_ (below_step (Short.hB HB) hb); have n1_ := mk_ (hbox); have n2_ := mk_ ((by rw [hg]; exact (below_size (Short.hB HB)) : w.heap.size ≤ gb308)); have n3_ := mk_ ((by rw [hg]; exact (below_size (Short.hB HB)) : w.heap.size ≤ gb308)); clear HB; revert n0_ n1_ n2_ n3_; intro HB BK308 GW308 GE308; clear hb hbox hg) | ((with_reducible refine gate_dst (N := 3) rfl ?_); refine box_event ?hg (N := 3) ?hd (cs := #[.int .i64 a1_0, .int .i64 a1_1, .slice A1_2 l1_2.length c1_2, .int .i64 a1_3, .int .i64 a1_4, .int .i64 a1_5, .int .i64 a1_6, .int .i64 a1_7, .string a1_8, .int .i64 a1_9, .slice A1_10 l1_10.length c1_10, .slice A1_11 l1_11.length c1_11]) (t := 54) ?hr ?_; (case hd => rfl); (case hg => rfl); (case hr => first | (go_simp; done) | (go_simp; rfl)); intro gb309 hg w105 hbox hb; have n0_ := mk_ (bB_ BK308 hb); have n1_ := mk_ (below_step (Short.hB HB) hb); have n2_ := mk_ (hbox); have n3_ := mk_ ((by rw [hg]; exact (below_size (Short.hB HB)) : w.heap.size ≤ gb309)); have n4_ := mk_ ((by rw [hg]; exact (below_size (Short.hB HB)) : w.heap.size ≤ gb309)); have n5_ := mk_ ((by rw [hg]; exact Nat.ne_of_lt (blk_lt (g := gb308) (o := .cells #[.int .i64 a0_0, .int .i64 a0_1, .slice A0_2 l0_2.length c0_2, .int .i64 a0_3, .int .i64 a0_4, .int .i64 a0_5, .int .i64 a0_6, .int .i64 a0_7, .string a0_8, .int .i64 a0_9, .slice A0_10 l0_10.length c0_10, .slice A0_11 l0_11.length c0_11] 54 (0, 0)) (Short.bK BK308)) : gb308 ≠ gb309)); have n6_ := mk_ ((by rw [hg]; exact Nat.ne_of_gt (blk_lt (g := gb308) (o := .cells #[.int .i64 a0_0, .int .i64 a0_1, .slice A0_2 l0_2.length c0_2, .int .i64 a0_3, .int .i64 a0_4, .int .i64 a0_5, .int .i64 a0_6, .int .i64 a0_7, .string a0_8, .int .i64 a0_9, .slice A0_10 l0_10.length c0_10, .slice A0_11 l0_11.length c0_11] 54 (0, 0)) (Short.bK BK308)) : gb309 ≠ gb308)); clear BK308 HB; revert n0_ n1_ n2_ n3_ n4_ n5_ n6_; intro BK308 HB BK309 GW309 GE309 NB308_309 NB309_308; clear hb hbox hg; have hnb106 := NB308_309.out; have hnc106 := NB309_308.out; have hcz107_0 : w105.cell? ⟨gb308, 0, none⟩ = some (.int .i64 a0_0) := (blk_cell BK308.out 0).trans rfl; have hcz107_1 : w105.cell? ⟨gb308, 1, none⟩ = some (.int .i64 a0_1) := (blk_cell BK308.out 1).trans rfl; have hcz107_2 : w105.cell? ⟨gb308, 2, none⟩ = some (.slice A0_2 l0_2.length c0_2) := (blk_cell BK308.out 2).trans rfl; have hcz107_3 : w105.cell? ⟨gb308, 3, none⟩ = some (.int .i64 a0_3) := (blk_cell BK308.out 3).trans rfl; have hcz107_4 : w105.cell? ⟨gb308, 4, none⟩ = some (.int .i64 a0_4) := (blk_cell BK308.out 4).trans rfl; have hcz107_5 : w105.cell? ⟨gb308, 5, none⟩ = some (.int .i64 a0_5) := (blk_cell BK308.out 5).trans rfl; have hcz107_6 : w105.cell? ⟨gb308, 6, none⟩ = some (.int .i64 a0_6) := (blk_cell BK308.out 6).trans rfl; have hcz107_7 : w105.cell? ⟨gb308, 7, none⟩ = some (.int .i64 a0_7) := (blk_cell BK308.out 7).trans rfl; have hcz107_8 : w105.cell? ⟨gb308, 8, none⟩ = some (.string a0_8) := (blk_cell BK308.out 8).trans rfl; have hcz107_9 : w105.cell? ⟨gb308, 9, none⟩ = some (.int .i64 a0_9) := (blk_cell BK308.out 9).trans rfl; have hcz107_10 : w105.cell? ⟨gb308, 10, none⟩ = some (.slice A0_10 l0_10.length c0_10) := (blk_cell BK308.out 10).trans rfl; have hcz107_11 : w105.cell? ⟨gb308, 11, none⟩ = some (.slice A0_11 l0_11.length c0_11) := (blk_cell BK308.out 11).trans rfl; have hfz107_0 := blk_frozen BK308.out 0; have hfz107_1 := blk_frozen BK308.out 1; have hfz107_2 := blk_frozen BK308.out 2; have hfz107_3 := blk_frozen BK308.out 3; have hfz107_4 := blk_frozen BK308.out 4; have hfz107_5 := blk_frozen BK308.out 5; have hfz107_6 := blk_frozen BK308.out 6; have hfz107_7 := blk_frozen BK308.out 7; have hfz107_8 := blk_frozen BK308.out 8; have hfz107_9 := blk_frozen BK308.out 9; have hfz107_10 := blk_frozen BK308.out 10; have hfz107_11 := blk_frozen BK308.out 11; have hcz108_0 : w105.cell? ⟨gb309, 0, none⟩ = some (.int .i64 a1_0) := (blk_cell BK309.out 0).trans rfl; have hcz108_1 : w105.cell? ⟨gb309, 1, none⟩ = some (.int .i64 a1_1) := (blk_cell BK309.out 1).trans rfl; have hcz108_2 : w105.cell? ⟨gb309, 2, none⟩ = some (.slice A1_2 l1_2.length c1_2) := (blk_cell BK309.out 2).trans rfl; have hcz108_3 : w105.cell? ⟨gb309, 3, none⟩ = some (.int .i64 a1_3) := (blk_cell BK309.out 3).trans rfl; have hcz108_4 : w105.cell? ⟨gb309, 4, none⟩ = some (.int .i64 a1_4) := (blk_cell BK309.out 4).trans rfl; have hcz108_5 : w105.cell? ⟨gb309, 5, none⟩ = some (.int .i64 a1_5) := (blk_cell BK309.out 5).trans rfl; have hcz108_6 : w105.cell? ⟨gb309, 6, none⟩ = some (.int .i64 a1_6) := (blk_cell BK309.out 6).trans rfl; have hcz108_7 : w105.cell? ⟨gb309, 7, none⟩ = some (.int .i64 a1_7) := (blk_cell BK309.out 7).trans rfl; have hcz108_8 : w105.cell? ⟨gb309, 8, none⟩ = some (.string a1_8) := (blk_cell BK309.out 8).trans rfl; have hcz108_9 : w105.cell? ⟨gb309, 9, none⟩ = some (.int .i64 a1_9) := (blk_cell BK309.out 9).trans rfl; have hcz108_10 : w105.cell? ⟨gb309, 10, none⟩ = some (.slice A1_10 l1_10.length c1_10) := (blk_cell BK309.out 10).trans rfl; have hcz108_11 : w105.cell? ⟨gb309, 11, none⟩ = some (.slice A1_11 l1_11.length c1_11) := (blk_cell BK309.out 11).trans rfl; have hfz108_0 := blk_frozen BK309.out 0; have hfz108_1 := blk_frozen BK309.out 1; have hfz108_2 := blk_frozen BK309.out 2; have hfz108_3 := blk_frozen BK309.out 3; have hfz108_4 := blk_frozen BK309.out 4; have hfz108_5 := blk_frozen BK309.out 5; have hfz108_6 := blk_frozen BK309.out 6; have hfz108_7 := blk_frozen BK309.out 7; have hfz108_8 := blk_frozen BK309.out 8; have hfz108_9 := blk_frozen BK309.out 9; have hfz108_10 := blk_frozen BK309.out 10; have hfz108_11 := blk_frozen BK309.out 11) | ((with_reducible refine gate_callee (f := 83) rfl ?_); refine Short.gL (some 9) Try.func83 #[.agg #[.int .i64 a0_0, .int .i64 a0_1], .agg #[.int .i64 a1_0, .int .i64 a1_1]] (h := ?_); (with_reducible refine (raddlekeep_Dot.calls a0_0 a0_1 a1_0 a1_1 false _ A3.out).mono ?_); rintro e w109 ⟨rfl, hb⟩; refine ⟨_, rfl, ?_⟩; have n0_ := mk_ (bB_ BK308 hb); have n1_ := mk_ (bB_ BK309 hb); have n2_ := mk_ (below_step (Short.hB HB) hb); clear BK308 BK309 HB; revert n0_ n1_ n2_; intro BK308 BK309 HB; (try clear hb)))
  go_ret
  exact ⟨by first | rfl | (simp [errW_none, errW_some] <;> rfl) | (simp [*, errW_none, errW_some] <;> rfl), Short.hB HB⟩
def raddlelaw03_Long.l0 : Nat → List (S89) → Int → Option (Bool)
 | 0, _, _ => none
 | k + 1, x0, x3 => if x3 < (x0.length : Int) then (if 0 ≤ x3 then (if (((rd_T89 x0 x3).f2).size : Int) > 300 then (some true) else (raddlelaw03_Long.l0 k x0 (wrap64 (x3 + 1)))) else (none)) else (some false)
def raddlelaw03_Long.f (k : Nat) (l0 : List (S89)) : Option (Bool) := raddlelaw03_Long.l0 k l0 0
set_option maxHeartbeats 8000000 in
set_option maxRecDepth 100000 in
theorem raddlelaw03_Long.calls (k : Nat) (A0 : Option Addr) (c0 : Nat) (l0 : List (S89)) (r : Bool) (w : World) (hr0 : Kd.C k89 w A0 l0.length l0) (hc0 : l0.length ≤ c0) (h : raddlelaw03_Long.f k l0 = some r) :
  Calls Try.prog 91 #[.slice A0 l0.length c0] w fun e w' => e = .returned (.bool r) ∧ Drawn0 w w' := by
 have HR0 := mk_ hr0
 have HC0 := mk_ hc0
 clear hr0 hc0
 have H : (raddlelaw03_Long.l0 k l0 0) = some r := h
 clear h
 have H' := mk_ H
 clear H
 go_enter Try.func91, Try.ntmps91
 go_wp2
 go_loopg [3] k (fun kq v3 w' => ∃ (x3_1 : Int), v3 = .int .i64 x3_1 ∧ Aside0 (raddlelaw03_Long.l0 kq l0 x3_1 = some r) ∧ Aside0 (kq ≤ k) ∧ Drawn0 w w')
 case atStart => exact ⟨(0), z3_, H', ⟨Nat.le_refl _⟩, by repeat (first | exact Drawn0.refl _ | apply Drawn0.step)⟩
 case round =>
  clear H'
  obtain ⟨x3_1, rfl, HA, HK1, ⟨m1, rfl⟩⟩ := hrel
  cases gk with
  | zero => exact absurd HA.out (by simp [raddlelaw03_Long.l0])
  | succ k1 =>
   have H := HA.out
   clear HA
   simp only [raddlelaw03_Long.l0] at H
   by_cases c2 : x3_1 < (l0.length : Int)
   ·
    rw [if_pos c2] at H
    have c2b0 : decide (x3_1 < (l0.length : Int)) = true := decide_eq_true c2
    clear c2
    by_cases c3 : 0 ≤ x3_1
    ·
     rw [if_pos c3] at H
     have c3b0 : decide (0 ≤ x3_1) = true := decide_eq_true c3
     clear c3
     by_cases c4 : (((rd_T89 l0 x3_1).f2).size : Int) > 300
     ·
      rw [if_pos c4] at H
      have c4b0 : decide (300 < (((rd_T89 l0 x3_1).f2).size : Int)) = true := decide_eq_true c4
      have c4b1 : decide (300 < ((rd_T89 l0 x3_1).f2).size) = true := decide_eq_true z2_
      clear c4
      obtain rfl := Option.some.inj H
      have p315 : 0 ≤ (x3_1 : Int) := of_decide_eq_true z0_
      have q315 : x3_1 < (l0.length : Int) := of_decide_eq_true z0_
      obtain ⟨ad315, e315, hx315_0, hx315_1, hx315_2⟩ := at_T89 HR0.out x3_1 p315 q315
      cases e315
      replace p315 := eq_true p315
      replace q315 := eq_true q315
      go_wp2
      go_ret
      exact ⟨z3_, by repeat (first | exact Drawn0.refl _ | apply Drawn0.step)⟩
     ·
      rw [if_neg c4] at H
      have c4b0 : decide (300 < (((rd_T89 l0 x3_1).f2).size : Int)) = false := decide_eq_false c4
      have c4b1 : decide (300 < ((rd_T89 l0 x3_1).f2).size) = false := decide_eq_false z2_
      clear c4
      have H' := mk_ H
      clear H
      have p315 : 0 ≤ (x3_1 : Int) := of_decide_eq_true z0_
      have q315 : x3_1 < (l0.length : Int) := of_decide_eq_true z0_
      obtain ⟨ad315, e315, hx315_0, hx315_1, hx315_2⟩ := at_T89 HR0.out x3_1 p315 q315
      cases e315
      replace p315 := eq_true p315
      replace q315 := eq_true q315
      go_wp2
      go_roundg k1
      case measure => have := HK1.out; omega
      case rel => exact ⟨(wrap64 (x3_1 + 1)), z3_, H', ⟨by have := HK1.out; omega⟩, by repeat (first | exact Drawn0.refl _ | apply Drawn0.step)⟩
    ·
     rw [if_neg c3] at H
     exact absurd H (by simp)
   ·
    rw [if_neg c2] at H
    have c2b0 : decide (x3_1 < (l0.length : Int)) = false := decide_eq_false c2
    clear c2
    obtain rfl := Option.some.inj H
    go_wp2
    go_ret
    exact ⟨z3_, by repeat (first | exact Drawn0.refl _ | apply Drawn0.step)⟩
def raddlelaw04_Heavy.f (k : Nat) (l0 : List (S89)) : Option (Bool) := if (l0.length : Int) > 40 then (some true) else ((raddlelaw03_Long.f k l0).bind fun t316 => (some t316))
set_option maxHeartbeats 8000000 in
set_option maxRecDepth 100000 in
theorem raddlelaw04_Heavy.calls (k : Nat) (A0 : Option Addr) (c0 : Nat) (l0 : List (S89)) (r : Bool) (w : World) (hr0 : Kd.C k89 w A0 l0.length l0) (hc0 : l0.length ≤ c0) (h : raddlelaw04_Heavy.f k l0 = some r) :
  Calls Try.prog 52 #[.slice A0 l0.length c0] w fun e w' => e = .returned (.bool r) ∧ Drawn0 w w' := by
 have HR0 := mk_ hr0
 have HC0 := mk_ hc0
 clear hr0 hc0
 have H : (if (l0.length : Int) > 40 then (some true) else ((raddlelaw03_Long.f k l0).bind fun t316 => (some t316))) = some r := h
 clear h
 by_cases c2 : (l0.length : Int) > 40
 ·
  rw [if_pos c2] at H
  have c2b0 : decide (40 < (l0.length : Int)) = true := decide_eq_true c2
  have c2b1 : decide (40 < l0.length) = true := decide_eq_true z2_
  clear c2
  obtain rfl := Option.some.inj H
  go_enter Try.func52, Try.ntmps52
  go_wp2
  go_ret
  exact ⟨z3_, by repeat (first | exact Drawn0.refl _ | apply Drawn0.step)⟩
 ·
  rw [if_neg c2] at H
  have c2b0 : decide (40 < (l0.length : Int)) = false := decide_eq_false c2
  have c2b1 : decide (40 < l0.length) = false := decide_eq_false z2_
  clear c2
  replace H := Option.bind_eq_some_iff.mp H
  obtain ⟨t316, A30, H⟩ := H
  replace H : (some t316) = some r := H
  have A3 := mk_ A30
  clear A30
  obtain rfl := Option.some.inj H
  go_enter Try.func52, Try.ntmps52
  go_wp2_with (first | (go_at_call 91; (with_reducible refine (raddlelaw03_Long.calls k _ _ l0 t316 _ ?side1 ?side2 A3.out).mono ?_); (case side1 => repeat (first | exact HR0.out | (with_reducible refine C_alloc ?_ _) | (with_reducible refine C_drewN ?_ _) | (with_reducible refine C_drew ?_))); (case side2 => exact HC0.out); rintro e w' ⟨rfl, ⟨nd, rfl⟩⟩))
  go_ret
  exact ⟨z3_, by repeat (first | exact Drawn0.refl _ | apply Drawn0.step)⟩
end Go.Proofs.Ytcbfliajgopdaaa.PAll
end
