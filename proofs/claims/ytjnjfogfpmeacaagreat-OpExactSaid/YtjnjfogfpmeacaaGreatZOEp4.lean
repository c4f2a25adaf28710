-- Put together by a program of this session (wip/slice2.py) out of the seat's texts.
import Derived.Test.YtjnjfogfpmeacaaGreatZOEp3
import Derived.Laws.Strings
set_option maxHeartbeats 8000000
set_option maxRecDepth 100000
open Go.Proofs.YtjnjfogfpmeacaaGreatW Go.Proofs.YtjnjfogfpmeacaaGreat
section
namespace Go.Proofs.YtjnjfogfpmeacaaGreat.Plain
open Go.RowKit PAll PrintWords PrintLast PrintMore ZipT PrintWords.Kd PrintMore.Kd
set_option linter.unusedVariables false
set_option linter.unusedSimpArgs false
theorem same_l0 (a b : List Int) (hl : a.length = b.length) (m : List Int) : ∀ (k i : Nat), a.drop i = m → i + m.length ≤ 1000000 → m.length < k →
  cS.l0 k a b i = some (decide (m = b.drop i)) := by
 induction m with
 | nil =>
  intro k i h hi hk
  obtain ⟨k, rfl⟩ : ∃ m, k = m + 1 := ⟨k - 1, by omega⟩
  have := drop_end h
  simp only [cS.l0]
  rw [if_neg z3_, List.drop_eq_nil_of_le z3_]
  simp
 | cons x m ih =>
  intro k i h hi hk
  obtain ⟨k, rfl⟩ : ∃ m, k = m + 1 := ⟨k - 1, by omega⟩
  have hlt := drop_lt h
  have hltb : i < b.length := by omega
  simp only [List.length_cons] at hi hk
  have hb : b.drop i = b[i] :: b.drop (i + 1) := List.drop_eq_getElem_cons hltb
  simp only [cS.l0]
  rw [if_pos z3_, if_pos z3_, if_pos z3_, gB h, gB hb, hb]
  by_cases e : x = b[i]
  rotate_left
  ·
   rw [if_neg e]
   simp only [List.cons.injEq, e, false_and, decide_false]
  rw [if_pos e, w64 z3_ z3_]
  have := ih k (i + 1) (drop_tail h) z3_ z3_
  rw [show ((i : Int) + 1) = ((i + 1 : Nat) : Int) from rfl, this, e]
  simp only [List.cons.injEq, true_and]
theorem same_eq (k : Nat) (a b : List Int) (ha : a.length ≤ 900000) (hk : a.length + 2 ≤ k) : cS.f k a b = some (decide (a = b)) := by
 unfold cS.f
 by_cases hl : a.length = b.length
 ·
  rw [if_pos z3_]
  have := same_l0 a b hl a k 0 rfl z3_ z3_
  simpa using this
 rw [if_neg z3_]
 have : a ≠ b := fun e => hl (by rw [e])
 simp [this]
theorem val_ge (l : List Int) : ∀ a : Int, 0 ≤ a → Bytes l → a * 256 ^ l.length ≤ val a l := by
 induction l with
 | nil => intro a h _; simp [val]
 | cons b l ih =>
  intro a h hb
  have h1 := hb.head
  unfold Byte at h1
  have h2 := ih (a * 256 + b) z3_ hb.tail
  have h3 := pow_pos l.length
  rw [val]
  refine Int.le_trans ?_ h2
  rw [List.length_cons, Int.pow_succ, Int.mul_comm ((256 : Int) ^ l.length), ← Int.mul_assoc]
  exact Int.mul_le_mul_of_nonneg_right z3_ z3_
theorem jA (b : ByteArray) : b.toList = b.data.toList := Go.ByteArray.toList_eq b
end Go.Proofs.YtjnjfogfpmeacaaGreat.Plain
end
section
namespace Go.Proofs.YtjnjfogfpmeacaaGreat.Plain
open Go.RowKit PAll PrintWords PrintLast PrintMore ZipT PrintWords.Kd PrintMore.Kd
set_option linter.unusedVariables false
set_option linter.unusedSimpArgs false
theorem fZ (a b c : Int) : aT.f a b c = some (decide (b ≤ a ∧ a ≤ c)) := by
 unfold aT.f
 by_cases h : a ≥ b
 ·
  rw [if_pos h]; simp [h]
 rw [if_neg h]; simp [h] <;> omega
theorem be_l0 (n : Int) (i : Nat) : ∀ (k : Nat) (out : List Int), i ≤ 8 → out.length + i ≤ 1000000 → i < k → bB.l0 k n out ((i : Int) - 1) = some (out ++ big n i) := by
 induction i with
 | zero =>
  intro k out _ _ hk
  obtain ⟨k, rfl⟩ : ∃ m, k = m + 1 := ⟨k - 1, by omega⟩
  simp only [bB.l0]
  rw [if_neg z3_]
  simp [big]
 | succ i ih =>
  intro k out hi ho hk
  obtain ⟨k, rfl⟩ : ∃ m, k = m + 1 := ⟨k - 1, by omega⟩
  simp only [bB.l0]
  have e : (((i + 1 : Nat) : Int) - 1) = (i : Int) := by omega
  rw [e, if_pos z3_, w64 z3_ z3_, wu64 z3_ z3_, if_pos z3_, if_pos z3_, shr_bytes n i z3_, w64 z3_ z3_, ih k _ z3_ (by simp; omega) z3_]
  simp [big]
theorem be_eq (k : Nat) (n : Int) (s : Nat) (h : s ≤ 8) (hk : 10 ≤ k) : bB.f k n s = some (big n s) := by
 unfold bB.f
 rw [w64 z3_ z3_]
 simpa using be_l0 n s k [] h (by simp; omega) z3_
theorem rintB_eq (k : Nat) (n : Int) (h0 : -1152921504606846976 ≤ n) (h1 : n ≤ 1152921504606846976) (hk : 20 ≤ k) : dM.f k n = some (intB n) := by
 unfold dM.f intB
 have e8 : ((8 : Nat) : Int) = 8 := rfl
 by_cases h : n < 0
 ·
  rw [if_pos h, if_pos h, Option.bind_some, w64 z3_ z3_, ← e8, be_eq k _ 8 z3_ z3_, Option.bind_some, if_pos (by simp [cD])]
  simp
 rw [if_neg h, if_neg h, Option.bind_some, ← e8, be_eq k _ 8 z3_ z3_, Option.bind_some, if_pos (by simp [cD])]
 simp
theorem iO {l : List Int} {i j : Nat} (hij : i < j) (hj : j ≤ l.length) : sub l i j = rd l (i : Int) :: sub l (i + 1) j := by
 unfold sub
 have hi : i < (l.take j).length := by simp; omega
 rw [List.drop_eq_getElem_cons hi]
 congr 1
 show _ = l.getD ((i : Int).toNat) 0
 rw [Int.toNat_natCast, List.getElem_take, List.getD_eq_getElem?_getD, List.getElem?_eq_getElem z3_]
 rfl
end Go.Proofs.YtjnjfogfpmeacaaGreat.Plain
end
section
namespace Go.Proofs.YtjnjfogfpmeacaaGreat.PAll
open Go.RowKit PrintWords PrintLast PrintMore ZipT PrintWords.Kd PrintMore.Kd
attribute [local go_sem] eP eN fD fA dS dT eO eK   -- for this text's walks alone
set_option linter.unusedVariables false
set_option linter.unusedSimpArgs false
def gF.f (a0_0 : Int) (a0_1 : Int) (a0_2 : ByteArray) (a1 : Int) : Option (Bool) := if a1 = 2 then ((bN.f a0_0 a0_1 a0_2).bind fun t257 => (if t257 = 0 then (if a0_0 = a1 then (some true) else (some (a0_0 == 1))) else (some false))) else (if a1 = 3 then ((bN.f a0_0 a0_1 a0_2).bind fun t258 => (if t258 = 0 then (if a0_0 = a1 then (some true) else (some (a0_0 == 1))) else (some false))) else (if a1 = 4 then ((bN.f a0_0 a0_1 a0_2).bind fun t259 => (if t259 = 0 then (if a0_0 = a1 then (some true) else (some (a0_0 == 1))) else (some false))) else (some false)))
theorem gF.calls (a0_0 : Int) (a0_1 : Int) (a0_2 : ByteArray) (a1 : Int) (r : Bool) (w : World) (h : gF.f a0_0 a0_1 a0_2 a1 = some r) :
  Calls Tryz.prog 103 #[.agg #[.int .i64 a0_0, .int .i64 a0_1, .string a0_2], .int .i64 a1] w fun e w' => e = .returned (.bool r) ∧ Below w.heap.size w w' := by
 have hu102 := Tryz.underlying102
 have HB := mk_ (Below.refl w.heap.size w)
 have H : (if a1 = 2 then ((bN.f a0_0 a0_1 a0_2).bind fun t257 => (if t257 = 0 then (if a0_0 = a1 then (some true) else (some (a0_0 == 1))) else (some false))) else (if a1 = 3 then ((bN.f a0_0 a0_1 a0_2).bind fun t258 => (if t258 = 0 then (if a0_0 = a1 then (some true) else (some (a0_0 == 1))) else (some false))) else (if a1 = 4 then ((bN.f a0_0 a0_1 a0_2).bind fun t259 => (if t259 = 0 then (if a0_0 = a1 then (some true) else (some (a0_0 == 1))) else (some false))) else (some false)))) = some r := h
 clear h
 by_cases c3 : a1 = 2
 ·
  rw [if_pos c3] at H
  have c3b0 : (a1 == 2) = true := beq_iff_eq.mpr c3
  have c3b1 : (a1 != 2) = false := bne_eq_false_iff_eq.mpr c3
  clear c3
  obtain ⟨t257, A4, H⟩ := Option.bind_eq_some_iff.mp H
  replace A4 := mk_ A4
  by_cases c5 : t257 = 0
  rotate_left
  ·
   rw [if_neg c5] at H
   have c5b0 : (t257 == 0) = false := beq_eq_false_iff_ne.mpr c5
   have c5b1 : (t257 != 0) = true := bne_iff_ne.mpr c5
   obtain rfl := Option.some.inj H
   go_enter Tryz.func103, Tryz.ntmps103
   go_wp2_with (first | ((with_reducible refine aQ (N := 2) rfl ?_); refine aN ?hg (N := 2) ?hd (cs := #[.int .i64 a0_0, .int .i64 a0_1, .string a0_2]) (t := 102) ?hr ?_; (case hd => rfl); (case hg => rfl); (case hr => first | (go_simp; done) | (go_simp; rfl)); intro gb256 hg w15 hbox hb; have n0_ := mk_ (aC (Short.hB HB) hb); have n1_ := mk_ (hbox); have n2_ := mk_ ((by rw [hg]; exact (aA (Short.hB HB)) : w.heap.size ≤ gb256)); have n3_ := mk_ ((by rw [hg]; exact (aA (Short.hB HB)) : w.heap.size ≤ gb256)); clear HB; revert n0_ n1_ n2_ n3_; intro HB BK256 GW256 GE256; clear hb hbox hg; obtain ⟨hcz_0, hcz_1, hcz_2, hfz_0, hfz_1, hfz_2⟩ := Short.c3 BK256.out) | (go_at_call 98; (with_reducible refine (bN.calls a0_0 a0_1 a0_2 t257 _ A4.out).mono ?_); rintro e w17 ⟨rfl, hb⟩; have n0_ := mk_ (bB_ BK256 hb); have n1_ := mk_ (aC (Short.hB HB) hb); clear BK256 HB; revert n0_ n1_; intro BK256 HB; (try clear hb); (try clear hb2); (try clear hk); (try clear hi)))
   go_ret
   exact ⟨q0, Short.hB HB⟩
  rw [if_pos c5] at H
  have c5b0 : (t257 == 0) = true := beq_iff_eq.mpr c5
  have c5b1 : (t257 != 0) = false := bne_eq_false_iff_eq.mpr c5
  clear c5
  by_cases c6 : a0_0 = a1
  rotate_left
  ·
   rw [if_neg c6] at H
   have c6b0 : (a0_0 == a1) = false := beq_eq_false_iff_ne.mpr c6
   have c6b1 : (a0_0 != a1) = true := bne_iff_ne.mpr c6
   obtain rfl := Option.some.inj H
   go_enter Tryz.func103, Tryz.ntmps103
   go_wp2_with (first | ((with_reducible refine aQ (N := 2) rfl ?_); refine aN ?hg (N := 2) ?hd (cs := #[.int .i64 a0_0, .int .i64 a0_1, .string a0_2]) (t := 102) ?hr ?_; (case hd => rfl); (case hg => rfl); (case hr => first | (go_simp; done) | (go_simp; rfl)); intro gb256 hg w11 hbox hb; have n0_ := mk_ (aC (Short.hB HB) hb); have n1_ := mk_ (hbox); have n2_ := mk_ ((by rw [hg]; exact (aA (Short.hB HB)) : w.heap.size ≤ gb256)); have n3_ := mk_ ((by rw [hg]; exact (aA (Short.hB HB)) : w.heap.size ≤ gb256)); clear HB; revert n0_ n1_ n2_ n3_; intro HB BK256 GW256 GE256; clear hb hbox hg; obtain ⟨hcz_0, hcz_1, hcz_2, hfz_0, hfz_1, hfz_2⟩ := Short.c3 BK256.out) | (go_at_call 98; (with_reducible refine (bN.calls a0_0 a0_1 a0_2 t257 _ A4.out).mono ?_); rintro e w13 ⟨rfl, hb⟩; have n0_ := mk_ (bB_ BK256 hb); have n1_ := mk_ (aC (Short.hB HB) hb); clear BK256 HB; revert n0_ n1_; intro BK256 HB; (try clear hb); (try clear hb2); (try clear hk); (try clear hi); obtain ⟨hcz_0, hcz_1, hcz_2, hfz_0, hfz_1, hfz_2⟩ := Short.c3 BK256.out))
   go_ret
   exact ⟨q0, Short.hB HB⟩
  rw [if_pos c6] at H
  have c6b0 : (a0_0 == a1) = true := beq_iff_eq.mpr c6
  have c6b1 : (a0_0 != a1) = false := bne_eq_false_iff_eq.mpr c6
  clear c6
  obtain rfl := Option.some.inj H
  go_enter Tryz.func103, Tryz.ntmps103
  go_wp2_with (first | ((with_reducible refine aQ (N := 2) rfl ?_); refine aN ?hg (N := 2) ?hd (cs := #[.int .i64 a0_0, .int .i64 a0_1, .string a0_2]) (t := 102) ?hr ?_; (case hd => rfl); (case hg => rfl); (case hr => first | (go_simp; done) | (go_simp; rfl)); intro gb256 hg w7 hbox hb; have n0_ := mk_ (aC (Short.hB HB) hb); have n1_ := mk_ (hbox); have n2_ := mk_ ((by rw [hg]; exact (aA (Short.hB HB)) : w.heap.size ≤ gb256)); have n3_ := mk_ ((by rw [hg]; exact (aA (Short.hB HB)) : w.heap.size ≤ gb256)); clear HB; revert n0_ n1_ n2_ n3_; intro HB BK256 GW256 GE256; clear hb hbox hg; obtain ⟨hcz_0, hcz_1, hcz_2, hfz_0, hfz_1, hfz_2⟩ := Short.c3 BK256.out) | (go_at_call 98; (with_reducible refine (bN.calls a0_0 a0_1 a0_2 t257 _ A4.out).mono ?_); rintro e w9 ⟨rfl, hb⟩; have n0_ := mk_ (bB_ BK256 hb); have n1_ := mk_ (aC (Short.hB HB) hb); clear BK256 HB; revert n0_ n1_; intro BK256 HB; (try clear hb); (try clear hb2); (try clear hk); (try clear hi); obtain ⟨hcz_0, hcz_1, hcz_2, hfz_0, hfz_1, hfz_2⟩ := Short.c3 BK256.out))
  go_ret
  exact ⟨q0, Short.hB HB⟩
 rw [if_neg c3] at H
 have c3b0 : (a1 == 2) = false := beq_eq_false_iff_ne.mpr c3
 have c3b1 : (a1 != 2) = true := bne_iff_ne.mpr c3
 by_cases c18 : a1 = 3
 ·
  rw [if_pos c18] at H
  have c18b0 : (a1 == 3) = true := beq_iff_eq.mpr c18
  have c18b1 : (a1 != 3) = false := bne_eq_false_iff_eq.mpr c18
  clear c18
  obtain ⟨t258, A19, H⟩ := Option.bind_eq_some_iff.mp H
  replace A19 := mk_ A19
  by_cases c20 : t258 = 0
  rotate_left
  ·
   rw [if_neg c20] at H
   have c20b0 : (t258 == 0) = false := beq_eq_false_iff_ne.mpr c20
   have c20b1 : (t258 != 0) = true := bne_iff_ne.mpr c20
   obtain rfl := Option.some.inj H
   go_enter Tryz.func103, Tryz.ntmps103
   go_wp2_with (first | ((with_reducible refine aQ (N := 2) rfl ?_); refine aN ?hg (N := 2) ?hd (cs := #[.int .i64 a0_0, .int .i64 a0_1, .string a0_2]) (t := 102) ?hr ?_; (case hd => rfl); (case hg => rfl); (case hr => first | (go_simp; done) | (go_simp; rfl)); intro gb256 hg w30 hbox hb; have n0_ := mk_ (aC (Short.hB HB) hb); have n1_ := mk_ (hbox); have n2_ := mk_ ((by rw [hg]; exact (aA (Short.hB HB)) : w.heap.size ≤ gb256)); have n3_ := mk_ ((by rw [hg]; exact (aA (Short.hB HB)) : w.heap.size ≤ gb256)); clear HB; revert n0_ n1_ n2_ n3_; intro HB BK256 GW256 GE256; clear hb hbox hg; obtain ⟨hcz_0, hcz_1, hcz_2, hfz_0, hfz_1, hfz_2⟩ := Short.c3 BK256.out) | (go_at_call 98; (with_reducible refine (bN.calls a0_0 a0_1 a0_2 t258 _ A19.out).mono ?_); rintro e w32 ⟨rfl, hb⟩; have n0_ := mk_ (bB_ BK256 hb); have n1_ := mk_ (aC (Short.hB HB) hb); clear BK256 HB; revert n0_ n1_; intro BK256 HB; (try clear hb); (try clear hb2); (try clear hk); (try clear hi)))
   go_ret
   exact ⟨q0, Short.hB HB⟩
  rw [if_pos c20] at H
  have c20b0 : (t258 == 0) = true := beq_iff_eq.mpr c20
  have c20b1 : (t258 != 0) = false := bne_eq_false_iff_eq.mpr c20
  clear c20
  by_cases c21 : a0_0 = a1
  rotate_left
  ·
   rw [if_neg c21] at H
   have c21b0 : (a0_0 == a1) = false := beq_eq_false_iff_ne.mpr c21
   have c21b1 : (a0_0 != a1) = true := bne_iff_ne.mpr c21
   obtain rfl := Option.some.inj H
   go_enter Tryz.func103, Tryz.ntmps103
   go_wp2_with (first | ((with_reducible refine aQ (N := 2) rfl ?_); refine aN ?hg (N := 2) ?hd (cs := #[.int .i64 a0_0, .int .i64 a0_1, .string a0_2]) (t := 102) ?hr ?_; (case hd => rfl); (case hg => rfl); (case hr => first | (go_simp; done) | (go_simp; rfl)); intro gb256 hg w26 hbox hb; have n0_ := mk_ (aC (Short.hB HB) hb); have n1_ := mk_ (hbox); have n2_ := mk_ ((by rw [hg]; exact (aA (Short.hB HB)) : w.heap.size ≤ gb256)); have n3_ := mk_ ((by rw [hg]; exact (aA (Short.hB HB)) : w.heap.size ≤ gb256)); clear HB; revert n0_ n1_ n2_ n3_; intro HB BK256 GW256 GE256; clear hb hbox hg; obtain ⟨hcz_0, hcz_1, hcz_2, hfz_0, hfz_1, hfz_2⟩ := Short.c3 BK256.out) | (go_at_call 98; (with_reducible refine (bN.calls a0_0 a0_1 a0_2 t258 _ A19.out).mono ?_); rintro e w28 ⟨rfl, hb⟩; have n0_ := mk_ (bB_ BK256 hb); have n1_ := mk_ (aC (Short.hB HB) hb); clear BK256 HB; revert n0_ n1_; intro BK256 HB; (try clear hb); (try clear hb2); (try clear hk); (try clear hi); obtain ⟨hcz_0, hcz_1, hcz_2, hfz_0, hfz_1, hfz_2⟩ := Short.c3 BK256.out))
   go_ret
   exact ⟨q0, Short.hB HB⟩
  rw [if_pos c21] at H
  have c21b0 : (a0_0 == a1) = true := beq_iff_eq.mpr c21
  have c21b1 : (a0_0 != a1) = false := bne_eq_false_iff_eq.mpr c21
  clear c21
  obtain rfl := Option.some.inj H
  go_enter Tryz.func103, Tryz.ntmps103
  go_wp2_with (first | ((with_reducible refine aQ (N := 2) rfl ?_); refine aN ?hg (N := 2) ?hd (cs := #[.int .i64 a0_0, .int .i64 a0_1, .string a0_2]) (t := 102) ?hr ?_; (case hd => rfl); (case hg => rfl); (case hr => first | (go_simp; done) | (go_simp; rfl)); intro gb256 hg w22 hbox hb; have n0_ := mk_ (aC (Short.hB HB) hb); have n1_ := mk_ (hbox); have n2_ := mk_ ((by rw [hg]; exact (aA (Short.hB HB)) : w.heap.size ≤ gb256)); have n3_ := mk_ ((by rw [hg]; exact (aA (Short.hB HB)) : w.heap.size ≤ gb256)); clear HB; revert n0_ n1_ n2_ n3_; intro HB BK256 GW256 GE256; clear hb hbox hg; obtain ⟨hcz_0, hcz_1, hcz_2, hfz_0, hfz_1, hfz_2⟩ := Short.c3 BK256.out) | (go_at_call 98; (with_reducible refine (bN.calls a0_0 a0_1 a0_2 t258 _ A19.out).mono ?_); rintro e w24 ⟨rfl, hb⟩; have n0_ := mk_ (bB_ BK256 hb); have n1_ := mk_ (aC (Short.hB HB) hb); clear BK256 HB; revert n0_ n1_; intro BK256 HB; (try clear hb); (try clear hb2); (try clear hk); (try clear hi); obtain ⟨hcz_0, hcz_1, hcz_2, hfz_0, hfz_1, hfz_2⟩ := Short.c3 BK256.out))
  go_ret
  exact ⟨q0, Short.hB HB⟩
 rw [if_neg c18] at H
 have c18b0 : (a1 == 3) = false := beq_eq_false_iff_ne.mpr c18
 have c18b1 : (a1 != 3) = true := bne_iff_ne.mpr c18
 by_cases c33 : a1 = 4
 rotate_left
 ·
  rw [if_neg c33] at H
  have c33b0 : (a1 == 4) = false := beq_eq_false_iff_ne.mpr c33
  have c33b1 : (a1 != 4) = true := bne_iff_ne.mpr c33
  obtain rfl := Option.some.inj H
  go_enter Tryz.func103, Tryz.ntmps103
  go_wp2_with (first | ((with_reducible refine aQ (N := 2) rfl ?_); refine aN ?hg (N := 2) ?hd (cs := #[.int .i64 a0_0, .int .i64 a0_1, .string a0_2]) (t := 102) ?hr ?_; (case hd => rfl); (case hg => rfl); (case hr => first | (go_simp; done) | (go_simp; rfl)); intro gb256 hg w48 hbox hb; have n0_ := mk_ (aC (Short.hB HB) hb); have n1_ := mk_ (hbox); have n2_ := mk_ ((by rw [hg]; exact (aA (Short.hB HB)) : w.heap.size ≤ gb256)); have n3_ := mk_ ((by rw [hg]; exact (aA (Short.hB HB)) : w.heap.size ≤ gb256)); clear HB; revert n0_ n1_ n2_ n3_; intro HB BK256 GW256 GE256; clear hb hbox hg))
  go_ret
  exact ⟨q0, Short.hB HB⟩
 rw [if_pos c33] at H
 have c33b0 : (a1 == 4) = true := beq_iff_eq.mpr c33
 have c33b1 : (a1 != 4) = false := bne_eq_false_iff_eq.mpr c33
 clear c33
 obtain ⟨t259, A34, H⟩ := Option.bind_eq_some_iff.mp H
 replace A34 := mk_ A34
 by_cases c35 : t259 = 0
 rotate_left
 ·
  rw [if_neg c35] at H
  have c35b0 : (t259 == 0) = false := beq_eq_false_iff_ne.mpr c35
  have c35b1 : (t259 != 0) = true := bne_iff_ne.mpr c35
  obtain rfl := Option.some.inj H
  go_enter Tryz.func103, Tryz.ntmps103
  go_wp2_with (first | ((with_reducible refine aQ (N := 2) rfl ?_); refine aN ?hg (N := 2) ?hd (cs := #[.int .i64 a0_0, .int .i64 a0_1, .string a0_2]) (t := 102) ?hr ?_; (case hd => rfl); (case hg => rfl); (case hr => first | (go_simp; done) | (go_simp; rfl)); intro gb256 hg w45 hbox hb; have n0_ := mk_ (aC (Short.hB HB) hb); have n1_ := mk_ (hbox); have n2_ := mk_ ((by rw [hg]; exact (aA (Short.hB HB)) : w.heap.size ≤ gb256)); have n3_ := mk_ ((by rw [hg]; exact (aA (Short.hB HB)) : w.heap.size ≤ gb256)); clear HB; revert n0_ n1_ n2_ n3_; intro HB BK256 GW256 GE256; clear hb hbox hg; obtain ⟨hcz_0, hcz_1, hcz_2, hfz_0, hfz_1, hfz_2⟩ := Short.c3 BK256.out) | (go_at_call 98; (with_reducible refine (bN.calls a0_0 a0_1 a0_2 t259 _ A34.out).mono ?_); rintro e w47 ⟨rfl, hb⟩; have n0_ := mk_ (bB_ BK256 hb); have n1_ := mk_ (aC (Short.hB HB) hb); clear BK256 HB; revert n0_ n1_; intro BK256 HB; (try clear hb); (try clear hb2); (try clear hk); (try clear hi)))
  go_ret
  exact ⟨q0, Short.hB HB⟩
 rw [if_pos c35] at H
 have c35b0 : (t259 == 0) = true := beq_iff_eq.mpr c35
 have c35b1 : (t259 != 0) = false := bne_eq_false_iff_eq.mpr c35
 clear c35
 by_cases c36 : a0_0 = a1
 rotate_left
 ·
  rw [if_neg c36] at H
  have c36b0 : (a0_0 == a1) = false := beq_eq_false_iff_ne.mpr c36
  have c36b1 : (a0_0 != a1) = true := bne_iff_ne.mpr c36
  obtain rfl := Option.some.inj H
  go_enter Tryz.func103, Tryz.ntmps103
  go_wp2_with (first | ((with_reducible refine aQ (N := 2) rfl ?_); refine aN ?hg (N := 2) ?hd (cs := #[.int .i64 a0_0, .int .i64 a0_1, .string a0_2]) (t := 102) ?hr ?_; (case hd => rfl); (case hg => rfl); (case hr => first | (go_simp; done) | (go_simp; rfl)); intro gb256 hg w41 hbox hb; have n0_ := mk_ (aC (Short.hB HB) hb); have n1_ := mk_ (hbox); have n2_ := mk_ ((by rw [hg]; exact (aA (Short.hB HB)) : w.heap.size ≤ gb256)); have n3_ := mk_ ((by rw [hg]; exact (aA (Short.hB HB)) : w.heap.size ≤ gb256)); clear HB; revert n0_ n1_ n2_ n3_; intro HB BK256 GW256 GE256; clear hb hbox hg; obtain ⟨hcz_0, hcz_1, hcz_2, hfz_0, hfz_1, hfz_2⟩ := Short.c3 BK256.out) | (go_at_call 98; (with_reducible refine (bN.calls a0_0 a0_1 a0_2 t259 _ A34.out).mono ?_); rintro e w43 ⟨rfl, hb⟩; have n0_ := mk_ (bB_ BK256 hb); have n1_ := mk_ (aC (Short.hB HB) hb); clear BK256 HB; revert n0_ n1_; intro BK256 HB; (try clear hb); (try clear hb2); (try clear hk); (try clear hi); obtain ⟨hcz_0, hcz_1, hcz_2, hfz_0, hfz_1, hfz_2⟩ := Short.c3 BK256.out))
  go_ret
  exact ⟨q0, Short.hB HB⟩
 rw [if_pos c36] at H
 have c36b0 : (a0_0 == a1) = true := beq_iff_eq.mpr c36
 have c36b1 : (a0_0 != a1) = false := bne_eq_false_iff_eq.mpr c36
 clear c36
 obtain rfl := Option.some.inj H
 go_enter Tryz.func103, Tryz.ntmps103
 go_wp2_with (first | ((with_reducible refine aQ (N := 2) rfl ?_); refine aN ?hg (N := 2) ?hd (cs := #[.int .i64 a0_0, .int .i64 a0_1, .string a0_2]) (t := 102) ?hr ?_; (case hd => rfl); (case hg => rfl); (case hr => first | (go_simp; done) | (go_simp; rfl)); intro gb256 hg w37 hbox hb; have n0_ := mk_ (aC (Short.hB HB) hb); have n1_ := mk_ (hbox); have n2_ := mk_ ((by rw [hg]; exact (aA (Short.hB HB)) : w.heap.size ≤ gb256)); have n3_ := mk_ ((by rw [hg]; exact (aA (Short.hB HB)) : w.heap.size ≤ gb256)); clear HB; revert n0_ n1_ n2_ n3_; intro HB BK256 GW256 GE256; clear hb hbox hg; obtain ⟨hcz_0, hcz_1, hcz_2, hfz_0, hfz_1, hfz_2⟩ := Short.c3 BK256.out) | (go_at_call 98; (with_reducible refine (bN.calls a0_0 a0_1 a0_2 t259 _ A34.out).mono ?_); rintro e w39 ⟨rfl, hb⟩; have n0_ := mk_ (bB_ BK256 hb); have n1_ := mk_ (aC (Short.hB HB) hb); clear BK256 HB; revert n0_ n1_; intro BK256 HB; (try clear hb); (try clear hb2); (try clear hk); (try clear hi); obtain ⟨hcz_0, hcz_1, hcz_2, hfz_0, hfz_1, hfz_2⟩ := Short.c3 BK256.out))
 go_ret
 exact ⟨q0, Short.hB HB⟩
def bI.l0 : Nat → List Int → List (S102) → Int → Int → Option (Bool)
 | 0, _, _, _, _ => none
 | k + 1, x1, x15, x16, x17 => if x17 < x16 then (if 0 ≤ x17 then (if x17 < (x15.length : Int) then (if x17 < (x1.length : Int) then ((gF.f ((aK x15 x17).f0) ((aK x15 x17).f1) ((aK x15 x17).f2) (rd x1 x17)).bind fun t263 => (if t263 = true then (bI.l0 k x1 x15 x16 (wrap64 (x17 + 1))) else (some false))) else (none)) else (none)) else (none)) else (some true)
def bI.f (k : Nat) (l0 : List (S102)) (l1 : List Int) (a2 : Unit) : Option (Bool) := if (l0.length : Int) = (l1.length : Int) then (bI.l0 k l1 l0 (l0.length : Int) 0) else (some false)
theorem bI.calls (k : Nat) (A0 : Option Addr) (c0 : Nat) (l0 : List (S102)) (A1 : Option Addr) (c1 : Nat) (l1 : List Int) (a2 : Unit) (r : Bool) (w : World) (hr0 : Kd.C k102 w A0 l0.length l0) (hc0 : l0.length ≤ c0) (hr1 : Kd.C (Kd.int .i64) w A1 l1.length l1) (hc1 : l1.length ≤ c1) (h : bI.f k l0 l1 a2 = some r) :
  Calls Tryz.prog 102 #[.slice A0 l0.length c0, .slice A1 l1.length c1, .func (.func 103) #[] #[]] w fun e w' => e = .returned (.bool r) ∧ Below w.heap.size w w' := by
 have hu102 := Tryz.underlying102
 have HR0 := mk_ hr0
 have HC0 := mk_ hc0
 clear hr0 hc0
 have HR1 := mk_ hr1
 have HC1 := mk_ hc1
 clear hr1 hc1
 have HB := mk_ (Below.refl w.heap.size w)
 have H : (if (l0.length : Int) = (l1.length : Int) then (bI.l0 k l1 l0 (l0.length : Int) 0) else (some false)) = some r := h
 clear h
 by_cases c4 : (l0.length : Int) = (l1.length : Int)
 rotate_left
 ·
  rw [if_neg c4] at H
  have c4b0 : ((l0.length : Int) == (l1.length : Int)) = false := beq_eq_false_iff_ne.mpr c4
  have c4b1 : ((l0.length : Int) != (l1.length : Int)) = true := bne_iff_ne.mpr c4
  have c4b2 : (l0.length == l1.length) = false := by first | simpa using c4 | (simp at c4 ⊢; omega)
  obtain rfl := Option.some.inj H
  go_enter Tryz.func102, Tryz.ntmps102
  go_wp2
  go_ret
  exact ⟨q0, Short.hB HB⟩
 rw [if_pos c4] at H
 have c4b0 : ((l0.length : Int) == (l1.length : Int)) = true := beq_iff_eq.mpr c4
 have c4b1 : ((l0.length : Int) != (l1.length : Int)) = false := bne_eq_false_iff_eq.mpr c4
 have c4b2 : (l0.length == l1.length) = true := by first | simpa using c4 | (simp at c4 ⊢; omega)
 clear c4
 have H' := mk_ H
 clear H
 go_enter Tryz.func102, Tryz.ntmps102
 go_wp2
 go_loopg [17] k (fun kq v17 w' => ∃ (x17_1 : Int), v17 = .int .i64 x17_1 ∧ Aside0 (bI.l0 kq l1 l0 (l0.length : Int) x17_1 = some r) ∧ Aside0 (kq ≤ k) ∧ Aside0 (Below w.heap.size w w'))
 case atStart => exact ⟨(0), z4_, H', ⟨Nat.le_refl _⟩, ⟨Short.hB HB⟩⟩
 case round =>
  clear H'
  try clear c1
  try clear p2
  try clear c4
  try clear c4b0
  try clear c4b1
  try clear c4b2
  obtain ⟨x17_1, rfl, HA, HK1, HB⟩ := hrel
  cases gk with
  | zero => exact absurd HA.out (by simp [bI.l0])
  | succ k1 =>
   have H := HA.out
   clear HA
   simp only [bI.l0] at H
   by_cases c5 : x17_1 < (l0.length : Int)
   rotate_left
   ·
    rw [if_neg c5] at H
    have c5b0 : decide (x17_1 < (l0.length : Int)) = false := decide_eq_false c5
    clear c5
    obtain rfl := Option.some.inj H
    go_wp2
    go_ret
    exact ⟨q0, Short.hB HB⟩
   rw [if_pos c5] at H
   have c5b0 : decide (x17_1 < (l0.length : Int)) = true := decide_eq_true c5
   clear c5
   by_cases c6 : 0 ≤ x17_1
   rotate_left
   ·
    rw [if_neg c6] at H
    exact absurd H z6_
   rw [if_pos c6] at H
   have c6b0 : decide (0 ≤ x17_1) = true := decide_eq_true c6
   clear c6
   by_cases c7 : x17_1 < (l0.length : Int)
   rotate_left
   ·
    rw [if_neg c7] at H
    exact absurd H z6_
   rw [if_pos c7] at H
   have c7b0 : decide (x17_1 < (l0.length : Int)) = true := decide_eq_true c7
   clear c7
   by_cases c8 : x17_1 < (l1.length : Int)
   rotate_left
   ·
    rw [if_neg c8] at H
    exact absurd H z6_
   rw [if_pos c8] at H
   have c8b0 : decide (x17_1 < (l1.length : Int)) = true := decide_eq_true c8
   clear c8
   obtain ⟨t263, A9, H⟩ := Option.bind_eq_some_iff.mp H
   replace A9 := mk_ A9
   by_cases c10 : t263 = true
   rotate_left
   ·
    replace c10 := Bool.eq_false_iff.mpr c10
    subst c10
    rw [if_neg (show ¬ (false = true) by decide)] at H
    obtain rfl := Option.some.inj H
    have p260 : 0 ≤ (x17_1 : Int) := of_decide_eq_true z1_
    have q260 : x17_1 < (l0.length : Int) := of_decide_eq_true z1_
    obtain ⟨ad260, e260, hx260_0, hx260_1, hx260_2⟩ := fK HR0.out x17_1 p260 q260
    cases e260
    replace hx260_0 := up_ HB hx260_0
    replace hx260_1 := up_ HB hx260_1
    replace hx260_2 := up_ HB hx260_2
    replace p260 := eq_true p260
    replace q260 := eq_true q260
    go_wp2_with (first | ((with_reducible refine aQ (N := 8) rfl ?_); refine aN ?hg (N := 8) ?hd (cs := #[.int .i64 0, .int .i64 0, .string (⟨#[]⟩ : ByteArray)]) (t := 102) ?hr ?_; (case hd => rfl); (case hg => rfl); (case hr => first | (go_simp; done) | (go_simp; rfl)); intro gb261 hg w14 hbox hb; have n0_ := mk_ (aC (Short.hB HB) hb); have n1_ := mk_ (hbox); have n2_ := mk_ ((by rw [hg]; exact (aA (Short.hB HB)) : w.heap.size ≤ gb261)); have n3_ := mk_ ((by rw [hg]; exact (aA (Short.hB HB)) : w.heap.size ≤ gb261)); clear HB; revert n0_ n1_ n2_ n3_; intro HB BK261 GW261 GE261; clear hb hbox hg; obtain ⟨hcz_0, hcz_1, hcz_2, hfz_0, hfz_1, hfz_2⟩ := Short.c3 BK261.out; have p262 : 0 ≤ (x17_1 : Int) := of_decide_eq_true z1_; have q262 : x17_1 < (l1.length : Int) := of_decide_eq_true z1_; obtain ⟨ad262, e262, hx262_0⟩ := Kd.at_int HR1.out x17_1 p262 q262; cases e262; have hn262_0 : ad262.block ≠ gb261 := Nat.ne_of_lt (Nat.lt_of_lt_of_le (by have := World.block_lt_of_cell? _ _ hx262_0; first | rwa [eD] at this | exact this) GW261.out); have hn262_1 : ad262.block ≠ gb261 := Nat.ne_of_lt (Nat.lt_of_lt_of_le (by have := World.block_lt_of_cell? _ _ hx262_0; first | rwa [eD] at this | exact this) GW261.out); have hn262_2 : ad262.block ≠ gb261 := Nat.ne_of_lt (Nat.lt_of_lt_of_le (by have := World.block_lt_of_cell? _ _ hx262_0; first | rwa [eD] at this | exact this) GW261.out); replace hx262_0 := up_ HB hx262_0; replace hx262_0 := (iM (p := ⟨gb261, 0, none⟩) (by first | (rw [eD]; exact hn262_0) | (show (Addr.add _ _).block ≠ _; rw [eD]; exact hn262_0) | exact hn262_0) (.int .i64 ((aK l0 x17_1).f0))).trans hx262_0; replace hx262_0 := (iM (p := ⟨gb261, 1, none⟩) (by first | (rw [eD]; exact hn262_1) | (show (Addr.add _ _).block ≠ _; rw [eD]; exact hn262_1) | exact hn262_1) (.int .i64 ((aK l0 x17_1).f1))).trans hx262_0; replace hx262_0 := (iM (p := ⟨gb261, 2, none⟩) (by first | (rw [eD]; exact hn262_2) | (show (Addr.add _ _).block ≠ _; rw [eD]; exact hn262_2) | exact hn262_2) (.string ((aK l0 x17_1).f2))).trans hx262_0; clear hn262_0 hn262_1 hn262_2; replace p262 := eq_true p262; replace q262 := eq_true q262) | ((first | ((with_reducible refine aE (f := 103) rfl ?_); refine Short.gL (some 29) Tryz.func103 #[.agg #[.int .i64 ((aK l0 x17_1).f0), .int .i64 ((aK l0 x17_1).f1), .string ((aK l0 x17_1).f2)], .int .i64 (rd l1 x17_1)] (h := ?_)) | ((with_reducible refine Go.Proofs.YtjnjfogfpmeacaaGreat.Steps.gate_any rfl ?_); refine Go.Proofs.YtjnjfogfpmeacaaGreat.Steps.goesV_ (some 29) rfl rfl Tryz.func103 z2_ rfl #[.agg #[.int .i64 ((aK l0 x17_1).f0), .int .i64 ((aK l0 x17_1).f1), .string ((aK l0 x17_1).f2)], .int .i64 (rd l1 x17_1)] rfl (by first | rfl | go_simp) z0_ ?_)); (with_reducible refine (gF.calls ((aK l0 x17_1).f0) ((aK l0 x17_1).f1) ((aK l0 x17_1).f2) (rd l1 x17_1) false _ A9.out).mono ?_); rintro e w16 ⟨rfl, hb⟩; refine ⟨_, rfl, ?_⟩; have n0_ := mk_ (bE (g := gb261) (o := .cells #[.int .i64 ((aK l0 x17_1).f0), .int .i64 ((aK l0 x17_1).f1), .string ((aK l0 x17_1).f2)] 102 (0, 0)) (by (with_reducible repeat (first | refine aH ?_ _ | refine aI ?_ | refine aG ?_ _)); refine bA (cs := #[.int .i64 ((aK l0 x17_1).f0), .int .i64 ((aK l0 x17_1).f1), .string (⟨#[]⟩ : ByteArray)]) ?_ 2 _ rfl; (with_reducible repeat (first | refine aH ?_ _ | refine aI ?_ | refine aG ?_ _)); refine bA (cs := #[.int .i64 ((aK l0 x17_1).f0), .int .i64 0, .string (⟨#[]⟩ : ByteArray)]) ?_ 1 _ rfl; (with_reducible repeat (first | refine aH ?_ _ | refine aI ?_ | refine aG ?_ _)); refine bA (cs := #[.int .i64 0, .int .i64 0, .string (⟨#[]⟩ : ByteArray)]) ?_ 0 _ rfl; (with_reducible repeat (first | refine aH ?_ _ | refine aI ?_ | refine aG ?_ _)); exact BK261.out) hb); have n1_ := mk_ (aC (Short.hB HB) hb); clear BK261 HB; revert n0_ n1_; intro BK261 HB; (try clear hb)))
    go_ret
    exact ⟨q0, Short.hB HB⟩
   subst c10
   rw [if_pos rfl] at H
   have H' := mk_ H
   clear H
   have p260 : 0 ≤ (x17_1 : Int) := of_decide_eq_true z1_
   have q260 : x17_1 < (l0.length : Int) := of_decide_eq_true z1_
   obtain ⟨ad260, e260, hx260_0, hx260_1, hx260_2⟩ := fK HR0.out x17_1 p260 q260
   cases e260
   replace hx260_0 := up_ HB hx260_0
   replace hx260_1 := up_ HB hx260_1
   replace hx260_2 := up_ HB hx260_2
   replace p260 := eq_true p260
   replace q260 := eq_true q260
   go_wp2_with (first | ((with_reducible refine aQ (N := 8) rfl ?_); refine aN ?hg (N := 8) ?hd (cs := #[.int .i64 0, .int .i64 0, .string (⟨#[]⟩ : ByteArray)]) (t := 102) ?hr ?_; (case hd => rfl); (case hg => rfl); (case hr => first | (go_simp; done) | (go_simp; rfl)); intro gb261 hg w11 hbox hb; have n0_ := mk_ (aC (Short.hB HB) hb); have n1_ := mk_ (hbox); have n2_ := mk_ ((by rw [hg]; exact (aA (Short.hB HB)) : w.heap.size ≤ gb261)); have n3_ := mk_ ((by rw [hg]; exact (aA (Short.hB HB)) : w.heap.size ≤ gb261)); clear HB; revert n0_ n1_ n2_ n3_; intro HB BK261 GW261 GE261; clear hb hbox hg; obtain ⟨hcz_0, hcz_1, hcz_2, hfz_0, hfz_1, hfz_2⟩ := Short.c3 BK261.out; have p262 : 0 ≤ (x17_1 : Int) := of_decide_eq_true z1_; have q262 : x17_1 < (l1.length : Int) := of_decide_eq_true z1_; obtain ⟨ad262, e262, hx262_0⟩ := Kd.at_int HR1.out x17_1 p262 q262; cases e262; have hn262_0 : ad262.block ≠ gb261 := Nat.ne_of_lt (Nat.lt_of_lt_of_le (by have := World.block_lt_of_cell? _ _ hx262_0; first | rwa [eD] at this | exact this) GW261.out); have hn262_1 : ad262.block ≠ gb261 := Nat.ne_of_lt (Nat.lt_of_lt_of_le (by have := World.block_lt_of_cell? _ _ hx262_0; first | rwa [eD] at this | exact this) GW261.out); have hn262_2 : ad262.block ≠ gb261 := Nat.ne_of_lt (Nat.lt_of_lt_of_le (by have := World.block_lt_of_cell? _ _ hx262_0; first | rwa [eD] at this | exact this) GW261.out); replace hx262_0 := up_ HB hx262_0; replace hx262_0 := (iM (p := ⟨gb261, 0, none⟩) (by first | (rw [eD]; exact hn262_0) | (show (Addr.add _ _).block ≠ _; rw [eD]; exact hn262_0) | exact hn262_0) (.int .i64 ((aK l0 x17_1).f0))).trans hx262_0; replace hx262_0 := (iM (p := ⟨gb261, 1, none⟩) (by first | (rw [eD]; exact hn262_1) | (show (Addr.add _ _).block ≠ _; rw [eD]; exact hn262_1) | exact hn262_1) (.int .i64 ((aK l0 x17_1).f1))).trans hx262_0; replace hx262_0 := (iM (p := ⟨gb261, 2, none⟩) (by first | (rw [eD]; exact hn262_2) | (show (Addr.add _ _).block ≠ _; rw [eD]; exact hn262_2) | exact hn262_2) (.string ((aK l0 x17_1).f2))).trans hx262_0; clear hn262_0 hn262_1 hn262_2; replace p262 := eq_true p262; replace q262 := eq_true q262) | ((first | ((with_reducible refine aE (f := 103) rfl ?_); refine Short.gL (some 29) Tryz.func103 #[.agg #[.int .i64 ((aK l0 x17_1).f0), .int .i64 ((aK l0 x17_1).f1), .string ((aK l0 x17_1).f2)], .int .i64 (rd l1 x17_1)] (h := ?_)) | ((with_reducible refine Go.Proofs.YtjnjfogfpmeacaaGreat.Steps.gate_any rfl ?_); refine Go.Proofs.YtjnjfogfpmeacaaGreat.Steps.goesV_ (some 29) rfl rfl Tryz.func103 z2_ rfl #[.agg #[.int .i64 ((aK l0 x17_1).f0), .int .i64 ((aK l0 x17_1).f1), .string ((aK l0 x17_1).f2)], .int .i64 (rd l1 x17_1)] rfl (by first | rfl | go_simp) z0_ ?_)); (with_reducible refine (gF.calls ((aK l0 x17_1).f0) ((aK l0 x17_1).f1) ((aK l0 x17_1).f2) (rd l1 x17_1) true _ A9.out).mono ?_); rintro e w13 ⟨rfl, hb⟩; refine ⟨_, rfl, ?_⟩; have n0_ := mk_ (bE (g := gb261) (o := .cells #[.int .i64 ((aK l0 x17_1).f0), .int .i64 ((aK l0 x17_1).f1), .string ((aK l0 x17_1).f2)] 102 (0, 0)) (by (with_reducible repeat (first | refine aH ?_ _ | refine aI ?_ | refine aG ?_ _)); refine bA (cs := #[.int .i64 ((aK l0 x17_1).f0), .int .i64 ((aK l0 x17_1).f1), .string (⟨#[]⟩ : ByteArray)]) ?_ 2 _ rfl; (with_reducible repeat (first | refine aH ?_ _ | refine aI ?_ | refine aG ?_ _)); refine bA (cs := #[.int .i64 ((aK l0 x17_1).f0), .int .i64 0, .string (⟨#[]⟩ : ByteArray)]) ?_ 1 _ rfl; (with_reducible repeat (first | refine aH ?_ _ | refine aI ?_ | refine aG ?_ _)); refine bA (cs := #[.int .i64 0, .int .i64 0, .string (⟨#[]⟩ : ByteArray)]) ?_ 0 _ rfl; (with_reducible repeat (first | refine aH ?_ _ | refine aI ?_ | refine aG ?_ _)); exact BK261.out) hb); have n1_ := mk_ (aC (Short.hB HB) hb); clear BK261 HB; revert n0_ n1_; intro BK261 HB; (try clear hb)))
   go_roundg k1
   case measure => have := HK1.out; omega
   case rel => exact ⟨(wrap64 (x17_1 + 1)), z4_, H', ⟨by have := HK1.out; omega⟩, ⟨Short.hB HB⟩⟩
def hH.f (k : Nat) (l0 : List (S102)) (l1 : List Int) : Option (Bool) := (bI.f k l0 l1 ()).bind fun t264 => (some t264)
theorem hH.calls (k : Nat) (A0 : Option Addr) (c0 : Nat) (l0 : List (S102)) (A1 : Option Addr) (c1 : Nat) (l1 : List Int) (r : Bool) (w : World) (hr0 : Kd.C k102 w A0 l0.length l0) (hc0 : l0.length ≤ c0) (hr1 : Kd.C (Kd.int .i64) w A1 l1.length l1) (hc1 : l1.length ≤ c1) (h : hH.f k l0 l1 = some r) :
  Calls Tryz.prog 85 #[.slice A0 l0.length c0, .slice A1 l1.length c1] w fun e w' => e = .returned (.bool r) ∧ Below w.heap.size w w' := by
 have HR0 := mk_ hr0
 have HC0 := mk_ hc0
 clear hr0 hc0
 have HR1 := mk_ hr1
 have HC1 := mk_ hc1
 clear hr1 hc1
 have HB := mk_ (Below.refl w.heap.size w)
 have H : ((bI.f k l0 l1 ()).bind fun t264 => (some t264)) = some r := h
 clear h
 obtain ⟨t264, A3, H⟩ := Option.bind_eq_some_iff.mp H
 replace A3 := mk_ A3
 obtain rfl := Option.some.inj H
 go_enter Tryz.func85, Tryz.ntmps85
 go_wp2_with (first | ((with_reducible refine aE (f := 102) rfl ?_); refine Short.gL (some 7) Tryz.func102 #[.slice A0 l0.length c0, .slice A1 l1.length c1, .func (.func 103) #[] #[]] (h := ?_); (with_reducible refine (bI.calls k _ _ l0 _ _ l1 () t264 _ ?side1 ?side2 ?side3 ?side4 A3.out).mono ?_); (case side1 => repeat (first | exact HR0.out | (with_reducible refine C_alloc ?_ _) | (with_reducible refine C_drewN ?_ _) | (with_reducible refine C_drew ?_))); (case side2 => exact HC0.out); (case side3 => repeat (first | exact HR1.out | (with_reducible refine C_alloc ?_ _) | (with_reducible refine C_drewN ?_ _) | (with_reducible refine C_drew ?_))); (case side4 => exact HC1.out); rintro e w4 ⟨rfl, hb⟩; refine ⟨_, rfl, ?_⟩; have n0_ := mk_ (aC (Short.hB HB) hb); clear HB; revert n0_; intro HB; (try clear hb)))
 go_ret
 exact ⟨q0, Short.hB HB⟩
def fV.f (a0_0 : Int) (a0_1 : Int) (a0_2 : ByteArray) : Option (Bool) := (bN.f a0_0 a0_1 a0_2).bind fun t266 => (if t266 = 0 then (if a0_0 = 3 then ((eG.f a0_1 2147483648).bind fun t267 => (some t267)) else (some true)) else (some false))
theorem fV.calls (a0_0 : Int) (a0_1 : Int) (a0_2 : ByteArray) (r : Bool) (w : World) (h : fV.f a0_0 a0_1 a0_2 = some r) :
  Calls Tryz.prog 88 #[.agg #[.int .i64 a0_0, .int .i64 a0_1, .string a0_2]] w fun e w' => e = .returned (.bool r) ∧ Below w.heap.size w w' := by
 have hu102 := Tryz.underlying102
 have HB := mk_ (Below.refl w.heap.size w)
 have H : ((bN.f a0_0 a0_1 a0_2).bind fun t266 => (if t266 = 0 then (if a0_0 = 3 then ((eG.f a0_1 2147483648).bind fun t267 => (some t267)) else (some true)) else (some false))) = some r := h
 clear h
 obtain ⟨t266, A2, H⟩ := Option.bind_eq_some_iff.mp H
 replace A2 := mk_ A2
 by_cases c3 : t266 = 0
 rotate_left
 ·
  rw [if_neg c3] at H
  have c3b0 : (t266 == 0) = false := beq_eq_false_iff_ne.mpr c3
  have c3b1 : (t266 != 0) = true := bne_iff_ne.mpr c3
  obtain rfl := Option.some.inj H
  go_enter Tryz.func88, Tryz.ntmps88
  go_wp2_with (first | ((with_reducible refine aQ (N := 1) rfl ?_); refine aN ?hg (N := 1) ?hd (cs := #[.int .i64 a0_0, .int .i64 a0_1, .string a0_2]) (t := 102) ?hr ?_; (case hd => rfl); (case hg => rfl); (case hr => first | (go_simp; done) | (go_simp; rfl)); intro gb265 hg w14 hbox hb; have n0_ := mk_ (aC (Short.hB HB) hb); have n1_ := mk_ (hbox); have n2_ := mk_ ((by rw [hg]; exact (aA (Short.hB HB)) : w.heap.size ≤ gb265)); have n3_ := mk_ ((by rw [hg]; exact (aA (Short.hB HB)) : w.heap.size ≤ gb265)); clear HB; revert n0_ n1_ n2_ n3_; intro HB BK265 GW265 GE265; clear hb hbox hg; obtain ⟨hcz_0, hcz_1, hcz_2, hfz_0, hfz_1, hfz_2⟩ := Short.c3 BK265.out) | ((with_reducible refine aE (f := 98) rfl ?_); refine Short.gL (some 4) Tryz.func98 #[.agg #[.int .i64 a0_0, .int .i64 a0_1, .string a0_2]] (h := ?_); (with_reducible refine (bN.calls a0_0 a0_1 a0_2 t266 _ A2.out).mono ?_); rintro e w16 ⟨rfl, hb⟩; refine ⟨_, rfl, ?_⟩; have n0_ := mk_ (bB_ BK265 hb); have n1_ := mk_ (aC (Short.hB HB) hb); clear BK265 HB; revert n0_ n1_; intro BK265 HB; (try clear hb)))
  go_ret
  exact ⟨q0, Short.hB HB⟩
 rw [if_pos c3] at H
 have c3b0 : (t266 == 0) = true := beq_iff_eq.mpr c3
 have c3b1 : (t266 != 0) = false := bne_eq_false_iff_eq.mpr c3
 clear c3
 by_cases c4 : a0_0 = 3
 rotate_left
 ·
  rw [if_neg c4] at H
  have c4b0 : (a0_0 == 3) = false := beq_eq_false_iff_ne.mpr c4
  have c4b1 : (a0_0 != 3) = true := bne_iff_ne.mpr c4
  obtain rfl := Option.some.inj H
  go_enter Tryz.func88, Tryz.ntmps88
  go_wp2_with (first | ((with_reducible refine aQ (N := 1) rfl ?_); refine aN ?hg (N := 1) ?hd (cs := #[.int .i64 a0_0, .int .i64 a0_1, .string a0_2]) (t := 102) ?hr ?_; (case hd => rfl); (case hg => rfl); (case hr => first | (go_simp; done) | (go_simp; rfl)); intro gb265 hg w10 hbox hb; have n0_ := mk_ (aC (Short.hB HB) hb); have n1_ := mk_ (hbox); have n2_ := mk_ ((by rw [hg]; exact (aA (Short.hB HB)) : w.heap.size ≤ gb265)); have n3_ := mk_ ((by rw [hg]; exact (aA (Short.hB HB)) : w.heap.size ≤ gb265)); clear HB; revert n0_ n1_ n2_ n3_; intro HB BK265 GW265 GE265; clear hb hbox hg; obtain ⟨hcz_0, hcz_1, hcz_2, hfz_0, hfz_1, hfz_2⟩ := Short.c3 BK265.out) | ((with_reducible refine aE (f := 98) rfl ?_); refine Short.gL (some 4) Tryz.func98 #[.agg #[.int .i64 a0_0, .int .i64 a0_1, .string a0_2]] (h := ?_); (with_reducible refine (bN.calls a0_0 a0_1 a0_2 t266 _ A2.out).mono ?_); rintro e w12 ⟨rfl, hb⟩; refine ⟨_, rfl, ?_⟩; have n0_ := mk_ (bB_ BK265 hb); have n1_ := mk_ (aC (Short.hB HB) hb); clear BK265 HB; revert n0_ n1_; intro BK265 HB; (try clear hb); obtain ⟨hcz_0, hcz_1, hcz_2, hfz_0, hfz_1, hfz_2⟩ := Short.c3 BK265.out))
  go_ret
  exact ⟨q0, Short.hB HB⟩
 rw [if_pos c4] at H
 have c4b0 : (a0_0 == 3) = true := beq_iff_eq.mpr c4
 have c4b1 : (a0_0 != 3) = false := bne_eq_false_iff_eq.mpr c4
 clear c4
 obtain ⟨t267, A5, H⟩ := Option.bind_eq_some_iff.mp H
 replace A5 := mk_ A5
 obtain rfl := Option.some.inj H
 go_enter Tryz.func88, Tryz.ntmps88
 go_wp2_with (first | ((with_reducible refine aQ (N := 1) rfl ?_); refine aN ?hg (N := 1) ?hd (cs := #[.int .i64 a0_0, .int .i64 a0_1, .string a0_2]) (t := 102) ?hr ?_; (case hd => rfl); (case hg => rfl); (case hr => first | (go_simp; done) | (go_simp; rfl)); intro gb265 hg w6 hbox hb; have n0_ := mk_ (aC (Short.hB HB) hb); have n1_ := mk_ (hbox); have n2_ := mk_ ((by rw [hg]; exact (aA (Short.hB HB)) : w.heap.size ≤ gb265)); have n3_ := mk_ ((by rw [hg]; exact (aA (Short.hB HB)) : w.heap.size ≤ gb265)); clear HB; revert n0_ n1_ n2_ n3_; intro HB BK265 GW265 GE265; clear hb hbox hg; obtain ⟨hcz_0, hcz_1, hcz_2, hfz_0, hfz_1, hfz_2⟩ := Short.c3 BK265.out) | ((with_reducible refine aE (f := 98) rfl ?_); refine Short.gL (some 4) Tryz.func98 #[.agg #[.int .i64 a0_0, .int .i64 a0_1, .string a0_2]] (h := ?_); (with_reducible refine (bN.calls a0_0 a0_1 a0_2 t266 _ A2.out).mono ?_); rintro e w8 ⟨rfl, hb⟩; refine ⟨_, rfl, ?_⟩; have n0_ := mk_ (bB_ BK265 hb); have n1_ := mk_ (aC (Short.hB HB) hb); clear BK265 HB; revert n0_ n1_; intro BK265 HB; (try clear hb); obtain ⟨hcz_0, hcz_1, hcz_2, hfz_0, hfz_1, hfz_2⟩ := Short.c3 BK265.out) | (go_at_call 105; (with_reducible refine (eG.calls a0_1 2147483648 t267 _ A5.out).mono ?_); rintro e w' ⟨rfl, ⟨nd, rfl⟩⟩))
 go_ret
 exact ⟨q0, Short.hB HB⟩
def gD.f (a0_0 : Int) (a0_1 : Int) (a0_2 : ByteArray) : Option (Bool) := (fV.f a0_0 a0_1 a0_2).bind fun t269 => (some (!t269))
theorem gD.calls (a0_0 : Int) (a0_1 : Int) (a0_2 : ByteArray) (r : Bool) (w : World) (h : gD.f a0_0 a0_1 a0_2 = some r) :
  Calls Tryz.prog 87 #[.agg #[.int .i64 a0_0, .int .i64 a0_1, .string a0_2]] w fun e w' => e = .returned (.bool r) ∧ Below w.heap.size w w' := by
 have hu102 := Tryz.underlying102
 have HB := mk_ (Below.refl w.heap.size w)
 have H : ((fV.f a0_0 a0_1 a0_2).bind fun t269 => (some (!t269))) = some r := h
 clear h
 obtain ⟨t269, A2, H⟩ := Option.bind_eq_some_iff.mp H
 replace A2 := mk_ A2
 obtain rfl := Option.some.inj H
 go_enter Tryz.func87, Tryz.ntmps87
 go_wp2_with (first | ((with_reducible refine aQ (N := 1) rfl ?_); refine aN ?hg (N := 1) ?hd (cs := #[.int .i64 a0_0, .int .i64 a0_1, .string a0_2]) (t := 102) ?hr ?_; (case hd => rfl); (case hg => rfl); (case hr => first | (go_simp; done) | (go_simp; rfl)); intro gb268 hg w3 hbox hb; have n0_ := mk_ (aC (Short.hB HB) hb); have n1_ := mk_ (hbox); have n2_ := mk_ ((by rw [hg]; exact (aA (Short.hB HB)) : w.heap.size ≤ gb268)); have n3_ := mk_ ((by rw [hg]; exact (aA (Short.hB HB)) : w.heap.size ≤ gb268)); clear HB; revert n0_ n1_ n2_ n3_; intro HB BK268 GW268 GE268; clear hb hbox hg; obtain ⟨hcz_0, hcz_1, hcz_2, hfz_0, hfz_1, hfz_2⟩ := Short.c3 BK268.out) | ((with_reducible refine aE (f := 88) rfl ?_); refine Short.gL (some 4) Tryz.func88 #[.agg #[.int .i64 a0_0, .int .i64 a0_1, .string a0_2]] (h := ?_); (with_reducible refine (fV.calls a0_0 a0_1 a0_2 t269 _ A2.out).mono ?_); rintro e w5 ⟨rfl, hb⟩; refine ⟨_, rfl, ?_⟩; have n0_ := mk_ (bB_ BK268 hb); have n1_ := mk_ (aC (Short.hB HB) hb); clear BK268 HB; revert n0_ n1_; intro BK268 HB; (try clear hb)))
 go_ret
 exact ⟨q0, Short.hB HB⟩
def bF.l0 : Nat → List (S102) → Int → Int → Option (Int)
 | 0, _, _, _ => none
 | k + 1, x0, x7, x8 => if x8 < x7 then (if 0 ≤ x8 then (if x8 < (x0.length : Int) then ((gD.f ((aK x0 x8).f0) ((aK x0 x8).f1) ((aK x0 x8).f2)).bind fun t271 => (if t271 = true then (some x8) else (bF.l0 k x0 x7 (wrap64 (x8 + 1))))) else (none)) else (none)) else (some (-1))
def bF.f (k : Nat) (l0 : List (S102)) (a1 : Unit) : Option (Int) := bF.l0 k l0 (l0.length : Int) 0
theorem bF.calls (k : Nat) (A0 : Option Addr) (c0 : Nat) (l0 : List (S102)) (a1 : Unit) (r : Int) (w : World) (hr0 : Kd.C k102 w A0 l0.length l0) (hc0 : l0.length ≤ c0) (h : bF.f k l0 a1 = some r) :
  Calls Tryz.prog 104 #[.slice A0 l0.length c0, .func (.func 87) #[] #[]] w fun e w' => e = .returned (.int .i64 r) ∧ Below w.heap.size w w' := by
 have hu102 := Tryz.underlying102
 have HR0 := mk_ hr0
 have HC0 := mk_ hc0
 clear hr0 hc0
 have HB := mk_ (Below.refl w.heap.size w)
 have H : (bF.l0 k l0 (l0.length : Int) 0) = some r := h
 clear h
 have H' := mk_ H
 clear H
 go_enter Tryz.func104, Tryz.ntmps104
 go_wp2
 go_loopg [8] k (fun kq v8 w' => ∃ (x8_1 : Int), v8 = .int .i64 x8_1 ∧ Aside0 (bF.l0 kq l0 (l0.length : Int) x8_1 = some r) ∧ Aside0 (kq ≤ k) ∧ Aside0 (Below w.heap.size w w'))
 case atStart => exact ⟨(0), z4_, H', ⟨Nat.le_refl _⟩, ⟨Short.hB HB⟩⟩
 case round =>
  clear H'
  try clear p2
  obtain ⟨x8_1, rfl, HA, HK1, HB⟩ := hrel
  cases gk with
  | zero => exact absurd HA.out (by simp [bF.l0])
  | succ k1 =>
   have H := HA.out
   clear HA
   simp only [bF.l0] at H
   by_cases c3 : x8_1 < (l0.length : Int)
   rotate_left
   ·
    rw [if_neg c3] at H
    have c3b0 : decide (x8_1 < (l0.length : Int)) = false := decide_eq_false c3
    clear c3
    obtain rfl := Option.some.inj H
    go_wp2
    go_ret
    exact ⟨q0, Short.hB HB⟩
   rw [if_pos c3] at H
   have c3b0 : decide (x8_1 < (l0.length : Int)) = true := decide_eq_true c3
   clear c3
   by_cases c4 : 0 ≤ x8_1
   rotate_left
   ·
    rw [if_neg c4] at H
    exact absurd H z6_
   rw [if_pos c4] at H
   have c4b0 : decide (0 ≤ x8_1) = true := decide_eq_true c4
   clear c4
   by_cases c5 : x8_1 < (l0.length : Int)
   rotate_left
   ·
    rw [if_neg c5] at H
    exact absurd H z6_
   rw [if_pos c5] at H
   have c5b0 : decide (x8_1 < (l0.length : Int)) = true := decide_eq_true c5
   clear c5
   obtain ⟨t271, A6, H⟩ := Option.bind_eq_some_iff.mp H
   replace A6 := mk_ A6
   by_cases c7 : t271 = true
   ·
    subst c7
    rw [if_pos rfl] at H
    obtain rfl := Option.some.inj H
    have p270 : 0 ≤ (x8_1 : Int) := of_decide_eq_true z1_
    have q270 : x8_1 < (l0.length : Int) := of_decide_eq_true z1_
    obtain ⟨ad270, e270, hx270_0, hx270_1, hx270_2⟩ := fK HR0.out x8_1 p270 q270
    cases e270
    replace hx270_0 := up_ HB hx270_0
    replace hx270_1 := up_ HB hx270_1
    replace hx270_2 := up_ HB hx270_2
    replace p270 := eq_true p270
    replace q270 := eq_true q270
    go_wp2_with (first | ((first | ((with_reducible refine aE (f := 87) rfl ?_); refine Short.gL (some 16) Tryz.func87 #[.agg #[.int .i64 ((aK l0 x8_1).f0), .int .i64 ((aK l0 x8_1).f1), .string ((aK l0 x8_1).f2)]] (h := ?_)) | ((with_reducible refine Go.Proofs.YtjnjfogfpmeacaaGreat.Steps.gate_any rfl ?_); refine Go.Proofs.YtjnjfogfpmeacaaGreat.Steps.goesV_ (some 16) rfl rfl Tryz.func87 z2_ rfl #[.agg #[.int .i64 ((aK l0 x8_1).f0), .int .i64 ((aK l0 x8_1).f1), .string ((aK l0 x8_1).f2)]] rfl (by first | rfl | go_simp) z0_ ?_)); (with_reducible refine (gD.calls ((aK l0 x8_1).f0) ((aK l0 x8_1).f1) ((aK l0 x8_1).f2) true _ A6.out).mono ?_); rintro e w8 ⟨rfl, hb⟩; refine ⟨_, rfl, ?_⟩; have n0_ := mk_ (aC (Short.hB HB) hb); clear HB; revert n0_; intro HB; (try clear hb)))
    go_ret
    exact ⟨q0, Short.hB HB⟩
   replace c7 := Bool.eq_false_iff.mpr c7
   subst c7
   rw [if_neg (show ¬ (false = true) by decide)] at H
   have H' := mk_ H
   clear H
   have p270 : 0 ≤ (x8_1 : Int) := of_decide_eq_true z1_
   have q270 : x8_1 < (l0.length : Int) := of_decide_eq_true z1_
   obtain ⟨ad270, e270, hx270_0, hx270_1, hx270_2⟩ := fK HR0.out x8_1 p270 q270
   cases e270
   replace hx270_0 := up_ HB hx270_0
   replace hx270_1 := up_ HB hx270_1
   replace hx270_2 := up_ HB hx270_2
   replace p270 := eq_true p270
   replace q270 := eq_true q270
   go_wp2_with (first | ((first | ((with_reducible refine aE (f := 87) rfl ?_); refine Short.gL (some 16) Tryz.func87 #[.agg #[.int .i64 ((aK l0 x8_1).f0), .int .i64 ((aK l0 x8_1).f1), .string ((aK l0 x8_1).f2)]] (h := ?_)) | ((with_reducible refine Go.Proofs.YtjnjfogfpmeacaaGreat.Steps.gate_any rfl ?_); refine Go.Proofs.YtjnjfogfpmeacaaGreat.Steps.goesV_ (some 16) rfl rfl Tryz.func87 z2_ rfl #[.agg #[.int .i64 ((aK l0 x8_1).f0), .int .i64 ((aK l0 x8_1).f1), .string ((aK l0 x8_1).f2)]] rfl (by first | rfl | go_simp) z0_ ?_)); (with_reducible refine (gD.calls ((aK l0 x8_1).f0) ((aK l0 x8_1).f1) ((aK l0 x8_1).f2) false _ A6.out).mono ?_); rintro e w9 ⟨rfl, hb⟩; refine ⟨_, rfl, ?_⟩; have n0_ := mk_ (aC (Short.hB HB) hb); clear HB; revert n0_; intro HB; (try clear hb)))
   go_roundg k1
   case measure => have := HK1.out; omega
   case rel => exact ⟨(wrap64 (x8_1 + 1)), z4_, H', ⟨by have := HK1.out; omega⟩, ⟨Short.hB HB⟩⟩
def cO.f (k : Nat) (l0 : List (S102)) (a1 : Unit) : Option (Bool) := (bF.f k l0 a1).bind fun t272 => (some (decide (t272 ≥ 0)))
theorem cO.calls (k : Nat) (A0 : Option Addr) (c0 : Nat) (l0 : List (S102)) (a1 : Unit) (r : Bool) (w : World) (hr0 : Kd.C k102 w A0 l0.length l0) (hc0 : l0.length ≤ c0) (h : cO.f k l0 a1 = some r) :
  Calls Tryz.prog 86 #[.slice A0 l0.length c0, .func (.func 87) #[] #[]] w fun e w' => e = .returned (.bool r) ∧ Below w.heap.size w w' := by
 have HR0 := mk_ hr0
 have HC0 := mk_ hc0
 clear hr0 hc0
 have HB := mk_ (Below.refl w.heap.size w)
 have H : ((bF.f k l0 a1).bind fun t272 => (some (decide (t272 ≥ 0)))) = some r := h
 clear h
 obtain ⟨t272, A3, H⟩ := Option.bind_eq_some_iff.mp H
 replace A3 := mk_ A3
 obtain rfl := Option.some.inj H
 go_enter Tryz.func86, Tryz.ntmps86
 go_wp2_with (first | ((first | ((with_reducible refine aE (f := 104) rfl ?_); refine Short.gL (some 7) Tryz.func104 #[.slice A0 l0.length c0, .func (.func 87) #[] #[]] (h := ?_)) | ((with_reducible refine Go.Proofs.YtjnjfogfpmeacaaGreat.Steps.gate_any rfl ?_); refine Go.Proofs.YtjnjfogfpmeacaaGreat.Steps.goesV_ (some 7) rfl rfl Tryz.func104 z2_ rfl #[.slice A0 l0.length c0, .func (.func 87) #[] #[]] rfl (by first | rfl | go_simp) z0_ ?_)); (with_reducible refine (bF.calls k _ _ l0 a1 t272 _ ?side1 ?side2 A3.out).mono ?_); (case side1 => repeat (first | exact HR0.out | (with_reducible refine C_alloc ?_ _) | (with_reducible refine C_drewN ?_ _) | (with_reducible refine C_drew ?_))); (case side2 => exact HC0.out); rintro e w4 ⟨rfl, hb⟩; refine ⟨_, rfl, ?_⟩; have n0_ := mk_ (aC (Short.hB HB) hb); clear HB; revert n0_; intro HB; (try clear hb)))
 go_ret
 exact ⟨q0, Short.hB HB⟩
def iC.f (k : Nat) (l0 : List (S102)) (l1 : List Int) : Option (Bool) := (hH.f k l0 l1).bind fun t273 => (if t273 = true then ((cO.f k l0 ()).bind fun t274 => (some (!t274))) else (some false))
theorem iC.calls (k : Nat) (A0 : Option Addr) (c0 : Nat) (l0 : List (S102)) (A1 : Option Addr) (c1 : Nat) (l1 : List Int) (r : Bool) (w : World) (hr0 : Kd.C k102 w A0 l0.length l0) (hc0 : l0.length ≤ c0) (hr1 : Kd.C (Kd.int .i64) w A1 l1.length l1) (hc1 : l1.length ≤ c1) (h : iC.f k l0 l1 = some r) :
  Calls Tryz.prog 60 #[.slice A0 l0.length c0, .slice A1 l1.length c1] w fun e w' => e = .returned (.bool r) ∧ Below w.heap.size w w' := by
 have HR0 := mk_ hr0
 have HC0 := mk_ hc0
 clear hr0 hc0
 have HR1 := mk_ hr1
 have HC1 := mk_ hc1
 clear hr1 hc1
 have HB := mk_ (Below.refl w.heap.size w)
 have H : ((hH.f k l0 l1).bind fun t273 => (if t273 = true then ((cO.f k l0 ()).bind fun t274 => (some (!t274))) else (some false))) = some r := h
 clear h
 obtain ⟨t273, A3, H⟩ := Option.bind_eq_some_iff.mp H
 replace A3 := mk_ A3
 by_cases c4 : t273 = true
 rotate_left
 replace c4 := Bool.eq_false_iff.mpr c4
 subst c4
 rw [if_neg (show ¬ (false = true) by decide)] at H
 obtain rfl := Option.some.inj H
 rotate_right
 subst c4
 rw [if_pos rfl] at H
 obtain ⟨t274, A5, H⟩ := Option.bind_eq_some_iff.mp H
 replace A5 := mk_ A5
 obtain rfl := Option.some.inj H
 all_goals
  go_enter Tryz.func60, Tryz.ntmps60
  go_wp2_with (first | ((with_reducible refine aE (f := 85) rfl ?_); refine Short.gL (some 7) Tryz.func85 #[.slice A0 l0.length c0, .slice A1 l1.length c1] (h := ?_); (with_reducible refine (hH.calls k _ _ l0 _ _ l1 _ _ ?side1 ?side2 ?side3 ?side4 A3.out).mono ?_); (case side1 => repeat (first | exact HR0.out | (with_reducible refine C_alloc ?_ _) | (with_reducible refine C_drewN ?_ _) | (with_reducible refine C_drew ?_))); (case side2 => exact HC0.out); (case side3 => repeat (first | exact HR1.out | (with_reducible refine C_alloc ?_ _) | (with_reducible refine C_drewN ?_ _) | (with_reducible refine C_drew ?_))); (case side4 => exact HC1.out); rintro e w_7 ⟨rfl, hb⟩; refine ⟨_, rfl, ?_⟩; have n0_ := mk_ (aC (Short.hB HB) hb); clear HB; revert n0_; intro HB; (try clear hb)) | (go_at_call 86; (with_reducible refine (cO.calls k _ _ l0 () t274 _ ?side1 ?side2 A5.out).mono ?_); (case side1 => exact cX_ (aU HR0.out HB.out)); (case side2 => exact HC0.out); rintro e w_x1 ⟨rfl, hb⟩; have n0_ := mk_ (aC (Short.hB HB) hb); clear HB; revert n0_; intro HB; (try clear hb); (try clear hb2); (try clear hk); (try clear hi)))
  go_ret
  exact ⟨q0, Short.hB HB⟩
def gC.f (l0 : List Int) (a1 : Int) : Option (Bool) := if a1 ≥ 0 then (some (decide (a1 < (l0.length : Int)))) else (some false)
theorem gC.calls (A0 : Option Addr) (c0 : Nat) (l0 : List Int) (a1 : Int) (r : Bool) (w : World) (hr0 : Kd.C (Kd.int .i64) w A0 l0.length l0) (hc0 : l0.length ≤ c0) (h : gC.f l0 a1 = some r) :
  Calls Tryz.prog 106 #[.slice A0 l0.length c0, .int .i64 a1] w fun e w' => e = .returned (.bool r) ∧ Drawn0 w w' := by
 have HR0 := mk_ hr0
 have HC0 := mk_ hc0
 clear hr0 hc0
 have H : (if a1 ≥ 0 then (some (decide (a1 < (l0.length : Int)))) else (some false)) = some r := h
 clear h
 by_cases c3 : a1 ≥ 0
 rotate_left
 rw [if_neg c3] at H
 have c3b0 : decide (0 ≤ a1) = false := decide_eq_false c3
 clear c3
 obtain rfl := Option.some.inj H
 rotate_right
 rw [if_pos c3] at H
 have c3b0 : decide (0 ≤ a1) = true := decide_eq_true c3
 clear c3
 obtain rfl := Option.some.inj H
 all_goals
  go_enter Tryz.func106, Tryz.ntmps106
  go_wp2
  go_ret
  exact ⟨z4_, by repeat (first | exact Drawn0.refl _ | apply Drawn0.step)⟩
def hO.f (l0 : List Int) (a1_0 : Int) (a1_1 : Int) : Option (Bool) := (gC.f l0 a1_0).bind fun t276 => (if t276 = true then (if a1_1 ≥ 1 then (if 0 ≤ a1_0 then (if a1_0 < (l0.length : Int) then (some (decide (a1_1 ≤ (rd l0 a1_0)))) else (none)) else (none)) else (some false)) else (some false))
theorem hO.calls (A0 : Option Addr) (c0 : Nat) (l0 : List Int) (a1_0 : Int) (a1_1 : Int) (r : Bool) (w : World) (hr0 : Kd.C (Kd.int .i64) w A0 l0.length l0) (hc0 : l0.length ≤ c0) (h : hO.f l0 a1_0 a1_1 = some r) :
  Calls Tryz.prog 89 #[.slice A0 l0.length c0, .agg #[.int .i64 a1_0, .int .i64 a1_1]] w fun e w' => e = .returned (.bool r) ∧ Below w.heap.size w w' := by
 have hu24 := Tryz.underlying24
 have HR0 := mk_ hr0
 have HC0 := mk_ hc0
 clear hr0 hc0
 have HB := mk_ (Below.refl w.heap.size w)
 have H : ((gC.f l0 a1_0).bind fun t276 => (if t276 = true then (if a1_1 ≥ 1 then (if 0 ≤ a1_0 then (if a1_0 < (l0.length : Int) then (some (decide (a1_1 ≤ (rd l0 a1_0)))) else (none)) else (none)) else (some false)) else (some false))) = some r := h
 clear h
 obtain ⟨t276, A3, H⟩ := Option.bind_eq_some_iff.mp H
 replace A3 := mk_ A3
 by_cases c4 : t276 = true
 rotate_left
 ·
  replace c4 := Bool.eq_false_iff.mpr c4
  subst c4
  rw [if_neg (show ¬ (false = true) by decide)] at H
  obtain rfl := Option.some.inj H
  go_enter Tryz.func89, Tryz.ntmps89
  go_wp2_with (first | ((with_reducible refine aQ (N := 3) rfl ?_); refine aN ?hg (N := 3) ?hd (cs := #[.int .i64 a1_0, .int .i64 a1_1]) (t := 24) ?hr ?_; (case hd => rfl); (case hg => rfl); (case hr => first | (go_simp; done) | (go_simp; rfl)); intro gb275 hg w12 hbox hb; have n0_ := mk_ (aC (Short.hB HB) hb); have n1_ := mk_ (hbox); have n2_ := mk_ ((by rw [hg]; exact (aA (Short.hB HB)) : w.heap.size ≤ gb275)); have n3_ := mk_ ((by rw [hg]; exact (aA (Short.hB HB)) : w.heap.size ≤ gb275)); clear HB; revert n0_ n1_ n2_ n3_; intro HB BK275 GW275 GE275; clear hb hbox hg; obtain ⟨hcz13_0, hcz13_1, hfz13_0, hfz13_1⟩ := Short.c2 BK275.out) | (go_at_call 106; (with_reducible refine (gC.calls _ _ l0 a1_0 false _ ?side1 ?side2 A3.out).mono ?_); (case side1 => exact cX_ (aU HR0.out HB.out)); (case side2 => exact HC0.out); rintro e w' ⟨rfl, ⟨nd, rfl⟩⟩; (try first | exact ⟨rfl, _, World.drewN_drewN _ _ _⟩ | exact ⟨rfl, _, Eq.trans (World.drewN_drewN _ _ _) (congrArg (World.drewN _) (Nat.add_assoc _ _ _))⟩)))
  repeat (go_quiet (first | ((with_reducible refine aQ (N := 3) rfl ?_); refine aN ?hg (N := 3) ?hd (cs := #[.int .i64 a1_0, .int .i64 a1_1]) (t := 24) ?hr ?_; (case hd => rfl); (case hg => rfl); (case hr => first | (go_simp; done) | (go_simp; rfl)); intro gb275 hg w12 hbox hb; have n0_ := mk_ (aC (Short.hB HB) hb); have n1_ := mk_ (hbox); have n2_ := mk_ ((by rw [hg]; exact (aA (Short.hB HB)) : w.heap.size ≤ gb275)); have n3_ := mk_ ((by rw [hg]; exact (aA (Short.hB HB)) : w.heap.size ≤ gb275)); clear HB; revert n0_ n1_ n2_ n3_; intro HB BK275 GW275 GE275; clear hb hbox hg; obtain ⟨hcz13_0, hcz13_1, hfz13_0, hfz13_1⟩ := Short.c2 BK275.out) | (go_at_call 106; (with_reducible refine (gC.calls _ _ l0 a1_0 false _ ?side1 ?side2 A3.out).mono ?_); (case side1 => exact cX_ (aU HR0.out HB.out)); (case side2 => exact HC0.out); rintro e w' ⟨rfl, ⟨nd, rfl⟩⟩; (try first | exact ⟨rfl, _, World.drewN_drewN _ _ _⟩ | exact ⟨rfl, _, Eq.trans (World.drewN_drewN _ _ _) (congrArg (World.drewN _) (Nat.add_assoc _ _ _))⟩))); try go_wp2_with (first | ((with_reducible refine aQ (N := 3) rfl ?_); refine aN ?hg (N := 3) ?hd (cs := #[.int .i64 a1_0, .int .i64 a1_1]) (t := 24) ?hr ?_; (case hd => rfl); (case hg => rfl); (case hr => first | (go_simp; done) | (go_simp; rfl)); intro gb275 hg w12 hbox hb; have n0_ := mk_ (aC (Short.hB HB) hb); have n1_ := mk_ (hbox); have n2_ := mk_ ((by rw [hg]; exact (aA (Short.hB HB)) : w.heap.size ≤ gb275)); have n3_ := mk_ ((by rw [hg]; exact (aA (Short.hB HB)) : w.heap.size ≤ gb275)); clear HB; revert n0_ n1_ n2_ n3_; intro HB BK275 GW275 GE275; clear hb hbox hg; obtain ⟨hcz13_0, hcz13_1, hfz13_0, hfz13_1⟩ := Short.c2 BK275.out) | (go_at_call 106; (with_reducible refine (gC.calls _ _ l0 a1_0 false _ ?side1 ?side2 A3.out).mono ?_); (case side1 => exact cX_ (aU HR0.out HB.out)); (case side2 => exact HC0.out); rintro e w' ⟨rfl, ⟨nd, rfl⟩⟩; (try first | exact ⟨rfl, _, World.drewN_drewN _ _ _⟩ | exact ⟨rfl, _, Eq.trans (World.drewN_drewN _ _ _) (congrArg (World.drewN _) (Nat.add_assoc _ _ _))⟩))))
  go_ret
  exact ⟨q0, Short.hB HB⟩
 subst c4
 rw [if_pos rfl] at H
 by_cases c5 : a1_1 ≥ 1
 rotate_left
 ·
  rw [if_neg c5] at H
  have c5b0 : decide (1 ≤ a1_1) = false := decide_eq_false c5
  clear c5
  obtain rfl := Option.some.inj H
  go_enter Tryz.func89, Tryz.ntmps89
  go_wp2_with (first | ((with_reducible refine aQ (N := 3) rfl ?_); refine aN ?hg (N := 3) ?hd (cs := #[.int .i64 a1_0, .int .i64 a1_1]) (t := 24) ?hr ?_; (case hd => rfl); (case hg => rfl); (case hr => first | (go_simp; done) | (go_simp; rfl)); intro gb275 hg w10 hbox hb; have n0_ := mk_ (aC (Short.hB HB) hb); have n1_ := mk_ (hbox); have n2_ := mk_ ((by rw [hg]; exact (aA (Short.hB HB)) : w.heap.size ≤ gb275)); have n3_ := mk_ ((by rw [hg]; exact (aA (Short.hB HB)) : w.heap.size ≤ gb275)); clear HB; revert n0_ n1_ n2_ n3_; intro HB BK275 GW275 GE275; clear hb hbox hg; obtain ⟨hcz11_0, hcz11_1, hfz11_0, hfz11_1⟩ := Short.c2 BK275.out) | (go_at_call 106; (with_reducible refine (gC.calls _ _ l0 a1_0 true _ ?side1 ?side2 A3.out).mono ?_); (case side1 => exact cX_ (aU HR0.out HB.out)); (case side2 => exact HC0.out); rintro e w' ⟨rfl, ⟨nd, rfl⟩⟩; (try first | exact ⟨rfl, _, World.drewN_drewN _ _ _⟩ | exact ⟨rfl, _, Eq.trans (World.drewN_drewN _ _ _) (congrArg (World.drewN _) (Nat.add_assoc _ _ _))⟩)))
  repeat (go_quiet (first | ((with_reducible refine aQ (N := 3) rfl ?_); refine aN ?hg (N := 3) ?hd (cs := #[.int .i64 a1_0, .int .i64 a1_1]) (t := 24) ?hr ?_; (case hd => rfl); (case hg => rfl); (case hr => first | (go_simp; done) | (go_simp; rfl)); intro gb275 hg w10 hbox hb; have n0_ := mk_ (aC (Short.hB HB) hb); have n1_ := mk_ (hbox); have n2_ := mk_ ((by rw [hg]; exact (aA (Short.hB HB)) : w.heap.size ≤ gb275)); have n3_ := mk_ ((by rw [hg]; exact (aA (Short.hB HB)) : w.heap.size ≤ gb275)); clear HB; revert n0_ n1_ n2_ n3_; intro HB BK275 GW275 GE275; clear hb hbox hg; obtain ⟨hcz11_0, hcz11_1, hfz11_0, hfz11_1⟩ := Short.c2 BK275.out) | (go_at_call 106; (with_reducible refine (gC.calls _ _ l0 a1_0 true _ ?side1 ?side2 A3.out).mono ?_); (case side1 => exact cX_ (aU HR0.out HB.out)); (case side2 => exact HC0.out); rintro e w' ⟨rfl, ⟨nd, rfl⟩⟩; (try first | exact ⟨rfl, _, World.drewN_drewN _ _ _⟩ | exact ⟨rfl, _, Eq.trans (World.drewN_drewN _ _ _) (congrArg (World.drewN _) (Nat.add_assoc _ _ _))⟩))); try go_wp2_with (first | ((with_reducible refine aQ (N := 3) rfl ?_); refine aN ?hg (N := 3) ?hd (cs := #[.int .i64 a1_0, .int .i64 a1_1]) (t := 24) ?hr ?_; (case hd => rfl); (case hg => rfl); (case hr => first | (go_simp; done) | (go_simp; rfl)); intro gb275 hg w10 hbox hb; have n0_ := mk_ (aC (Short.hB HB) hb); have n1_ := mk_ (hbox); have n2_ := mk_ ((by rw [hg]; exact (aA (Short.hB HB)) : w.heap.size ≤ gb275)); have n3_ := mk_ ((by rw [hg]; exact (aA (Short.hB HB)) : w.heap.size ≤ gb275)); clear HB; revert n0_ n1_ n2_ n3_; intro HB BK275 GW275 GE275; clear hb hbox hg; obtain ⟨hcz11_0, hcz11_1, hfz11_0, hfz11_1⟩ := Short.c2 BK275.out) | (go_at_call 106; (with_reducible refine (gC.calls _ _ l0 a1_0 true _ ?side1 ?side2 A3.out).mono ?_); (case side1 => exact cX_ (aU HR0.out HB.out)); (case side2 => exact HC0.out); rintro e w' ⟨rfl, ⟨nd, rfl⟩⟩; (try first | exact ⟨rfl, _, World.drewN_drewN _ _ _⟩ | exact ⟨rfl, _, Eq.trans (World.drewN_drewN _ _ _) (congrArg (World.drewN _) (Nat.add_assoc _ _ _))⟩))))
  go_ret
  exact ⟨q0, Short.hB HB⟩
 rw [if_pos c5] at H
 have c5b0 : decide (1 ≤ a1_1) = true := decide_eq_true c5
 clear c5
 by_cases c6 : 0 ≤ a1_0
 rotate_left
 ·
  rw [if_neg c6] at H
  exact absurd H z6_
 rw [if_pos c6] at H
 have c6b0 : decide (0 ≤ a1_0) = true := decide_eq_true c6
 clear c6
 by_cases c7 : a1_0 < (l0.length : Int)
 rotate_left
 ·
  rw [if_neg c7] at H
  exact absurd H z6_
 rw [if_pos c7] at H
 have c7b0 : decide (a1_0 < (l0.length : Int)) = true := decide_eq_true c7
 clear c7
 obtain rfl := Option.some.inj H
 go_enter Tryz.func89, Tryz.ntmps89
 go_wp2_with (first | ((with_reducible refine aQ (N := 3) rfl ?_); refine aN ?hg (N := 3) ?hd (cs := #[.int .i64 a1_0, .int .i64 a1_1]) (t := 24) ?hr ?_; (case hd => rfl); (case hg => rfl); (case hr => first | (go_simp; done) | (go_simp; rfl)); intro gb275 hg w8 hbox hb; have n0_ := mk_ (aC (Short.hB HB) hb); have n1_ := mk_ (hbox); have n2_ := mk_ ((by rw [hg]; exact (aA (Short.hB HB)) : w.heap.size ≤ gb275)); have n3_ := mk_ ((by rw [hg]; exact (aA (Short.hB HB)) : w.heap.size ≤ gb275)); clear HB; revert n0_ n1_ n2_ n3_; intro HB BK275 GW275 GE275; clear hb hbox hg; obtain ⟨hcz9_0, hcz9_1, hfz9_0, hfz9_1⟩ := Short.c2 BK275.out) | (go_at_call 106; (with_reducible refine (gC.calls _ _ l0 a1_0 true _ ?side1 ?side2 A3.out).mono ?_); (case side1 => exact cX_ (aU HR0.out HB.out)); (case side2 => exact HC0.out); rintro e w' ⟨rfl, ⟨nd, rfl⟩⟩; (try first | exact ⟨rfl, _, World.drewN_drewN _ _ _⟩ | exact ⟨rfl, _, Eq.trans (World.drewN_drewN _ _ _) (congrArg (World.drewN _) (Nat.add_assoc _ _ _))⟩); have p277 : 0 ≤ (a1_0 : Int) := of_decide_eq_true z1_; have q277 : a1_0 < (l0.length : Int) := of_decide_eq_true z1_; obtain ⟨ad277, e277, hx277_0⟩ := Kd.at_int HR0.out a1_0 p277 q277; cases e277; replace hx277_0 := up_ HB hx277_0; replace p277 := eq_true p277; replace q277 := eq_true q277))
 repeat (go_quiet (first | ((with_reducible refine aQ (N := 3) rfl ?_); refine aN ?hg (N := 3) ?hd (cs := #[.int .i64 a1_0, .int .i64 a1_1]) (t := 24) ?hr ?_; (case hd => rfl); (case hg => rfl); (case hr => first | (go_simp; done) | (go_simp; rfl)); intro gb275 hg w8 hbox hb; have n0_ := mk_ (aC (Short.hB HB) hb); have n1_ := mk_ (hbox); have n2_ := mk_ ((by rw [hg]; exact (aA (Short.hB HB)) : w.heap.size ≤ gb275)); have n3_ := mk_ ((by rw [hg]; exact (aA (Short.hB HB)) : w.heap.size ≤ gb275)); clear HB; revert n0_ n1_ n2_ n3_; intro HB BK275 GW275 GE275; clear hb hbox hg; obtain ⟨hcz9_0, hcz9_1, hfz9_0, hfz9_1⟩ := Short.c2 BK275.out) | (go_at_call 106; (with_reducible refine (gC.calls _ _ l0 a1_0 true _ ?side1 ?side2 A3.out).mono ?_); (case side1 => exact cX_ (aU HR0.out HB.out)); (case side2 => exact HC0.out); rintro e w' ⟨rfl, ⟨nd, rfl⟩⟩; (try first | exact ⟨rfl, _, World.drewN_drewN _ _ _⟩ | exact ⟨rfl, _, Eq.trans (World.drewN_drewN _ _ _) (congrArg (World.drewN _) (Nat.add_assoc _ _ _))⟩); have p277 : 0 ≤ (a1_0 : Int) := of_decide_eq_true z1_; have q277 : a1_0 < (l0.length : Int) := of_decide_eq_true z1_; obtain ⟨ad277, e277, hx277_0⟩ := Kd.at_int HR0.out a1_0 p277 q277; cases e277; replace hx277_0 := up_ HB hx277_0; replace p277 := eq_true p277; replace q277 := eq_true q277)); try go_wp2_with (first | ((with_reducible refine aQ (N := 3) rfl ?_); refine aN ?hg (N := 3) ?hd (cs := #[.int .i64 a1_0, .int .i64 a1_1]) (t := 24) ?hr ?_; (case hd => rfl); (case hg => rfl); (case hr => first | (go_simp; done) | (go_simp; rfl)); intro gb275 hg w8 hbox hb; have n0_ := mk_ (aC (Short.hB HB) hb); have n1_ := mk_ (hbox); have n2_ := mk_ ((by rw [hg]; exact (aA (Short.hB HB)) : w.heap.size ≤ gb275)); have n3_ := mk_ ((by rw [hg]; exact (aA (Short.hB HB)) : w.heap.size ≤ gb275)); clear HB; revert n0_ n1_ n2_ n3_; intro HB BK275 GW275 GE275; clear hb hbox hg; obtain ⟨hcz9_0, hcz9_1, hfz9_0, hfz9_1⟩ := Short.c2 BK275.out) | (go_at_call 106; (with_reducible refine (gC.calls _ _ l0 a1_0 true _ ?side1 ?side2 A3.out).mono ?_); (case side1 => exact cX_ (aU HR0.out HB.out)); (case side2 => exact HC0.out); rintro e w' ⟨rfl, ⟨nd, rfl⟩⟩; (try first | exact ⟨rfl, _, World.drewN_drewN _ _ _⟩ | exact ⟨rfl, _, Eq.trans (World.drewN_drewN _ _ _) (congrArg (World.drewN _) (Nat.add_assoc _ _ _))⟩); have p277 : 0 ≤ (a1_0 : Int) := of_decide_eq_true z1_; have q277 : a1_0 < (l0.length : Int) := of_decide_eq_true z1_; obtain ⟨ad277, e277, hx277_0⟩ := Kd.at_int HR0.out a1_0 p277 q277; cases e277; replace hx277_0 := up_ HB hx277_0; replace p277 := eq_true p277; replace q277 := eq_true q277)))
 go_ret
 exact ⟨q0, Short.hB HB⟩
def dZ.l0 : Nat → Int → List Int → Int → Int → Option (Int)
 | 0, _, _, _, _ => none
 | k + 1, x3, x6, x7, x8 => if x8 < x7 then (if 0 ≤ x8 then (if x8 < (x6.length : Int) then (if (rd x6 x8) = x3 then (dZ.l0 k x3 x6 x7 (wrap64 (x8 + 1))) else (some (rd x6 x8))) else (none)) else (none)) else (some x3)
def dZ.f (k : Nat) (l0 : List Int) : Option (Int) := dZ.l0 k 0 l0 (l0.length : Int) 0
theorem dZ.calls (k : Nat) (A0 : Option Addr) (c0 : Nat) (l0 : List Int) (r : Int) (w : World) (hr0 : Kd.C (Kd.int .i64) w A0 l0.length l0) (hc0 : l0.length ≤ c0) (h : dZ.f k l0 = some r) :
  Calls Tryz.prog 110 #[.slice A0 l0.length c0] w fun e w' => e = .returned (.int .i64 r) ∧ Drawn0 w w' := by
 have HR0 := mk_ hr0
 have HC0 := mk_ hc0
 clear hr0 hc0
 have H : (dZ.l0 k 0 l0 (l0.length : Int) 0) = some r := h
 clear h
 have H' := mk_ H
 clear H
 go_enter Tryz.func110, Tryz.ntmps110
 go_wp2
 go_loopg [8] k (fun kq v8 w' => ∃ (x8_1 : Int), v8 = .int .i64 x8_1 ∧ Aside0 (dZ.l0 kq 0 l0 (l0.length : Int) x8_1 = some r) ∧ Aside0 (kq ≤ k) ∧ Drawn0 w w')
 case atStart => exact ⟨(0), z4_, H', ⟨Nat.le_refl _⟩, by repeat (first | exact Drawn0.refl _ | apply Drawn0.step)⟩
 case round =>
  clear H'
  try clear c1
  obtain ⟨x8_1, rfl, HA, HK1, ⟨m1, rfl⟩⟩ := hrel
  cases gk with
  | zero => exact absurd HA.out (by simp [dZ.l0])
  | succ k1 =>
   have H := HA.out
   clear HA
   simp only [dZ.l0] at H
   by_cases c2 : x8_1 < (l0.length : Int)
   rotate_left
   ·
    rw [if_neg c2] at H
    have c2b0 : decide (x8_1 < (l0.length : Int)) = false := decide_eq_false c2
    clear c2
    obtain rfl := Option.some.inj H
    go_wp2
    go_ret
    exact ⟨z4_, by repeat (first | exact Drawn0.refl _ | apply Drawn0.step)⟩
   rw [if_pos c2] at H
   have c2b0 : decide (x8_1 < (l0.length : Int)) = true := decide_eq_true c2
   clear c2
   by_cases c3 : 0 ≤ x8_1
   rotate_left
   ·
    rw [if_neg c3] at H
    exact absurd H z6_
   rw [if_pos c3] at H
   have c3b0 : decide (0 ≤ x8_1) = true := decide_eq_true c3
   clear c3
   by_cases c4 : x8_1 < (l0.length : Int)
   rotate_left
   ·
    rw [if_neg c4] at H
    exact absurd H z6_
   rw [if_pos c4] at H
   have c4b0 : decide (x8_1 < (l0.length : Int)) = true := decide_eq_true c4
   clear c4
   by_cases c5 : (rd l0 x8_1) = 0
   rotate_left
   ·
    rw [if_neg c5] at H
    have c5b0 : ((rd l0 x8_1) == 0) = false := beq_eq_false_iff_ne.mpr c5
    have c5b1 : ((rd l0 x8_1) != 0) = true := bne_iff_ne.mpr c5
    obtain rfl := Option.some.inj H
    have p278 : 0 ≤ (x8_1 : Int) := of_decide_eq_true z1_
    have q278 : x8_1 < (l0.length : Int) := of_decide_eq_true z1_
    obtain ⟨ad278, e278, hx278_0⟩ := Kd.at_int HR0.out x8_1 p278 q278
    cases e278
    replace p278 := eq_true p278
    replace q278 := eq_true q278
    go_wp2
    go_ret
    exact ⟨z4_, by repeat (first | exact Drawn0.refl _ | apply Drawn0.step)⟩
   rw [if_pos c5] at H
   have c5b0 : ((rd l0 x8_1) == 0) = true := beq_iff_eq.mpr c5
   have c5b1 : ((rd l0 x8_1) != 0) = false := bne_eq_false_iff_eq.mpr c5
   clear c5
   have H' := mk_ H
   clear H
   have p278 : 0 ≤ (x8_1 : Int) := of_decide_eq_true z1_
   have q278 : x8_1 < (l0.length : Int) := of_decide_eq_true z1_
   obtain ⟨ad278, e278, hx278_0⟩ := Kd.at_int HR0.out x8_1 p278 q278
   cases e278
   replace p278 := eq_true p278
   replace q278 := eq_true q278
   go_wp2
   go_roundg k1
   case measure => have := HK1.out; omega
   case rel => exact ⟨(wrap64 (x8_1 + 1)), z4_, H', ⟨by have := HK1.out; omega⟩, by repeat (first | exact Drawn0.refl _ | apply Drawn0.step)⟩
def cV.f (a0 : Int) : Option (Bool) := some (a0 != a0)
theorem cV.calls (a0 : Int) (r : Bool) (w : World) (h : cV.f a0 = some r) :
  Calls Tryz.prog 112 #[.int .i64 a0] w fun e w' => e = .returned (.bool r) ∧ Drawn0 w w' := by
 have H : (some (a0 != a0)) = some r := h
 clear h
 obtain rfl := Option.some.inj H
 go_enter Tryz.func112, Tryz.ntmps112
 go_wp2
 go_ret
 exact ⟨z4_, by repeat (first | exact Drawn0.refl _ | apply Drawn0.step)⟩
end Go.Proofs.YtjnjfogfpmeacaaGreat.PAll
end
section
namespace Go.Proofs.YtjnjfogfpmeacaaGreat.PAll
open Go.RowKit PrintWords PrintLast PrintMore ZipT PrintWords.Kd PrintMore.Kd
attribute [local go_sem] eP eN fD fA dS dT eO eK   -- for this text's walks alone
set_option linter.unusedVariables false
set_option linter.unusedSimpArgs false
def dY.f (a0 : Int) (a1 : Int) : Option (Int) := (cV.f a0).bind fun t279 => ((cV.f a1).bind fun t280 => (if t279 = true then (if t280 = true then (some 0) else (some (-1))) else (if t280 = true then (some 1) else (if a0 < a1 then (some (-1)) else (if a0 > a1 then (some 1) else (some 0))))))
theorem dY.calls (a0 : Int) (a1 : Int) (r : Int) (w : World) (h : dY.f a0 a1 = some r) :
  Calls Tryz.prog 111 #[.int .i64 a0, .int .i64 a1] w fun e w' => e = .returned (.int .i64 r) ∧ Drawn0 w w' := by
 have H : ((cV.f a0).bind fun t279 => ((cV.f a1).bind fun t280 => (if t279 = true then (if t280 = true then (some 0) else (some (-1))) else (if t280 = true then (some 1) else (if a0 < a1 then (some (-1)) else (if a0 > a1 then (some 1) else (some 0))))))) = some r := h
 clear h
 obtain ⟨t279, A3, H⟩ := Option.bind_eq_some_iff.mp H
 replace A3 := mk_ A3
 obtain ⟨t280, A4, H⟩ := Option.bind_eq_some_iff.mp H
 replace A4 := mk_ A4
 by_cases c5 : t279 = true
 rotate_left
 replace c5 := Bool.eq_false_iff.mpr c5
 subst c5
 rw [if_neg (show ¬ (false = true) by decide)] at H
 by_cases c7 : t280 = true
 rotate_left
 replace c7 := Bool.eq_false_iff.mpr c7
 subst c7
 rw [if_neg (show ¬ (false = true) by decide)] at H
 by_cases c8 : a0 < a1
 rotate_left
 rw [if_neg c8] at H
 have c8b0 : decide (a0 < a1) = false := decide_eq_false c8
 clear c8
 by_cases c9 : a0 > a1
 rotate_left
 rw [if_neg c9] at H
 have c9b0 : decide (a1 < a0) = false := decide_eq_false c9
 clear c9
 obtain rfl := Option.some.inj H
 rotate_right
 rw [if_pos c9] at H
 have c9b0 : decide (a1 < a0) = true := decide_eq_true c9
 clear c9
 obtain rfl := Option.some.inj H
 rotate_right
 rw [if_pos c8] at H
 have c8b0 : decide (a0 < a1) = true := decide_eq_true c8
 clear c8
 obtain rfl := Option.some.inj H
 rotate_right
 subst c7
 rw [if_pos rfl] at H
 obtain rfl := Option.some.inj H
 rotate_right
 subst c5
 rw [if_pos rfl] at H
 by_cases c6 : t280 = true
 rotate_left
 replace c6 := Bool.eq_false_iff.mpr c6
 subst c6
 rw [if_neg (show ¬ (false = true) by decide)] at H
 obtain rfl := Option.some.inj H
 rotate_right
 subst c6
 rw [if_pos rfl] at H
 obtain rfl := Option.some.inj H
 all_goals
  go_enter Tryz.func111, Tryz.ntmps111
  go_wp2_with (first | ((with_reducible refine aE (f := 112) rfl ?_); refine Short.gL (some 8) Tryz.func112 #[.int .i64 a0] (h := ?_); (with_reducible refine (cV.calls a0 _ _ A3.out).mono ?_); rintro e w' ⟨rfl, ⟨nd, rfl⟩⟩; refine ⟨_, rfl, ?_⟩) | ((with_reducible refine aE (f := 112) rfl ?_); refine Short.gL (some 10) Tryz.func112 #[.int .i64 a1] (h := ?_); (with_reducible refine (cV.calls a1 _ _ A4.out).mono ?_); rintro e w' ⟨rfl, ⟨nd, rfl⟩⟩; refine ⟨_, rfl, ?_⟩))
  go_ret
  exact ⟨z4_, by repeat (first | exact Drawn0.refl _ | apply Drawn0.step)⟩
def dW.f (k : Nat) (a0_0 : Int) (a0_1 : Int) (a1_0 : Int) (a1_1 : Int) : Option (Int) := (dY.f a0_0 a1_0).bind fun t283 => ((dY.f a0_1 a1_1).bind fun t284 => ((dZ.f k (([t283, t284] : List Int))).bind fun t288 => (some t288)))
def dW.T1 : Bool × List (List Nat × List Nat) := (true, [([], []), ([0], [0]), ([], []), ([2], [2]), ([1, 3], [1, 3]), ([], []), ([5], [5]), ([], []), ([7], [7]), ([6, 8, 4], [6, 8]), ([4, 9], [4, 9]), ([10, 9], [10]), ([11, 11, 0, 1, 2, 3, 4, 5, 6, 7, 8, 9, 10, 11], [11])])
def dW.B1 : List Nat := [0, 1, 0, 4, 15, 0, 32, 0, 128, 511, 1023, 2047, 4095]
theorem dW.tab1 : rtab .any (opsOf Tryz.f107 1) = dW.T1 := by kernel_rfl
theorem dW.bits1 : waitsOk dW.T1.2 dW.B1 = true := by kernel_rfl
theorem dW.calls (k : Nat) (a0_0 : Int) (a0_1 : Int) (a1_0 : Int) (a1_1 : Int) (r : Int) (w : World) (h : dW.f k a0_0 a0_1 a1_0 a1_1 = some r) :
  Calls Tryz.prog 107 #[.agg #[.int .i64 a0_0, .int .i64 a0_1], .agg #[.int .i64 a1_0, .int .i64 a1_1]] w fun e w' => e = .returned (.int .i64 r) ∧ Below w.heap.size w w' := by
 have hu24 := Tryz.underlying24
 have HB := mk_ (Below.refl w.heap.size w)
 have H : ((dY.f a0_0 a1_0).bind fun t283 => ((dY.f a0_1 a1_1).bind fun t284 => ((dZ.f k (([t283, t284] : List Int))).bind fun t288 => (some t288)))) = some r := h
 clear h
 obtain ⟨t283, A3, H⟩ := Option.bind_eq_some_iff.mp H
 replace A3 := mk_ A3
 obtain ⟨t284, A4, H⟩ := Option.bind_eq_some_iff.mp H
 replace A4 := mk_ A4
 obtain ⟨y285, hy285⟩ : ∃ y_ : List Int, y_ = (([t283, t284] : List Int)) := ⟨_, rfl⟩
 replace H : ((dZ.f k y285).bind fun t288 => (some t288)) = some r := by first | (rw [hy285]; with_reducible exact H) | (have H2_ := (Option.bind_some _ _).symm.trans H; rw [hy285]; with_reducible exact H2_) | (have H2_ := (Option.bind_some _ _).symm.trans H; with_reducible exact H2_) | with_reducible exact H | (rw [hy285]; exact H) | exact H
 have Ny285 := mk_ hy285
 clear hy285
 obtain ⟨t288, A5, H⟩ := Option.bind_eq_some_iff.mp H
 replace A5 := mk_ A5
 obtain rfl := Option.some.inj H
 go_enter Tryz.func107, Tryz.ntmps107
 try go_wp2_with (first | ((with_reducible refine aQ (N := 2) rfl ?_); refine aN ?hg (N := 2) ?hd (cs := #[.int .i64 a0_0, .int .i64 a0_1]) (t := 24) ?hr ?_; (case hd => rfl); (case hg => rfl); (case hr => first | (go_simp; done) | (go_simp; rfl)); intro gb281 hg w6 hbox hb; have n0_ := mk_ (aC (Short.hB HB) hb); have n1_ := mk_ (hbox); have n2_ := mk_ ((by rw [hg]; exact (aA (Short.hB HB)) : w.heap.size ≤ gb281)); have n3_ := mk_ ((by rw [hg]; exact (aA (Short.hB HB)) : w.heap.size ≤ gb281)); clear HB; revert n0_ n1_ n2_ n3_; intro HB BK281 GW281 GE281; clear hb hbox hg) | ((with_reducible refine aQ (N := 3) rfl ?_); refine aN ?hg (N := 3) ?hd (cs := #[.int .i64 a1_0, .int .i64 a1_1]) (t := 24) ?hr ?_; (case hd => rfl); (case hg => rfl); (case hr => first | (go_simp; done) | (go_simp; rfl)); intro gb282 hg w7 hbox hb; have n0_ := mk_ (bB_ BK281 hb); have n1_ := mk_ (aC (Short.hB HB) hb); have n2_ := mk_ (hbox); have n3_ := mk_ ((by rw [hg]; exact (aA (Short.hB HB)) : w.heap.size ≤ gb282)); have n4_ := mk_ ((by rw [hg]; exact (aA (Short.hB HB)) : w.heap.size ≤ gb282)); have n5_ := mk_ ((by rw [hg]; exact Nat.ne_of_lt (eA (Short.bK BK281)) : gb281 ≠ gb282)); have n6_ := mk_ ((by rw [hg]; exact Nat.ne_of_gt (eA (Short.bK BK281)) : gb282 ≠ gb281)); clear BK281 HB; revert n0_ n1_ n2_ n3_ n4_ n5_ n6_; intro BK281 HB BK282 GW282 GE282 NB281_282 NB282_281; clear hb hbox hg))
 have n0_ := mk_ (aI BK281.out)
 have n1_ := mk_ (aI BK282.out)
 have n2_ := mk_ (dE HB.out)
 clear BK281 BK282 HB
 revert n0_ n1_ n2_
 intro BK281 BK282 HB
 refine fM (n := 13) (S := fun w' => w'.cell? ⟨gb281, 0, none⟩ = some (.int .i64 a0_0) ∧ w'.cell? ⟨gb281, 1, none⟩ = some (.int .i64 a0_1) ∧ w'.cell? ⟨gb282, 0, none⟩ = some (.int .i64 a1_0) ∧ w'.cell? ⟨gb282, 1, none⟩ = some (.int .i64 a1_1)) (ds := []) (Steps.Bs 13 0) z2_ rfl rfl ⟨kc_ BK281 0, kc_ BK281 1, kc_ BK282 0, kc_ BK282 1⟩ (fun hHeld => ?_); refine cZ dW.tab1 dW.bits1 (fun HT_ HW_ => ?_)
 generalize w7.drew = w8 at BK281 BK282 HB hHeld ⊢
 refine tI HT_ 0 5 13 1 ?_
 refine tI HT_ 2 7 13 5 ?_
 refine tI HT_ 5 10 13 37 ?_
 refine tI HT_ 7 12 13 165 ?_
 refine tT HT_ HW_ hHeld 1 6 13 167 ?_
 refine tT HT_ HW_ hHeld 3 8 13 175 ?_
 refine tT HT_ HW_ hHeld 6 11 13 239 ?_
 refine tT HT_ HW_ hHeld 8 13 13 495 ?_
 refine one_ (i := 4) (N := some 9) (Steps.Bs 13 511) rfl rfl (cB HT_.out z2_) z5_ (fun K hK => ?_)
 refine goes_ Tryz.func111 z2_ rfl #[.int .i64 a0_0, .int .i64 a1_0] (by rfl) rfl rfl z0_ ?_
 with_reducible refine (dY.calls a0_0 a1_0 t283 _ A3.out).mono ?_
 rintro e w' ⟨rfl, ⟨nd, rfl⟩⟩
 refine ⟨_, rfl, ?_⟩
 refine hK.out _ _ ⟨kc_ BK281 0, kc_ BK281 1, kc_ BK282 0, kc_ BK282 1⟩ (fun hHeld => ?_)
 clear hK K
 refine nrm 9 ?_
 refine one_ (i := 9) (N := some 14) (Steps.Bs 13 1023) rfl rfl (cB HT_.out z2_) z5_ (fun K hK => ?_)
 refine goes_ Tryz.func111 z2_ rfl #[.int .i64 a0_1, .int .i64 a1_1] (by rfl) rfl rfl z0_ ?_
 with_reducible refine (dY.calls a0_1 a1_1 t284 _ A4.out).mono ?_
 rintro e w' ⟨rfl, ⟨nd, rfl⟩⟩
 refine ⟨_, rfl, ?_⟩
 refine hK.out _ _ ⟨kc_ BK281 0, kc_ BK281 1, kc_ BK282 0, kc_ BK282 1⟩ (fun hHeld => ?_)
 clear hK K
 refine nrm 14 ?_
 refine one_ (i := 10) (N := some 15) (Steps.Bs 13 2047) rfl rfl (cB HT_.out z2_) z5_ (fun K hK => ?_)
 refine fO (Kd.int .i64) _ 3 ?hg (N := 15) ?hd (xs := ([t283, t284] : List Int)) (inner := [.int .i64 t283, .int .i64 t284]) (ok := fun _ => True) (okp := fun _ => True) ?hr ?hp (fun _ hk => hk) trivial (Below.refl _ _) (Nat.le_refl _) z6_ ?_; (case hd => rfl); (case hg => rfl); (case hr => first | (go_simp; done) | (go_simp; rfl)); (case hp => exact (Reps.one (show Kd.M (Kd.int .i64) _ _ _ t283 [.int .i64 t283] from rfl) (Reps.one (show Kd.M (Kd.int .i64) _ _ _ t284 [.int .i64 t284] from rfl) (Reps.none _ _))))
 intro v286 w9 ho10 hb hg_ hnew_
 clear hg_ hnew_
 (first | rw [← Ny285.out] at ho10 | (simp only [Int.reduceToNat] at ho10; rw [← Ny285.out] at ho10))
 have n0_ := mk_ (bW ho10 (aA (Short.hB HB)))
 have n1_ := mk_ (bB_ BK281 hb)
 have n2_ := mk_ (bB_ BK282 hb)
 have n3_ := mk_ (aC (Short.hB HB) hb)
 clear BK281 BK282 HB
 revert n0_ n1_ n2_ n3_
 intro HO287 BK281 BK282 HB
 clear hb ho10
 obtain ⟨Ao11, co11, eo11⟩ := cU HO287.out
 (first | subst eo11 | (injection eo11 with f1_ f2_ f3_; have f4_ := f1_.symm; have f5_ := f3_.symm; clear f1_ f2_ f3_; subst f4_; subst f5_))
 refine hK.out _ _ ⟨kc_ BK281 0, kc_ BK281 1, kc_ BK282 0, kc_ BK282 1⟩ (fun hHeld => ?_)
 clear hK K
 refine nrm 15 ?_
 refine one_ (i := 11) (N := some 16) (Steps.Bs 13 4095) rfl rfl (cB HT_.out z2_) z5_ (fun K hK => ?_)
 refine goes_ Tryz.func110 z2_ rfl #[.slice Ao11 y285.length co11] (by rfl) rfl rfl z0_ ?_
 with_reducible refine (dZ.calls k _ _ y285 t288 _ ?side1 ?side2 A5.out).mono ?_
 (case side1 => exact cX_ (R_reads' HO287.out).2.2)
 (case side2 => exact (R_reads' HO287.out).2.1)
 rintro e w' ⟨rfl, ⟨nd, rfl⟩⟩
 refine ⟨_, rfl, ?_⟩
 refine hK.out _ _ ⟨kc_ BK281 0, kc_ BK281 1, kc_ BK282 0, kc_ BK282 1⟩ (fun hHeld => ?_)
 clear hK K
 refine nrm 16 ?_
 refine tI HT_ 12 4 13 8191 ?_
 refine done_ (cC HT_.out z2_) ?_
 try go_wp2
 go_ret
 exact ⟨q0, Short.hB HB⟩
def gY.f (k : Nat) (a0_0 : Int) (a0_1 : Int) (a1_0 : Int) (a1_1 : Int) : Option (Bool) := (dW.f k a0_0 a0_1 a1_0 a1_1).bind fun t291 => (some (decide (t291 < 0)))
theorem gY.calls (k : Nat) (a0_0 : Int) (a0_1 : Int) (a1_0 : Int) (a1_1 : Int) (r : Bool) (w : World) (h : gY.f k a0_0 a0_1 a1_0 a1_1 = some r) :
  Calls Tryz.prog 90 #[.agg #[.int .i64 a0_0, .int .i64 a0_1], .agg #[.int .i64 a1_0, .int .i64 a1_1]] w fun e w' => e = .returned (.bool r) ∧ Below w.heap.size w w' := by
 have hu24 := Tryz.underlying24
 have HB := mk_ (Below.refl w.heap.size w)
 have H : ((dW.f k a0_0 a0_1 a1_0 a1_1).bind fun t291 => (some (decide (t291 < 0)))) = some r := h
 clear h
 obtain ⟨t291, A3, H⟩ := Option.bind_eq_some_iff.mp H
 replace A3 := mk_ A3
 obtain rfl := Option.some.inj H
 go_enter Tryz.func90, Tryz.ntmps90
 go_wp2_with (first | ((with_reducible refine aQ (N := 2) rfl ?_); refine aN ?hg (N := 2) ?hd (cs := #[.int .i64 a0_0, .int .i64 a0_1]) (t := 24) ?hr ?_; (case hd => rfl); (case hg => rfl); (case hr => first | (go_simp; done) | (go_simp; rfl)); intro gb289 hg w4 hbox hb; have n0_ := mk_ (aC (Short.hB HB) hb); have n1_ := mk_ (hbox); have n2_ := mk_ ((by rw [hg]; exact (aA (Short.hB HB)) : w.heap.size ≤ gb289)); have n3_ := mk_ ((by rw [hg]; exact (aA (Short.hB HB)) : w.heap.size ≤ gb289)); clear HB; revert n0_ n1_ n2_ n3_; intro HB BK289 GW289 GE289; clear hb hbox hg) | ((with_reducible refine aQ (N := 3) rfl ?_); refine aN ?hg (N := 3) ?hd (cs := #[.int .i64 a1_0, .int .i64 a1_1]) (t := 24) ?hr ?_; (case hd => rfl); (case hg => rfl); (case hr => first | (go_simp; done) | (go_simp; rfl)); intro gb290 hg w5 hbox hb; have n0_ := mk_ (bB_ BK289 hb); have n1_ := mk_ (aC (Short.hB HB) hb); have n2_ := mk_ (hbox); have n3_ := mk_ ((by rw [hg]; exact (aA (Short.hB HB)) : w.heap.size ≤ gb290)); have n4_ := mk_ ((by rw [hg]; exact (aA (Short.hB HB)) : w.heap.size ≤ gb290)); have n5_ := mk_ ((by rw [hg]; exact Nat.ne_of_lt (eA (Short.bK BK289)) : gb289 ≠ gb290)); have n6_ := mk_ ((by rw [hg]; exact Nat.ne_of_gt (eA (Short.bK BK289)) : gb290 ≠ gb289)); clear BK289 HB; revert n0_ n1_ n2_ n3_ n4_ n5_ n6_; intro BK289 HB BK290 GW290 GE290 NB289_290 NB290_289; clear hb hbox hg; have hnb6 := NB289_290.out; have hnc6 := NB290_289.out; obtain ⟨hcz_0, hcz_1, hfz_0, hfz_1⟩ := Short.c2 BK289.out; obtain ⟨hcz_0, hcz_1, hfz_0, hfz_1⟩ := Short.c2 BK290.out) | ((with_reducible refine aE (f := 107) rfl ?_); refine Short.gL (some 7) Tryz.func107 #[.agg #[.int .i64 a0_0, .int .i64 a0_1], .agg #[.int .i64 a1_0, .int .i64 a1_1]] (h := ?_); (with_reducible refine (dW.calls k a0_0 a0_1 a1_0 a1_1 t291 _ A3.out).mono ?_); rintro e w9 ⟨rfl, hb⟩; refine ⟨_, rfl, ?_⟩; have n0_ := mk_ (bB_ BK289 hb); have n1_ := mk_ (bB_ BK290 hb); have n2_ := mk_ (aC (Short.hB HB) hb); clear BK289 BK290 HB; revert n0_ n1_ n2_; intro BK289 BK290 HB; (try clear hb)))
 go_ret
 exact ⟨q0, Short.hB HB⟩
end Go.Proofs.YtjnjfogfpmeacaaGreat.PAll
end
