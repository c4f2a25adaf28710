/-
  value: what the program's functions compute, told without them. Nothing of the machine stands here.
-/
import Derived.Test.YteicflbjhcddoaaRefWire
import Derived.Sort.Walk0
import Derived.Test.YteicflbjhcddoaaPAllx1
import Derived.Test.YteicflbjhcddoaaPAllx2
import Derived.Test.YteicflbjhcddoaaPAllx3
import Derived.Test.YteicflbjhcddoaaPAllx5
import Derived.Test.YteicflbjhcddoaaPAllx6
namespace Go.Proofs.Yteicflbjhcddoaa.Plain
open Go.RowKit Go.Proofs.Yteicflbjhcddoaa.PAll Go.Proofs.YteicflbjhcddoaaW.PrintWords Go.Proofs.YteicflbjhcddoaaW.PrintLast Go.Proofs.YteicflbjhcddoaaW.PrintMore
set_option linter.unusedVariables false
set_option linter.unusedSimpArgs false

theorem toList_nil (s : ByteArray) : s.toList = ([] : List UInt8) ↔ s.size = 0 := by
  rw [toList_data, show s.size = s.data.toList.length from by rw [Array.length_toList]; rfl]
  exact List.length_eq_zero_iff.symm
theorem toList_inj {s t : ByteArray} : s.toList = t.toList ↔ s = t := by
  rw [toList_data, toList_data]
  constructor
  · intro h
    have : s.data = t.data := by rw [← Array.toList_inj]; exact h
    cases s; cases t; simp_all
  · intro h; rw [h]
def E0 : ByteArray := ⟨#[]⟩
theorem e0_size : (⟨#[]⟩ : ByteArray).size = 0 := rfl
theorem size_zero {s : ByteArray} (h : s.size = 0) : s = ⟨#[]⟩ := by
  rw [← toList_inj, (toList_nil s).2 h]; exact ((toList_nil _).2 rfl).symm

/-- May a value be? -/
def vOk (k i : Int) (s : ByteArray) : Prop :=
  (k = 1 ∧ i = 0 ∧ s.size = 0) ∨ (k = 2 ∧ (i = 0 ∨ i = 1) ∧ s.size = 0) ∨ (k = 3 ∧ (-1152921504606846976 ≤ i ∧ i ≤ 1152921504606846976) ∧ s.size = 0) ∨ (k = 4 ∧ i = 0 ∧ s.size ≤ 24)
instance (k i : Int) (s : ByteArray) : Decidable (vOk k i s) := by unfold vOk; infer_instance

theorem within_v (n m : Int) (h0 : 0 ≤ m) (h1 : m ≤ 9223372036854775807) : value_within.f n m = some (decide (-m ≤ n ∧ n ≤ m)) := by
  unfold value_within.f
  rw [w64 (x := -m) (by omega) (by omega)]
  by_cases h : n ≥ -m
  · rw [if_pos h]; congr 1; simp; omega
  · rw [if_neg h]; congr 1; simp; omega
theorem check_eq (k i : Int) (s : ByteArray) : value_Check.f k i s = some (if vOk k i s then 0 else 1) := by
  unfold value_Check.f
  rw [within_v i 1152921504606846976 (by omega) (by omega)]
  simp only [toList_nil, Option.bind_some, decide_eq_true_eq]
  by_cases ho : vOk k i s
  · rw [if_pos ho]; unfold vOk at ho; repeat' split
    all_goals first | rfl | (exfalso; omega)
  · rw [if_neg ho]; unfold vOk at ho; repeat' split
    all_goals first | rfl | (exfalso; omega)
theorem rvalue_eq (k i : Int) (s : ByteArray) : raddleref01_Value.f k i s = some (decide (vOk k i s)) := by
  unfold raddleref01_Value.f
  simp only [rin_eq, Option.bind_some, decide_eq_true_eq]
  have hn : (s.toList == ([] : List UInt8)) = decide (s.size = 0) := by
    by_cases h : s.size = 0
    · rw [(toList_nil s).2 h, decide_eq_true h]; rfl
    · rw [decide_eq_false h, beq_eq_false_iff_ne]; exact fun e => h ((toList_nil s).1 e)
  rw [hn]
  by_cases ho : vOk k i s
  · rw [decide_eq_true ho]; unfold vOk at ho; repeat' split
    all_goals first | rfl | (exfalso; omega) | (congr 1; rw [decide_eq_true_eq]; omega)
  · rw [decide_eq_false ho]; unfold vOk at ho; repeat' split
    all_goals first | rfl | (exfalso; omega) | (congr 1; rw [decide_eq_false_iff_not]; omega)

/-! ### the order -/
def less (s t : ByteArray) : Bool := Op.bytesLess s.toList t.toList
def sgn (b : Prop) [Decidable b] : Int := if b then -1 else 1
def cStr (s t : ByteArray) : Int := if less s t = true then -1 else if s = t then 0 else 1
def cInt (a b : Int) : Int := if a < b then -1 else if a = b then 0 else 1
def sCmp (k1 i1 : Int) (s1 : ByteArray) (k2 i2 : Int) (s2 : ByteArray) : Int :=
  if k1 = k2 then (if i1 = i2 then cStr s1 s2 else cInt i1 i2) else cInt k1 k2
theorem less_irrefl (s : ByteArray) : less s s = false := by
  unfold less; rw [Go.Proofs.bytesLess_eq]; exact decide_eq_false (List.lt_irrefl _)
theorem cmpInt_eq (a b : Int) : cmp_Compare_int.f a b = some (cInt a b) := by
  unfold cmp_Compare_int.f cmp_isNaN_int.f cInt
  simp only [Option.bind_some, bne_self_eq_false, Bool.false_eq_true, if_false]
  repeat' split
  all_goals first | rfl | omega
theorem cmpStr_eq (a b : ByteArray) : cmp_Compare_string.f a b = some (cStr a b) := by
  unfold cmp_Compare_string.f cmp_isNaN_string.f cStr less
  simp only [Option.bind_some, bne_self_eq_false, Bool.false_eq_true, if_false, toList_inj]
  repeat' split
  all_goals first | rfl | omega
theorem or3_eq (k : Nat) (a b c : Int) (hk : 10 ≤ k) : cmp_Or_int.f k [a, b, c] = some (if a = 0 then (if b = 0 then c else b) else a) := by
  obtain ⟨k, rfl⟩ : ∃ m, k = m + 4 := ⟨k - 4, by omega⟩
  have e1 : wrap64 (0 + 1) = 1 := w64 (by omega) (by omega)
  have e2 : wrap64 (1 + 1) = 2 := w64 (by omega) (by omega)
  have e3 : wrap64 (2 + 1) = 3 := w64 (by omega) (by omega)
  have r0 : rd [a, b, c] 0 = a := rfl
  have r1 : rd [a, b, c] 1 = b := rfl
  have r2 : rd [a, b, c] 2 = c := rfl
  have hl : (([a, b, c] : List Int).length : Int) = 3 := rfl
  unfold cmp_Or_int.f
  rw [hl]
  generalize [a, b, c] = l at *
  simp only [cmp_Or_int.l0, e1, e2, e3, hl, r0, r1, r2]
  by_cases h1 : a = 0
  · by_cases h2 : b = 0
    · by_cases h3 : c = 0 <;> simp [h1, h2, h3]
    · simp [h1, h2]
  · simp [h1]
theorem vcompare_eq (k : Nat) (k1 i1 : Int) (s1 : ByteArray) (k2 i2 : Int) (s2 : ByteArray) (hk : 10 ≤ k) : value_Compare.f k k1 i1 s1 k2 i2 s2 = some (sCmp k1 i1 s1 k2 i2 s2) := by
  unfold value_Compare.f sCmp
  rw [cmpInt_eq, Option.bind_some, cmpInt_eq, Option.bind_some, cmpStr_eq, Option.bind_some, or3_eq _ _ _ _ hk, Option.bind_some]
  congr 1
  unfold cInt
  repeat' split
  all_goals first | rfl | omega
theorem rcompare_eq (k1 i1 : Int) (s1 : ByteArray) (k2 i2 : Int) (s2 : ByteArray) : raddleref01_Compare.f k1 i1 s1 k2 i2 s2 = some (sCmp k1 i1 s1 k2 i2 s2) := by
  unfold raddleref01_Compare.f sCmp raddleref01_sign.f
  simp only [toList_inj, decide_eq_true_eq]
  by_cases h1 : k1 = k2
  · rw [if_pos h1, if_pos h1]
    by_cases h2 : i1 = i2
    · rw [if_pos h2, if_pos h2]
      unfold cStr
      by_cases h3 : s1 = s2
      · rw [if_pos h3, h3, less_irrefl]; simp
      · rw [if_neg h3]
        show ((if less s1 s2 = true then some (-1) else some 1).bind fun t => some t) = _
        by_cases h4 : less s1 s2 = true
        · rw [if_pos h4, if_pos h4]; rfl
        · rw [if_neg h4, if_neg h4, if_neg h3]; rfl
    · rw [if_neg h2, if_neg h2]
      unfold cInt
      repeat' split
      all_goals first | rfl | omega
  · rw [if_neg h1, if_neg h1]
    unfold cInt
    repeat' split
    all_goals first | rfl | omega
theorem keepValue_eq (k1 i1 : Int) (s1 : ByteArray) (k2 i2 : Int) (s2 : ByteArray) : raddlekeep_Value.f k1 i1 s1 k2 i2 s2 = some (decide (k1 = k2 ∧ i1 = i2 ∧ s1 = s2)) := by
  unfold raddlekeep_Value.f
  by_cases h1 : k1 = k2
  · rw [if_pos h1]
    by_cases h2 : i1 = i2
    · rw [if_pos h2]; congr 1
      by_cases h3 : s1 = s2
      · simp [h1, h2, h3]
      · rw [decide_eq_false (by simp [h3]), beq_eq_false_iff_ne]; exact fun e => h3 (toList_inj.1 e)
    · rw [if_neg h2]; simp [h2]
  · rw [if_neg h1]; simp [h1]

/-! ### Fits, Small -/
def vFits (k i : Int) (s : ByteArray) (t : Int) : Prop := (2 ≤ t ∧ t ≤ 4) ∧ vOk k i s ∧ (k = t ∨ k = 1)
instance (k i : Int) (s : ByteArray) (t : Int) : Decidable (vFits k i s t) := by unfold vFits; infer_instance
theorem beq_one (k : Int) : (k == 1) = decide (k = 1) := by by_cases h : k = 1 <;> simp [h]
theorem fits_eq (k i : Int) (s : ByteArray) (t : Int) : value_Fits.f k i s t = some (decide (vFits k i s t)) := by
  unfold value_Fits.f vFits
  simp only [check_eq, Option.bind_some, beq_one]
  by_cases ho : vOk k i s
  · simp only [ho, if_true, true_and]
    repeat' split
    all_goals first | rfl | (exfalso; omega) | (congr 1; rw [decide_eq_decide]; omega) | (congr 1; rw [eq_comm, decide_eq_true_eq]; omega) | (congr 1; rw [eq_comm, decide_eq_false_iff_not]; omega)
  · simp only [ho, if_false, false_and, and_false]
    repeat' split
    all_goals first | rfl | (exfalso; omega) | (congr 1; rw [decide_eq_decide]; omega) | (congr 1; rw [eq_comm, decide_eq_true_eq]; omega) | (congr 1; rw [eq_comm, decide_eq_false_iff_not]; omega)
theorem rfits_eq (k i : Int) (s : ByteArray) (t : Int) : raddleref01_Fits.f k i s t = some (decide (vFits k i s t)) := by
  unfold raddleref01_Fits.f raddleref01_Type.f vFits
  simp only [rvalue_eq, rin_eq, Option.bind_some, beq_one, decide_eq_true_eq]
  by_cases ho : vOk k i s
  · simp only [ho, if_true, true_and]
    repeat' split
    all_goals first | rfl | (exfalso; omega) | (congr 1; rw [decide_eq_decide]; omega) | (congr 1; rw [eq_comm, decide_eq_true_eq]; omega) | (congr 1; rw [eq_comm, decide_eq_false_iff_not]; omega)
  · simp only [ho, if_false, false_and, and_false]
    repeat' split
    all_goals first | rfl | (exfalso; omega) | (congr 1; rw [decide_eq_decide]; omega) | (congr 1; rw [eq_comm, decide_eq_true_eq]; omega) | (congr 1; rw [eq_comm, decide_eq_false_iff_not]; omega)
def vSmall (k i : Int) (s : ByteArray) : Prop := vOk k i s ∧ (k = 3 → -2147483648 ≤ i ∧ i ≤ 2147483648)
instance (k i : Int) (s : ByteArray) : Decidable (vSmall k i s) := by unfold vSmall; infer_instance
theorem small_eq (k i : Int) (s : ByteArray) : value_Small.f k i s = some (decide (vSmall k i s)) := by
  unfold value_Small.f vSmall
  simp only [check_eq, within_v i 2147483648 (by omega) (by omega), Option.bind_some]
  by_cases ho : vOk k i s
  · simp only [ho, if_true, true_and]
    by_cases h : k = 3 <;> simp [h]
  · simp [ho]
theorem rsmall_eq (k i : Int) (s : ByteArray) : raddleref01_Small.f k i s = some (decide (vSmall k i s)) := by
  unfold raddleref01_Small.f vSmall
  simp only [rvalue_eq, rin_eq, Option.bind_some, decide_eq_true_eq]
  by_cases ho : vOk k i s
  · simp only [ho, if_true, true_and]
    by_cases h : k = 3 <;> simp [h]
  · simp [ho]

/-! ### a value's bytes -/
def sVB (k i : Int) (s : ByteArray) : List Int := if k = 2 then [2, i] else if k = 3 then 3 :: intB i else if k = 4 then 4 :: (s.size : Int) :: bytesOf s else [1]
theorem vbytes_eq (fuel : Nat) (k i : Int) (s : ByteArray) (hk : 30 ≤ fuel) : value_Bytes.f fuel k i s = some (if vOk k i s then (sVB k i s, 0) else ([], 1)) := by
  unfold value_Bytes.f
  rw [check_eq, Option.bind_some]
  by_cases ho : vOk k i s
  · rw [if_pos ho, if_pos rfl, Option.bind_some]
    have ho' := ho
    unfold vOk at ho'
    unfold sVB
    by_cases h2 : k = 2
    · rw [if_pos h2, if_pos h2, if_pos (by simp), if_pos ho]
      subst h2
      have : i % 256 = i := by omega
      simp [this]
    rw [if_neg h2, if_neg h2]
    by_cases h3 : k = 3
    · rw [if_pos h3, if_pos h3, putInt_eq _ _ _ (by simp) (by omega), Option.bind_some, if_pos ho]
      subst h3
      unfold sPutInt
      rw [if_pos (by omega)]
      simp
    rw [if_neg h3, if_neg h3]
    by_cases h4 : k = 4
    · rw [if_pos h4, if_pos h4, putText_eq _ _ (by simp), Option.bind_some, if_pos ho]
      subst h4
      unfold sPutText
      rw [if_pos (by omega)]
      simp
    have h1 : k = 1 := by omega
    rw [if_neg h4, if_neg h4, if_pos ho, h1]
    rfl
  · rw [if_neg ho, if_neg (by decide), if_neg ho]
theorem rvbytes_eq (fuel : Nat) (k i : Int) (s : ByteArray) (ho : vOk k i s) (hk : 30 ≤ fuel) : raddleref01_ValueBytes.f fuel k i s = some (sVB k i s) := by
  unfold raddleref01_ValueBytes.f
  rw [Option.bind_some]
  have ho' := ho
  unfold vOk at ho'
  unfold sVB
  by_cases h2 : k = 2
  · rw [if_pos h2, if_pos h2, if_pos (by simp)]
    subst h2
    have : i % 256 = i := by omega
    simp [this]
  rw [if_neg h2, if_neg h2]
  by_cases h3 : k = 3
  · rw [if_pos h3, if_pos h3, rintB_eq _ _ (by omega) (by omega) (by omega), Option.bind_some, if_pos (by rw [intB_length]; simp)]
    subst h3
    simp
  rw [if_neg h3, if_neg h3]
  by_cases h4 : k = 4
  · rw [if_pos h4, if_pos h4, if_pos (by simp), Option.bind_some, if_pos (by simp; omega)]
    subst h4
    have : (s.size : Int) % 256 = s.size := by omega
    simp [this]
  have h1 : k = 1 := by omega
  rw [if_neg h4, if_neg h4, h1]
  rfl

/-! ### a value read -/
def bad (e : Int) : Int × Int × ByteArray × Int × Int := (0, 0, ⟨#[]⟩, 0, e)
def sVRead (l : List Int) (at_ : Int) : Int × Int × ByteArray × Int × Int :=
  if 0 ≤ at_ ∧ at_ ≤ l.length then
    (if at_ = l.length then bad 3
     else if rd l at_ = 1 then (1, 0, ⟨#[]⟩, at_ + 1, 0)
     else if rd l at_ = 2 then (if at_ + 1 < l.length ∧ rd l (at_ + 1) ≤ 1 then (2, rd l (at_ + 1), ⟨#[]⟩, at_ + 2, 0) else bad 3)
     else if rd l at_ = 3 then (if (sGetInt l (at_ + 1)).2.2 = 0 then (3, (sGetInt l (at_ + 1)).1, ⟨#[]⟩, (sGetInt l (at_ + 1)).2.1, 0) else bad 3)
     else if rd l at_ = 4 then (if (sGetText l (at_ + 1)).2.2 = 0 then (4, 0, (sGetText l (at_ + 1)).1, (sGetText l (at_ + 1)).2.1, 0) else bad 3)
     else bad 3)
  else bad 1
theorem sub_one {l : List Int} {i : Int} (h0 : 0 ≤ i) (h1 : i < l.length) : sub l i.toNat (i + 1).toNat = [rd l i] := by
  obtain ⟨j, rfl⟩ := Int.eq_ofNat_of_zero_le h0
  rw [Int.toNat_natCast, show ((j : Int) + 1).toNat = j + 1 from by omega, sub_cons (by omega) (by omega)]
  have : sub l (j + 1) (j + 1) = [] := List.eq_nil_of_length_eq_zero (by rw [sub_length (by omega)]; omega)
  rw [this]
theorem sGet_one (l : List Int) (at_ : Int) : sGet l at_ 1 = if 0 ≤ at_ ∧ at_ ≤ l.length then (if at_ = l.length then (0, 0, 3) else (rd l at_, at_ + 1, 0)) else (0, 0, 1) := by
  unfold sGet
  by_cases h : 0 ≤ at_ ∧ at_ ≤ l.length
  · rw [if_pos (by omega), if_pos h]
    by_cases h2 : at_ = l.length
    · rw [if_pos (by omega), if_pos h2]
    · rw [if_neg (by omega), if_neg h2, sub_one (by omega) (by omega)]
      simp [val]
  · rw [if_neg (by omega), if_neg h]
theorem sGet_next (l : List Int) (at_ : Int) (h : 0 ≤ at_ ∧ at_ ≤ l.length) (h2 : ¬ at_ = l.length) : sGet l (at_ + 1) 1 = if at_ + 1 = l.length then (0, 0, 3) else (rd l (at_ + 1), at_ + 1 + 1, 0) := by
  rw [sGet_one, if_pos (by omega)]
theorem getInt_bd {l : List Int} {at_ : Int} (h : (sGetInt l at_).2.2 = 0) : -1152921504606846976 ≤ (sGetInt l at_).1 ∧ (sGetInt l at_).1 ≤ 1152921504606846976 ∨ ¬ Bytes l := by
  by_cases hb : Bytes l
  · left
    have hv := val_nonneg (sub l (at_ + 1).toNat (at_ + 9).toNat) 0 (by omega) (sub_bytes hb _ _)
    unfold sGetInt at h ⊢
    split at h
    · rename_i h1
      rw [if_pos h1]
      split at h
      · simp at h
      · rename_i h2
        rw [if_neg h2]
        split <;> simp only <;> omega
    · simp at h
  · exact .inr hb
theorem div_of {n p q : Int} (hp : 0 < p) (h0 : q * p ≤ n) (h1 : n < (q + 1) * p) : n / p = q := by
  have h2 : (q + 1) * p = q * p + p := by rw [Int.add_mul, Int.one_mul]
  exact ((Int.ediv_emod_unique (r := n - q * p) hp).2 ⟨by rw [Int.mul_comm p q]; omega, by omega, by omega⟩).1
theorem big_val (l : List Int) (hb : Bytes l) : big (val 0 l) l.length = l := by
  suffices ∀ a : Int, 0 ≤ a → big (val a l) l.length = l from this 0 (by omega)
  induction l with
  | nil => intro a _; rfl
  | cons b l ih =>
    intro a ha
    have hh := hb.head
    unfold Byte at hh
    have hv0 := val_ge l (a * 256 + b) (by omega) hb.tail
    have hv1 := val_lt l (a * 256 + b) (by omega) hb.tail
    rw [List.length_cons, big]
    show val (a * 256 + b) l / 256 ^ l.length % 256 :: big (val (a * 256 + b) l) l.length = _
    rw [div_of (pow_pos _) hv0 hv1, ih hb.tail _ (by omega)]
    congr 1
    omega
/-- What was got stood there as it is put. -/
theorem getInt_sub {l : List Int} {at_ : Int} (hb : Bytes l) (h : (sGetInt l at_).2.2 = 0) : (sGetInt l at_).2.1 = at_ + 9 ∧ (0 ≤ at_ ∧ at_ + 9 ≤ l.length) ∧ intB (sGetInt l at_).1 = sub l at_.toNat (at_ + 9).toNat := by
  have hv := val_nonneg (sub l (at_ + 1).toNat (at_ + 9).toNat) 0 (by omega) (sub_bytes hb _ _)
  have hr := hb.rd at_
  unfold Byte at hr
  unfold sGetInt at h ⊢
  by_cases h1 : 0 ≤ at_ ∧ at_ ≤ l.length
  rotate_left
  · rw [if_neg h1] at h; simp at h
  rw [if_pos h1] at h ⊢
  by_cases h2 : l.length - at_ < 9 ∨ rd l at_ > 1 ∨ val 0 (sub l (at_ + 1).toNat (at_ + 9).toNat) > 1152921504606846976 ∨ (rd l at_ = 1 ∧ val 0 (sub l (at_ + 1).toNat (at_ + 9).toNat) = 0)
  · rw [if_pos h2] at h; simp at h
  rw [if_neg h2]
  obtain ⟨i, rfl⟩ := Int.eq_ofNat_of_zero_le h1.1
  have hb8 : big (val 0 (sub l ((i : Int) + 1).toNat ((i : Int) + 9).toNat)) 8 = sub l ((i : Int) + 1).toNat ((i : Int) + 9).toNat := by
    have := big_val (sub l ((i : Int) + 1).toNat ((i : Int) + 9).toNat) (sub_bytes hb _ _)
    rw [sub_length (by omega), show ((i : Int) + 9).toNat - ((i : Int) + 1).toNat = 8 from by omega] at this
    exact this
  have hc : sub l (i : Int).toNat ((i : Int) + 9).toNat = rd l (i : Int) :: sub l ((i : Int) + 1).toNat ((i : Int) + 9).toNat := by
    rw [Int.toNat_natCast, show ((i : Int) + 1).toNat = i + 1 from by omega, sub_cons (by omega) (by omega)]
  rw [hc]
  by_cases h3 : rd l (i : Int) = 1
  · rw [if_pos h3]
    refine ⟨rfl, by omega, ?_⟩
    unfold intB
    simp only
    rw [if_pos (by omega), Int.neg_neg, hb8, h3]
  · rw [if_neg h3]
    refine ⟨rfl, by omega, ?_⟩
    unfold intB
    simp only
    rw [if_neg (by omega), hb8, show rd l (i : Int) = 0 from by omega]
theorem getText_sub {l : List Int} {at_ : Int} (hb : Bytes l) (h : (sGetText l at_).2.2 = 0) : (at_ + 1 ≤ (sGetText l at_).2.1 ∧ (sGetText l at_).2.1 ≤ l.length) ∧ 0 ≤ at_ ∧ ((sGetText l at_).1.size : Int) :: bytesOf (sGetText l at_).1 = sub l at_.toNat (sGetText l at_).2.1.toNat := by
  have hr := hb.rd at_
  unfold Byte at hr
  unfold sGetText at h ⊢
  by_cases h1 : 0 ≤ at_ ∧ at_ ≤ l.length
  rotate_left
  · rw [if_neg h1] at h; simp at h
  rw [if_pos h1] at h ⊢
  by_cases h2 : at_ = l.length ∨ rd l at_ > 24 ∨ l.length - at_ - 1 < rd l at_
  · rw [if_pos h2] at h; simp at h
  rw [if_neg h2]
  obtain ⟨i, rfl⟩ := Int.eq_ofNat_of_zero_le h1.1
  refine ⟨by simp only; omega, by omega, ?_⟩
  simp only
  rw [strOfNums_size, bytesOf_strOfNums (sub_bytes hb _ _), sub_length (by omega), Int.toNat_natCast, show ((i : Int) + 1).toNat = i + 1 from by omega, sub_cons (i := i) (by omega) (by omega)]
  congr 1
  omega
theorem getText_bd {l : List Int} {at_ : Int} (hb : Bytes l) (h : (sGetText l at_).2.2 = 0) : (sGetText l at_).1.size ≤ 24 := by
  have hr := hb.rd at_
  unfold Byte at hr
  unfold sGetText at h ⊢
  split at h
  · rename_i h1
    rw [if_pos h1]
    split at h
    · simp at h
    · rename_i h2
      rw [if_neg h2]
      simp only
      rw [strOfNums_size, sub_length (by omega)]
      omega
  · simp at h
theorem vread_eq (fuel : Nat) (l : List Int) (at_ : Int) (hb : Bytes l) (hl : l.length ≤ 1000000) (ha : at_ ≤ 9223372036854775807) (hk : 30 ≤ fuel) : value_Read.f fuel l at_ = some (sVRead l at_) := by
  unfold value_Read.f sVRead
  rw [get_eq _ _ _ _ hb hl ha (by omega), Option.bind_some, sGet_one]
  by_cases h : 0 ≤ at_ ∧ at_ ≤ l.length
  rotate_left
  · rw [if_neg h, if_neg h, if_neg (by decide)]; rfl
  rw [if_pos h, if_pos h]
  by_cases h2 : at_ = l.length
  · rw [if_pos h2, if_pos h2, if_neg (by decide)]; rfl
  have hr := hb.rd at_
  unfold Byte at hr
  rw [if_neg h2, if_neg h2, if_pos rfl]
  simp only
  by_cases k2 : rd l at_ = 2
  · rw [if_pos k2, if_neg (by omega), if_pos k2, get_eq _ _ _ _ hb hl (by omega) (by omega), Option.bind_some, sGet_next _ _ h h2]
    have hr1 := hb.rd (at_ + 1)
    unfold Byte at hr1
    by_cases h3 : at_ + 1 = l.length
    · rw [if_pos h3]
      simp only
      rw [if_neg (show ¬ ((3 : Int) = 0) by decide), if_neg (by omega)]; rfl
    · rw [if_neg h3]
      simp only
      rw [if_pos trivial, check_eq, Option.bind_some, k2]
      by_cases h4 : rd l (at_ + 1) ≤ 1
      · rw [if_pos (show vOk 2 (rd l (at_ + 1)) ⟨#[]⟩ from .inr (.inl ⟨rfl, by omega, rfl⟩)), if_pos rfl, if_pos (by omega), show at_ + 1 + 1 = at_ + 2 from by omega]
      · rw [if_neg (show ¬ vOk 2 (rd l (at_ + 1)) ⟨#[]⟩ from by unfold vOk; omega), if_neg (by decide), if_neg (by omega)]; rfl
  rw [if_neg k2]
  by_cases k3 : rd l at_ = 3
  · rw [if_pos k3, if_neg (by omega), if_neg k2, if_pos k3, getInt_eq _ _ _ hb hl (by omega) (by omega), Option.bind_some, k3]
    by_cases h4 : (sGetInt l (at_ + 1)).2.2 = 0
    · have := (getInt_bd h4).resolve_right (fun h => h hb)
      rw [if_pos h4, if_pos h4, check_eq, Option.bind_some, if_pos (show vOk 3 _ ⟨#[]⟩ from .inr (.inr (.inl ⟨rfl, this, rfl⟩))), if_pos rfl]
    · rw [if_neg h4, if_neg h4]; rfl
  rw [if_neg k3]
  by_cases k4 : rd l at_ = 4
  · rw [if_pos k4, if_neg (by omega), if_neg k2, if_neg k3, if_pos k4, getText_eq _ _ _ hb hl (by omega) (by omega), Option.bind_some, k4]
    by_cases h4 : (sGetText l (at_ + 1)).2.2 = 0
    · have := getText_bd hb h4
      rw [if_pos h4, if_pos h4, check_eq, Option.bind_some, if_pos (show vOk 4 0 _ from .inr (.inr (.inr ⟨rfl, rfl, this⟩))), if_pos rfl]
    · rw [if_neg h4, if_neg h4]; rfl
  rw [if_neg k4, check_eq, Option.bind_some, if_neg k2, if_neg k3, if_neg k4]
  by_cases k1 : rd l at_ = 1
  · rw [if_pos k1, k1, if_pos (show vOk 1 0 ⟨#[]⟩ from .inl ⟨rfl, rfl, rfl⟩), if_pos rfl]
  · rw [if_neg k1, if_neg (by unfold vOk; omega)]; rfl
/-! ### what was written is read, what was read is written -/
theorem len_one (a : List Int) (x : Int) : ((a ++ [x]).length : Int) = (a.length : Int) + 1 := by simp
theorem vread_put (a c : List Int) (k i : Int) (s : ByteArray) (ho : vOk k i s) : sVRead (a ++ sVB k i s ++ c) a.length = (k, i, s, (a.length : Int) + (sVB k i s).length, 0) := by
  unfold vOk at ho
  unfold sVRead
  by_cases h2 : k = 2
  · subst h2
    have hs := size_zero (s := s) (by omega)
    have e : sVB 2 i s = [2, i] := rfl
    have hl : (a ++ sVB 2 i s ++ c).length = a.length + 2 + c.length := by rw [e]; simp; omega
    have r0 : rd (a ++ sVB 2 i s ++ c) (a.length : Int) = 2 := by rw [e, List.append_assoc]; exact rd_mid _ _ _ rfl
    have r1 : rd (a ++ sVB 2 i s ++ c) ((a.length : Int) + 1) = i := by
      have : a ++ sVB 2 i s ++ c = (a ++ [2]) ++ i :: c := by rw [e]; simp
      rw [this]; exact rd_mid _ _ _ (by simp)
    rw [if_pos (by omega), if_neg (by omega), r0, if_neg (by decide), if_pos rfl, r1, if_pos (by omega), hs]
    rfl
  by_cases h3 : k = 3
  · subst h3
    have hs := size_zero (s := s) (by omega)
    have e : sVB 3 i s = 3 :: intB i := rfl
    have hl : (a ++ sVB 3 i s ++ c).length = a.length + 10 + c.length := by rw [e]; simp [intB_length]; omega
    have r0 : rd (a ++ sVB 3 i s ++ c) (a.length : Int) = 3 := by rw [e, List.append_assoc]; exact rd_mid _ _ _ rfl
    have g := getInt_put (a ++ [3]) c i (by omega) (by omega)
    rw [show a ++ [3] ++ intB i ++ c = a ++ sVB 3 i s ++ c from by rw [e]; simp, len_one a 3] at g
    rw [if_pos (by omega), if_neg (by omega), r0, if_neg (by decide), if_neg (by decide), if_pos rfl, g, if_pos rfl, hs, show sVB 3 i ⟨#[]⟩ = 3 :: intB i from rfl, List.length_cons, intB_length]
    simp only [Prod.mk.injEq, true_and, and_true]
    omega
  by_cases h4 : k = 4
  · subst h4
    have hi : i = 0 := by omega
    have e : sVB 4 i s = 4 :: (s.size : Int) :: bytesOf s := rfl
    have hl : (a ++ sVB 4 i s ++ c).length = a.length + 2 + s.size + c.length := by rw [e]; simp [bytesOf_length]; omega
    have r0 : rd (a ++ sVB 4 i s ++ c) (a.length : Int) = 4 := by rw [e, List.append_assoc]; exact rd_mid _ _ _ rfl
    have g := getText_put (a ++ [4]) c s (by omega)
    rw [show a ++ [4] ++ (s.size : Int) :: bytesOf s ++ c = a ++ sVB 4 i s ++ c from by rw [e]; simp, len_one a 4] at g
    rw [if_pos (by omega), if_neg (by omega), r0, if_neg (by decide), if_neg (by decide), if_neg (by decide), if_pos rfl, g, if_pos rfl, hi, show sVB 4 0 s = 4 :: (s.size : Int) :: bytesOf s from rfl, List.length_cons, List.length_cons, bytesOf_length]
    simp only [Prod.mk.injEq, true_and, and_true]
    omega
  have h1 : k = 1 := by omega
  subst h1
  have hs := size_zero (s := s) (by omega)
  have hi : i = 0 := by omega
  have e : sVB 1 i s = [1] := rfl
  have hl : (a ++ sVB 1 i s ++ c).length = a.length + 1 + c.length := by rw [e]; simp; omega
  have r0 : rd (a ++ sVB 1 i s ++ c) (a.length : Int) = 1 := by rw [e, List.append_assoc]; exact rd_mid _ _ _ rfl
  rw [if_pos (by omega), if_neg (by omega), r0, if_pos rfl, hs, hi]
  rfl
/-- What was read stood there as it is written. -/
theorem vread_sub {l : List Int} {at_ : Int} (hb : Bytes l) (h : (sVRead l at_).2.2.2.2 = 0) :
    vOk (sVRead l at_).1 (sVRead l at_).2.1 (sVRead l at_).2.2.1 ∧ 0 ≤ at_ ∧ at_ ≤ (sVRead l at_).2.2.2.1 ∧ (sVRead l at_).2.2.2.1 ≤ l.length ∧
    sVB (sVRead l at_).1 (sVRead l at_).2.1 (sVRead l at_).2.2.1 = sub l at_.toNat (sVRead l at_).2.2.2.1.toNat := by
  by_cases h1 : 0 ≤ at_ ∧ at_ ≤ l.length
  rotate_left
  · unfold sVRead at h; rw [if_neg h1] at h; simp [bad] at h
  by_cases h2 : at_ = l.length
  · unfold sVRead at h; rw [if_pos h1, if_pos h2] at h; simp [bad] at h
  have hr := hb.rd at_
  unfold Byte at hr
  obtain ⟨i, rfl⟩ := Int.eq_ofNat_of_zero_le h1.1
  have c1 : ∀ j, i < j → j ≤ l.length → sub l i j = rd l (i : Int) :: sub l (i + 1) j := fun j a b => sub_cons a b
  by_cases k1 : rd l (i : Int) = 1
  · have e : sVRead l i = (1, 0, ⟨#[]⟩, (i : Int) + 1, 0) := by unfold sVRead; rw [if_pos h1, if_neg h2, if_pos k1]
    rw [e]
    refine ⟨.inl ⟨rfl, rfl, rfl⟩, by omega, by simp only; omega, by simp only; omega, ?_⟩
    simp only
    rw [show ((i : Int) + 1).toNat = i + 1 from by omega, Int.toNat_natCast, c1 _ (by omega) (by omega), k1]
    have : sub l (i + 1) (i + 1) = [] := List.eq_nil_of_length_eq_zero (by rw [sub_length (by omega)]; omega)
    rw [this]; rfl
  by_cases k2 : rd l (i : Int) = 2
  · have hr1 := hb.rd ((i : Int) + 1)
    unfold Byte at hr1
    by_cases h3 : (i : Int) + 1 < l.length ∧ rd l ((i : Int) + 1) ≤ 1
    rotate_left
    · unfold sVRead at h; rw [if_pos h1, if_neg h2, if_neg k1, if_pos k2, if_neg h3] at h; simp [bad] at h
    have e : sVRead l i = (2, rd l ((i : Int) + 1), ⟨#[]⟩, (i : Int) + 2, 0) := by unfold sVRead; rw [if_pos h1, if_neg h2, if_neg k1, if_pos k2, if_pos h3]
    rw [e]
    refine ⟨.inr (.inl ⟨rfl, by simp only; omega, rfl⟩), by omega, by simp only; omega, by simp only; omega, ?_⟩
    simp only
    rw [show ((i : Int) + 2).toNat = i + 2 from by omega, Int.toNat_natCast, c1 _ (by omega) (by omega), k2, sub_cons (by omega) (by omega)]
    have : sub l (i + 1 + 1) (i + 2) = [] := List.eq_nil_of_length_eq_zero (by rw [sub_length (by omega)]; omega)
    rw [this]; rfl
  by_cases k3 : rd l (i : Int) = 3
  · by_cases h3 : (sGetInt l ((i : Int) + 1)).2.2 = 0
    rotate_left
    · unfold sVRead at h; rw [if_pos h1, if_neg h2, if_neg k1, if_neg k2, if_pos k3, if_neg h3] at h; simp [bad] at h
    have e : sVRead l i = (3, (sGetInt l ((i : Int) + 1)).1, ⟨#[]⟩, (sGetInt l ((i : Int) + 1)).2.1, 0) := by unfold sVRead; rw [if_pos h1, if_neg h2, if_neg k1, if_neg k2, if_pos k3, if_pos h3]
    have hbd := (getInt_bd h3).resolve_right (fun h => h hb)
    obtain ⟨g1, g2, g3⟩ := getInt_sub hb h3
    rw [e]
    refine ⟨.inr (.inr (.inl ⟨rfl, hbd, rfl⟩)), by omega, by simp only; omega, by simp only; omega, ?_⟩
    simp only
    rw [g1, show ((i : Int) + 1 + 9).toNat = i + 10 from by omega, Int.toNat_natCast, c1 _ (by omega) (by omega), k3]
    rw [show ((i : Int) + 1).toNat = i + 1 from by omega, show ((i : Int) + 1 + 9).toNat = i + 10 from by omega] at g3
    rw [← g3]; rfl
  by_cases k4 : rd l (i : Int) = 4
  · by_cases h3 : (sGetText l ((i : Int) + 1)).2.2 = 0
    rotate_left
    · unfold sVRead at h; rw [if_pos h1, if_neg h2, if_neg k1, if_neg k2, if_neg k3, if_pos k4, if_neg h3] at h; simp [bad] at h
    have e : sVRead l i = (4, 0, (sGetText l ((i : Int) + 1)).1, (sGetText l ((i : Int) + 1)).2.1, 0) := by unfold sVRead; rw [if_pos h1, if_neg h2, if_neg k1, if_neg k2, if_neg k3, if_pos k4, if_pos h3]
    have hbd := getText_bd hb h3
    obtain ⟨g1, g2, g3⟩ := getText_sub hb h3
    rw [e]
    refine ⟨.inr (.inr (.inr ⟨rfl, rfl, hbd⟩)), by omega, by simp only; omega, by simp only; omega, ?_⟩
    simp only
    rw [show ((i : Int) + 1).toNat = i + 1 from by omega] at g3
    rw [Int.toNat_natCast, c1 _ (by omega) (by omega), k4, ← g3]; rfl
  · unfold sVRead at h; rw [if_pos h1, if_neg h2, if_neg k1, if_neg k2, if_neg k3, if_neg k4] at h; simp [bad] at h
theorem sVB_bytes {k i : Int} {s : ByteArray} (ho : vOk k i s) : Bytes (sVB k i s) := by
  unfold vOk at ho
  unfold sVB
  repeat' split
  · exact Bytes.cons ⟨by decide, by decide⟩ (Bytes.cons ⟨by omega, by omega⟩ Bytes.nil)
  · exact Bytes.cons ⟨by decide, by decide⟩ (intB_bytes _)
  · exact Bytes.cons ⟨by decide, by decide⟩ (Bytes.cons ⟨by omega, by omega⟩ (bytesOf_bytes _))
  · exact Bytes.cons ⟨by decide, by decide⟩ Bytes.nil
theorem sVB_length {k i : Int} {s : ByteArray} (ho : vOk k i s) : (sVB k i s).length = if k = 2 then 2 else if k = 3 then 10 else if k = 4 then 2 + s.size else 1 := by
  unfold sVB
  repeat' split
  all_goals simp [intB_length, bytesOf_length]
  omega
end Go.Proofs.Yteicflbjhcddoaa.Plain
