-- Put together by a program of this session (wip/slice2.py) out of the seat's texts.
import Derived.Test.YtjnjfogfpmeacaaZOKp4
import Derived.Sort.Walk0
set_option maxHeartbeats 8000000
set_option maxRecDepth 100000
open Go.Proofs.YtjnjfogfpmeacaaW Go.Proofs.Ytjnjfogfpmeacaa
section
namespace Go.Proofs.Ytjnjfogfpmeacaa.Plain
open Go.RowKit PAll PrintWords PrintLast PrintMore ZipT PrintWords.Kd PrintMore.Kd
set_option linter.unusedVariables false
set_option linter.unusedSimpArgs false
theorem toList_nil (s : ByteArray) : s.toList = ([] : List UInt8) ↔ s.size = 0 := by
 rw [toList_data, show s.size = s.data.toList.length from by rw [Array.length_toList]; rfl]
 exact List.length_eq_zero_iff.symm
theorem toList_inj {s t : ByteArray} : s.toList = t.toList ↔ s = t := by
 rw [toList_data, toList_data]
 constructor
 ·
  intro h
  have : s.data = t.data := by rw [← Array.toList_inj]; exact h
  cases s; cases t; simp_all
 ·
  intro h; rw [h]
theorem size_zero {s : ByteArray} (h : s.size = 0) : s = ⟨#[]⟩ := by
 rw [← toList_inj, (toList_nil s).2 h]; exact ((toList_nil _).2 rfl).symm
def vOk (k i : Int) (s : ByteArray) : Prop :=
 (k = 1 ∧ i = 0 ∧ s.size = 0) ∨ (k = 2 ∧ (i = 0 ∨ i = 1) ∧ s.size = 0) ∨ (k = 3 ∧ (-1152921504606846976 ≤ i ∧ i ≤ 1152921504606846976) ∧ s.size = 0) ∨ (k = 4 ∧ i = 0 ∧ s.size ≤ 24)
instance (k i : Int) (s : ByteArray) : Decidable (vOk k i s) := by unfold vOk; infer_instance
theorem within_v (n m : Int) (h0 : 0 ≤ m) (h1 : m ≤ 9223372036854775807) : value_within.f n m = some (decide (-m ≤ n ∧ n ≤ m)) := by
 unfold value_within.f
 rw [w64 (x := -m) z3_ z3_]
 by_cases h : n ≥ -m
 ·
  rw [if_pos h]; congr 1; simp; omega
 rw [if_neg h]; congr 1; simp; omega
theorem check_eq (k i : Int) (s : ByteArray) : value_Check.f k i s = some (if vOk k i s then 0 else 1) := by
 unfold value_Check.f
 rw [within_v i 1152921504606846976 z3_ z3_]
 simp only [toList_nil, Option.bind_some, decide_eq_true_eq]
 by_cases ho : vOk k i s
 ·
  rw [if_pos ho]; unfold vOk at ho; repeat' split
  all_goals first | rfl | (exfalso; omega)
 rw [if_neg ho]; unfold vOk at ho; repeat' split
 all_goals first | rfl | (exfalso; omega)
theorem rvalue_eq (k i : Int) (s : ByteArray) : raddleref01_Value.f k i s = some (decide (vOk k i s)) := by
 unfold raddleref01_Value.f
 simp only [rin_eq, Option.bind_some, decide_eq_true_eq]
 have hn : (s.toList == ([] : List UInt8)) = decide (s.size = 0) := by
  by_cases h : s.size = 0
  ·
   rw [(toList_nil s).2 h, decide_eq_true h]; rfl
  ·
   rw [decide_eq_false h, beq_eq_false_iff_ne]; exact fun e => h ((toList_nil s).1 e)
 rw [hn]
 by_cases ho : vOk k i s
 ·
  rw [decide_eq_true ho]; unfold vOk at ho; repeat' split
  all_goals first | rfl | (exfalso; omega) | (congr 1; rw [decide_eq_true_eq]; omega)
 rw [decide_eq_false ho]; unfold vOk at ho; repeat' split
 all_goals first | rfl | (exfalso; omega) | (congr 1; rw [decide_eq_false_iff_not]; omega)
theorem keepValue_eq (k1 i1 : Int) (s1 : ByteArray) (k2 i2 : Int) (s2 : ByteArray) : raddlekeep_Value.f k1 i1 s1 k2 i2 s2 = some (decide (k1 = k2 ∧ i1 = i2 ∧ s1 = s2)) := by
 unfold raddlekeep_Value.f
 by_cases h1 : k1 = k2
 rotate_left
 ·
  rw [if_neg h1]; simp [h1]
 rw [if_pos h1]
 by_cases h2 : i1 = i2
 rotate_left
 ·
  rw [if_neg h2]; simp [h2]
 rw [if_pos h2]; congr 1
 by_cases h3 : s1 = s2
 ·
  simp [h1, h2, h3]
 rw [decide_eq_false (by simp [h3]), beq_eq_false_iff_ne]; exact fun e => h3 (toList_inj.1 e)
def vFits (k i : Int) (s : ByteArray) (t : Int) : Prop := (2 ≤ t ∧ t ≤ 4) ∧ vOk k i s ∧ (k = t ∨ k = 1)
instance (k i : Int) (s : ByteArray) (t : Int) : Decidable (vFits k i s t) := by unfold vFits; infer_instance
theorem beq_one (k : Int) : (k == 1) = decide (k = 1) := by by_cases h : k = 1 <;> simp [h]
theorem fits_eq (k i : Int) (s : ByteArray) (t : Int) : value_Fits.f k i s t = some (decide (vFits k i s t)) := by
 unfold value_Fits.f vFits
 simp only [check_eq, Option.bind_some, beq_one]
 by_cases ho : vOk k i s
 ·
  simp only [ho, if_true, true_and]
  repeat' split
  all_goals first | rfl | (exfalso; omega) | (congr 1; rw [decide_eq_decide]; omega) | (congr 1; rw [eq_comm, decide_eq_true_eq]; omega) | (congr 1; rw [eq_comm, decide_eq_false_iff_not]; omega)
 simp only [ho, if_false, false_and, and_false]
 repeat' split
 all_goals first | rfl | (exfalso; omega) | (congr 1; rw [decide_eq_decide]; omega) | (congr 1; rw [eq_comm, decide_eq_true_eq]; omega) | (congr 1; rw [eq_comm, decide_eq_false_iff_not]; omega)
theorem rfits_eq (k i : Int) (s : ByteArray) (t : Int) : raddleref01_Fits.f k i s t = some (decide (vFits k i s t)) := by
 unfold raddleref01_Fits.f raddleref01_Type.f vFits
 simp only [rvalue_eq, rin_eq, Option.bind_some, beq_one, decide_eq_true_eq]
 by_cases ho : vOk k i s
 ·
  simp only [ho, if_true, true_and]
  repeat' split
  all_goals first | rfl | (exfalso; omega) | (congr 1; rw [decide_eq_decide]; omega) | (congr 1; rw [eq_comm, decide_eq_true_eq]; omega) | (congr 1; rw [eq_comm, decide_eq_false_iff_not]; omega)
 simp only [ho, if_false, false_and, and_false]
 repeat' split
 all_goals first | rfl | (exfalso; omega) | (congr 1; rw [decide_eq_decide]; omega) | (congr 1; rw [eq_comm, decide_eq_true_eq]; omega) | (congr 1; rw [eq_comm, decide_eq_false_iff_not]; omega)
def vSmall (k i : Int) (s : ByteArray) : Prop := vOk k i s ∧ (k = 3 → -2147483648 ≤ i ∧ i ≤ 2147483648)
instance (k i : Int) (s : ByteArray) : Decidable (vSmall k i s) := by unfold vSmall; infer_instance
theorem small_eq (k i : Int) (s : ByteArray) : value_Small.f k i s = some (decide (vSmall k i s)) := by
 unfold value_Small.f vSmall
 simp only [check_eq, within_v i 2147483648 z3_ z3_, Option.bind_some]
 by_cases ho : vOk k i s
 rotate_left
 ·
  simp [ho]
 simp only [ho, if_true, true_and]
 by_cases h : k = 3 <;> simp [h]
theorem rsmall_eq (k i : Int) (s : ByteArray) : raddleref01_Small.f k i s = some (decide (vSmall k i s)) := by
 unfold raddleref01_Small.f vSmall
 simp only [rvalue_eq, rin_eq, Option.bind_some, decide_eq_true_eq]
 by_cases ho : vOk k i s
 rotate_left
 ·
  simp [ho]
 simp only [ho, if_true, true_and]
 by_cases h : k = 3 <;> simp [h]
def sVB (k i : Int) (s : ByteArray) : List Int := if k = 2 then [2, i] else if k = 3 then 3 :: intB i else if k = 4 then 4 :: (s.size : Int) :: bytesOf s else [1]
theorem vbytes_eq (fuel : Nat) (k i : Int) (s : ByteArray) (hk : 30 ≤ fuel) : value_Bytes.f fuel k i s = some (if vOk k i s then (sVB k i s, 0) else ([], 1)) := by
 unfold value_Bytes.f
 rw [check_eq, Option.bind_some]
 by_cases ho : vOk k i s
 rotate_left
 ·
  rw [if_neg ho, if_neg z5_, if_neg ho]
 rw [if_pos ho, if_pos rfl, Option.bind_some]
 have ho' := ho
 unfold vOk at ho'
 unfold sVB
 by_cases h2 : k = 2
 ·
  rw [if_pos h2, if_pos h2, if_pos (by simp), if_pos ho]
  subst h2
  have : i % 256 = i := by omega
  simp [this]
 rw [if_neg h2, if_neg h2]
 by_cases h3 : k = 3
 ·
  rw [if_pos h3, if_pos h3, putInt_eq _ _ _ (by simp) z3_, Option.bind_some, if_pos ho]
  subst h3
  unfold sPutInt
  rw [if_pos z3_]
  simp
 rw [if_neg h3, if_neg h3]
 by_cases h4 : k = 4
 ·
  rw [if_pos h4, if_pos h4, putText_eq _ _ (by simp), Option.bind_some, if_pos ho]
  subst h4
  unfold sPutText
  rw [if_pos z3_]
  simp
 have h1 : k = 1 := by omega
 rw [if_neg h4, if_neg h4, if_pos ho, h1]
 rfl
def bad (e : Int) : Int × Int × ByteArray × Int × Int := (0, 0, ⟨#[]⟩, 0, e)
def sVRead (l : List Int) (at_ : Int) : Int × Int × ByteArray × Int × Int :=
  if 0 ≤ at_ ∧ at_ ≤ l.length then
    (if at_ = l.length then bad 3
     else if rd l at_ = 1 then (1, 0, ⟨#[]⟩, at_ + 1, 0)
     else if rd l at_ = 2 then (if at_ + 1 < l.length ∧ rd l (at_ + 1) ≤ 1 then (2, rd l (at_ + 1), ⟨#[]⟩, at_ + 2, 0) else bad 3)
     else if rd l at_ = 3 then (if (sGetInt l (at_ + 1)).2.2 = 0 then (3, (sGetInt l (at_ + 1)).1, ⟨#[]⟩, (sGetInt l (at_ + 1)).2.1, 0) else bad 3)
     else if rd l at_ = 4 then (if (sGetText l (at_ + 1)).2.2 = 0 then (4, 0, (sGetText l (at_ + 1)).1, (sGetText l (at_ + 1)).2.1, 0) else bad 3)
     else bad 3)
  else bad 1
theorem sub_one {l : List Int} {i : Int} (h0 : 0 ≤ i) (h1 : i < l.length) : sub l i.toNat (i + 1).toNat = [rd l i] := by
 obtain ⟨j, rfl⟩ := Int.eq_ofNat_of_zero_le h0
 rw [Int.toNat_natCast, show ((j : Int) + 1).toNat = j + 1 from by omega, sub_cons z3_ z3_]
 have : sub l (j + 1) (j + 1) = [] := List.eq_nil_of_length_eq_zero (by rw [sub_length z3_]; omega)
 rw [this]
theorem sGet_one (l : List Int) (at_ : Int) : sGet l at_ 1 = if 0 ≤ at_ ∧ at_ ≤ l.length then (if at_ = l.length then (0, 0, 3) else (rd l at_, at_ + 1, 0)) else (0, 0, 1) := by
 unfold sGet
 by_cases h : 0 ≤ at_ ∧ at_ ≤ l.length
 rotate_left
 ·
  rw [if_neg z3_, if_neg h]
 rw [if_pos z3_, if_pos h]
 by_cases h2 : at_ = l.length
 ·
  rw [if_pos z3_, if_pos h2]
 rw [if_neg z3_, if_neg h2, sub_one z3_ z3_]
 simp [val]
theorem sGet_next (l : List Int) (at_ : Int) (h : 0 ≤ at_ ∧ at_ ≤ l.length) (h2 : ¬ at_ = l.length) : sGet l (at_ + 1) 1 = if at_ + 1 = l.length then (0, 0, 3) else (rd l (at_ + 1), at_ + 1 + 1, 0) := by
 rw [sGet_one, if_pos z3_]
theorem getInt_bd {l : List Int} {at_ : Int} (h : (sGetInt l at_).2.2 = 0) : -1152921504606846976 ≤ (sGetInt l at_).1 ∧ (sGetInt l at_).1 ≤ 1152921504606846976 ∨ ¬ Bytes l := by
 by_cases hb : Bytes l
 rotate_left
 ·
  exact .inr hb
 left
 have hv := val_nonneg (sub l (at_ + 1).toNat (at_ + 9).toNat) 0 z3_ (sub_bytes hb _ _)
 unfold sGetInt at h ⊢
 split at h
 ·
  rename_i h1
  rw [if_pos h1]
  split at h
  ·
   simp at h
  ·
   rename_i h2
   rw [if_neg h2]
   split <;> simp only <;> omega
 ·
  simp at h
theorem div_of {n p q : Int} (hp : 0 < p) (h0 : q * p ≤ n) (h1 : n < (q + 1) * p) : n / p = q := by
 have h2 : (q + 1) * p = q * p + p := by rw [Int.add_mul, Int.one_mul]
 exact ((Int.ediv_emod_unique (r := n - q * p) hp).2 ⟨by rw [Int.mul_comm p q]; omega, by omega, by omega⟩).1
theorem big_val (l : List Int) (hb : Bytes l) : big (val 0 l) l.length = l := by
 suffices ∀ a : Int, 0 ≤ a → big (val a l) l.length = l from this 0 z3_
 induction l with
 | nil => intro a _; rfl
 | cons b l ih =>
  intro a ha
  have hh := hb.head
  unfold Byte at hh
  have hv0 := val_ge l (a * 256 + b) z3_ hb.tail
  have hv1 := val_lt l (a * 256 + b) z3_ hb.tail
  rw [List.length_cons, big]
  show val (a * 256 + b) l / 256 ^ l.length % 256 :: big (val (a * 256 + b) l) l.length = _
  rw [div_of (pow_pos _) hv0 hv1, ih hb.tail _ z3_]
  congr 1
  omega
theorem getInt_sub {l : List Int} {at_ : Int} (hb : Bytes l) (h : (sGetInt l at_).2.2 = 0) : (sGetInt l at_).2.1 = at_ + 9 ∧ (0 ≤ at_ ∧ at_ + 9 ≤ l.length) ∧ intB (sGetInt l at_).1 = sub l at_.toNat (at_ + 9).toNat := by
 have hv := val_nonneg (sub l (at_ + 1).toNat (at_ + 9).toNat) 0 z3_ (sub_bytes hb _ _)
 have hr := hb.rd at_
 unfold Byte at hr
 unfold sGetInt at h ⊢
 by_cases h1 : 0 ≤ at_ ∧ at_ ≤ l.length
 rotate_left
 ·
  rw [if_neg h1] at h; simp at h
 rw [if_pos h1] at h ⊢
 by_cases h2 : l.length - at_ < 9 ∨ rd l at_ > 1 ∨ val 0 (sub l (at_ + 1).toNat (at_ + 9).toNat) > 1152921504606846976 ∨ (rd l at_ = 1 ∧ val 0 (sub l (at_ + 1).toNat (at_ + 9).toNat) = 0)
 ·
  rw [if_pos h2] at h; simp at h
 rw [if_neg h2]
 obtain ⟨i, rfl⟩ := Int.eq_ofNat_of_zero_le h1.1
 have hb8 : big (val 0 (sub l ((i : Int) + 1).toNat ((i : Int) + 9).toNat)) 8 = sub l ((i : Int) + 1).toNat ((i : Int) + 9).toNat := by
  have := big_val (sub l ((i : Int) + 1).toNat ((i : Int) + 9).toNat) (sub_bytes hb _ _)
  rw [sub_length z3_, show ((i : Int) + 9).toNat - ((i : Int) + 1).toNat = 8 from by omega] at this
  exact this
 have hc : sub l (i : Int).toNat ((i : Int) + 9).toNat = rd l (i : Int) :: sub l ((i : Int) + 1).toNat ((i : Int) + 9).toNat := by
  rw [Int.toNat_natCast, show ((i : Int) + 1).toNat = i + 1 from by omega, sub_cons z3_ z3_]
 rw [hc]
 by_cases h3 : rd l (i : Int) = 1
 ·
  rw [if_pos h3]
  refine ⟨rfl, by omega, ?_⟩
  unfold intB
  simp only
  rw [if_pos z3_, Int.neg_neg, hb8, h3]
 rw [if_neg h3]
 refine ⟨rfl, by omega, ?_⟩
 unfold intB
 simp only
 rw [if_neg z3_, hb8, show rd l (i : Int) = 0 from by omega]
theorem getText_sub {l : List Int} {at_ : Int} (hb : Bytes l) (h : (sGetText l at_).2.2 = 0) : (at_ + 1 ≤ (sGetText l at_).2.1 ∧ (sGetText l at_).2.1 ≤ l.length) ∧ 0 ≤ at_ ∧ ((sGetText l at_).1.size : Int) :: bytesOf (sGetText l at_).1 = sub l at_.toNat (sGetText l at_).2.1.toNat := by
 have hr := hb.rd at_
 unfold Byte at hr
 unfold sGetText at h ⊢
 by_cases h1 : 0 ≤ at_ ∧ at_ ≤ l.length
 rotate_left
 ·
  rw [if_neg h1] at h; simp at h
 rw [if_pos h1] at h ⊢
 by_cases h2 : at_ = l.length ∨ rd l at_ > 24 ∨ l.length - at_ - 1 < rd l at_
 ·
  rw [if_pos h2] at h; simp at h
 rw [if_neg h2]
 obtain ⟨i, rfl⟩ := Int.eq_ofNat_of_zero_le h1.1
 refine ⟨by simp only; omega, by omega, ?_⟩
 simp only
 rw [strOfNums_size, bytesOf_strOfNums (sub_bytes hb _ _), sub_length z3_, Int.toNat_natCast, show ((i : Int) + 1).toNat = i + 1 from by omega, sub_cons (i := i) z3_ z3_]
 congr 1
 omega
theorem getText_bd {l : List Int} {at_ : Int} (hb : Bytes l) (h : (sGetText l at_).2.2 = 0) : (sGetText l at_).1.size ≤ 24 := by
 have hr := hb.rd at_
 unfold Byte at hr
 unfold sGetText at h ⊢
 split at h
 ·
  rename_i h1
  rw [if_pos h1]
  split at h
  ·
   simp at h
  ·
   rename_i h2
   rw [if_neg h2]
   simp only
   rw [strOfNums_size, sub_length z3_]
   omega
 ·
  simp at h
theorem vread_eq (fuel : Nat) (l : List Int) (at_ : Int) (hb : Bytes l) (hl : l.length ≤ 1000000) (ha : at_ ≤ 9223372036854775807) (hk : 30 ≤ fuel) : value_Read.f fuel l at_ = some (sVRead l at_) := by
 unfold value_Read.f sVRead
 rw [get_eq _ _ _ _ hb hl ha z3_, Option.bind_some, sGet_one]
 by_cases h : 0 ≤ at_ ∧ at_ ≤ l.length
 rotate_left
 ·
  rw [if_neg h, if_neg h, if_neg z5_]; rfl
 rw [if_pos h, if_pos h]
 by_cases h2 : at_ = l.length
 ·
  rw [if_pos h2, if_pos h2, if_neg z5_]; rfl
 have hr := hb.rd at_
 unfold Byte at hr
 rw [if_neg h2, if_neg h2, if_pos rfl]
 simp only
 by_cases k2 : rd l at_ = 2
 ·
  rw [if_pos k2, if_neg z3_, if_pos k2, get_eq _ _ _ _ hb hl z3_ z3_, Option.bind_some, sGet_next _ _ h h2]
  have hr1 := hb.rd (at_ + 1)
  unfold Byte at hr1
  by_cases h3 : at_ + 1 = l.length
  ·
   rw [if_pos h3]
   simp only
   rw [if_neg (show ¬ ((3 : Int) = 0) by decide), if_neg z3_]; rfl
  rw [if_neg h3]
  simp only
  rw [if_pos trivial, check_eq, Option.bind_some, k2]
  by_cases h4 : rd l (at_ + 1) ≤ 1
  ·
   rw [if_pos (show vOk 2 (rd l (at_ + 1)) ⟨#[]⟩ from .inr (.inl ⟨rfl, by omega, rfl⟩)), if_pos rfl, if_pos z3_, show at_ + 1 + 1 = at_ + 2 from by omega]
  rw [if_neg (show ¬ vOk 2 (rd l (at_ + 1)) ⟨#[]⟩ from by unfold vOk; omega), if_neg z5_, if_neg z3_]; rfl
 rw [if_neg k2]
 by_cases k3 : rd l at_ = 3
 ·
  rw [if_pos k3, if_neg z3_, if_neg k2, if_pos k3, getInt_eq _ _ _ hb hl z3_ z3_, Option.bind_some, k3]
  by_cases h4 : (sGetInt l (at_ + 1)).2.2 = 0
  rotate_left
  ·
   rw [if_neg h4, if_neg h4]; rfl
  have := (getInt_bd h4).resolve_right (fun h => h hb)
  rw [if_pos h4, if_pos h4, check_eq, Option.bind_some, if_pos (show vOk 3 _ ⟨#[]⟩ from .inr (.inr (.inl ⟨rfl, this, rfl⟩))), if_pos rfl]
 rw [if_neg k3]
 by_cases k4 : rd l at_ = 4
 ·
  rw [if_pos k4, if_neg z3_, if_neg k2, if_neg k3, if_pos k4, getText_eq _ _ _ hb hl z3_ z3_, Option.bind_some, k4]
  by_cases h4 : (sGetText l (at_ + 1)).2.2 = 0
  rotate_left
  ·
   rw [if_neg h4, if_neg h4]; rfl
  have := getText_bd hb h4
  rw [if_pos h4, if_pos h4, check_eq, Option.bind_some, if_pos (show vOk 4 0 _ from .inr (.inr (.inr ⟨rfl, rfl, this⟩))), if_pos rfl]
 rw [if_neg k4, check_eq, Option.bind_some, if_neg k2, if_neg k3, if_neg k4]
 by_cases k1 : rd l at_ = 1
 ·
  rw [if_pos k1, k1, if_pos (show vOk 1 0 ⟨#[]⟩ from .inl ⟨rfl, rfl, rfl⟩), if_pos rfl]
 rw [if_neg k1, if_neg (by unfold vOk; omega)]; rfl
theorem len_one (a : List Int) (x : Int) : ((a ++ [x]).length : Int) = (a.length : Int) + 1 := by simp
theorem vread_put (a c : List Int) (k i : Int) (s : ByteArray) (ho : vOk k i s) : sVRead (a ++ sVB k i s ++ c) a.length = (k, i, s, (a.length : Int) + (sVB k i s).length, 0) := by
 unfold vOk at ho
 unfold sVRead
 by_cases h2 : k = 2
 ·
  subst h2
  have hs := size_zero (s := s) z3_
  have e : sVB 2 i s = [2, i] := rfl
  have hl : (a ++ sVB 2 i s ++ c).length = a.length + 2 + c.length := by rw [e]; simp; omega
  have r0 : rd (a ++ sVB 2 i s ++ c) (a.length : Int) = 2 := by rw [e, List.append_assoc]; exact rd_mid _ _ _ rfl
  have r1 : rd (a ++ sVB 2 i s ++ c) ((a.length : Int) + 1) = i := by
   have : a ++ sVB 2 i s ++ c = (a ++ [2]) ++ i :: c := by rw [e]; simp
   rw [this]; exact rd_mid _ _ _ (by simp)
  rw [if_pos z3_, if_neg z3_, r0, if_neg z5_, if_pos rfl, r1, if_pos z3_, hs]
  rfl
 by_cases h3 : k = 3
 ·
  subst h3
  have hs := size_zero (s := s) z3_
  have e : sVB 3 i s = 3 :: intB i := rfl
  have hl : (a ++ sVB 3 i s ++ c).length = a.length + 10 + c.length := by rw [e]; simp [intB_length]; omega
  have r0 : rd (a ++ sVB 3 i s ++ c) (a.length : Int) = 3 := by rw [e, List.append_assoc]; exact rd_mid _ _ _ rfl
  have g := getInt_put (a ++ [3]) c i z3_ z3_
  rw [show a ++ [3] ++ intB i ++ c = a ++ sVB 3 i s ++ c from by rw [e]; simp, len_one a 3] at g
  rw [if_pos z3_, if_neg z3_, r0, if_neg z5_, if_neg z5_, if_pos rfl, g, if_pos rfl, hs, show sVB 3 i ⟨#[]⟩ = 3 :: intB i from rfl, List.length_cons, intB_length]
  simp only [Prod.mk.injEq, true_and, and_true]
  omega
 by_cases h4 : k = 4
 ·
  subst h4
  have hi : i = 0 := by omega
  have e : sVB 4 i s = 4 :: (s.size : Int) :: bytesOf s := rfl
  have hl : (a ++ sVB 4 i s ++ c).length = a.length + 2 + s.size + c.length := by rw [e]; simp [bytesOf_length]; omega
  have r0 : rd (a ++ sVB 4 i s ++ c) (a.length : Int) = 4 := by rw [e, List.append_assoc]; exact rd_mid _ _ _ rfl
  have g := getText_put (a ++ [4]) c s z3_
  rw [show a ++ [4] ++ (s.size : Int) :: bytesOf s ++ c = a ++ sVB 4 i s ++ c from by rw [e]; simp, len_one a 4] at g
  rw [if_pos z3_, if_neg z3_, r0, if_neg z5_, if_neg z5_, if_neg z5_, if_pos rfl, g, if_pos rfl, hi, show sVB 4 0 s = 4 :: (s.size : Int) :: bytesOf s from rfl, List.length_cons, List.length_cons, bytesOf_length]
  simp only [Prod.mk.injEq, true_and, and_true]
  omega
 have h1 : k = 1 := by omega
 subst h1
 have hs := size_zero (s := s) z3_
 have hi : i = 0 := by omega
 have e : sVB 1 i s = [1] := rfl
 have hl : (a ++ sVB 1 i s ++ c).length = a.length + 1 + c.length := by rw [e]; simp; omega
 have r0 : rd (a ++ sVB 1 i s ++ c) (a.length : Int) = 1 := by rw [e, List.append_assoc]; exact rd_mid _ _ _ rfl
 rw [if_pos z3_, if_neg z3_, r0, if_pos rfl, hs, hi]
 rfl
theorem vread_sub {l : List Int} {at_ : Int} (hb : Bytes l) (h : (sVRead l at_).2.2.2.2 = 0) :
  vOk (sVRead l at_).1 (sVRead l at_).2.1 (sVRead l at_).2.2.1 ∧ 0 ≤ at_ ∧ at_ ≤ (sVRead l at_).2.2.2.1 ∧ (sVRead l at_).2.2.2.1 ≤ l.length ∧
  sVB (sVRead l at_).1 (sVRead l at_).2.1 (sVRead l at_).2.2.1 = sub l at_.toNat (sVRead l at_).2.2.2.1.toNat := by
 by_cases h1 : 0 ≤ at_ ∧ at_ ≤ l.length
 rotate_left
 ·
  unfold sVRead at h; rw [if_neg h1] at h; simp [bad] at h
 by_cases h2 : at_ = l.length
 ·
  unfold sVRead at h; rw [if_pos h1, if_pos h2] at h; simp [bad] at h
 have hr := hb.rd at_
 unfold Byte at hr
 obtain ⟨i, rfl⟩ := Int.eq_ofNat_of_zero_le h1.1
 have c1 : ∀ j, i < j → j ≤ l.length → sub l i j = rd l (i : Int) :: sub l (i + 1) j := fun j a b => sub_cons a b
 by_cases k1 : rd l (i : Int) = 1
 ·
  have e : sVRead l i = (1, 0, ⟨#[]⟩, (i : Int) + 1, 0) := by unfold sVRead; rw [if_pos h1, if_neg h2, if_pos k1]
  rw [e]
  refine ⟨.inl ⟨rfl, rfl, rfl⟩, by omega, by simp only; omega, by simp only; omega, ?_⟩
  simp only
  rw [show ((i : Int) + 1).toNat = i + 1 from by omega, Int.toNat_natCast, c1 _ z3_ z3_, k1]
  have : sub l (i + 1) (i + 1) = [] := List.eq_nil_of_length_eq_zero (by rw [sub_length z3_]; omega)
  rw [this]; rfl
 by_cases k2 : rd l (i : Int) = 2
 ·
  have hr1 := hb.rd ((i : Int) + 1)
  unfold Byte at hr1
  by_cases h3 : (i : Int) + 1 < l.length ∧ rd l ((i : Int) + 1) ≤ 1
  rotate_left
  ·
   unfold sVRead at h; rw [if_pos h1, if_neg h2, if_neg k1, if_pos k2, if_neg h3] at h; simp [bad] at h
  have e : sVRead l i = (2, rd l ((i : Int) + 1), ⟨#[]⟩, (i : Int) + 2, 0) := by unfold sVRead; rw [if_pos h1, if_neg h2, if_neg k1, if_pos k2, if_pos h3]
  rw [e]
  refine ⟨.inr (.inl ⟨rfl, by simp only; omega, rfl⟩), by omega, by simp only; omega, by simp only; omega, ?_⟩
  simp only
  rw [show ((i : Int) + 2).toNat = i + 2 from by omega, Int.toNat_natCast, c1 _ z3_ z3_, k2, sub_cons z3_ z3_]
  have : sub l (i + 1 + 1) (i + 2) = [] := List.eq_nil_of_length_eq_zero (by rw [sub_length z3_]; omega)
  rw [this]; rfl
 by_cases k3 : rd l (i : Int) = 3
 ·
  by_cases h3 : (sGetInt l ((i : Int) + 1)).2.2 = 0
  rotate_left
  ·
   unfold sVRead at h; rw [if_pos h1, if_neg h2, if_neg k1, if_neg k2, if_pos k3, if_neg h3] at h; simp [bad] at h
  have e : sVRead l i = (3, (sGetInt l ((i : Int) + 1)).1, ⟨#[]⟩, (sGetInt l ((i : Int) + 1)).2.1, 0) := by unfold sVRead; rw [if_pos h1, if_neg h2, if_neg k1, if_neg k2, if_pos k3, if_pos h3]
  have hbd := (getInt_bd h3).resolve_right (fun h => h hb)
  obtain ⟨g1, g2, g3⟩ := getInt_sub hb h3
  rw [e]
  refine ⟨.inr (.inr (.inl ⟨rfl, hbd, rfl⟩)), by omega, by simp only; omega, by simp only; omega, ?_⟩
  simp only
  rw [g1, show ((i : Int) + 1 + 9).toNat = i + 10 from by omega, Int.toNat_natCast, c1 _ z3_ z3_, k3]
  rw [show ((i : Int) + 1).toNat = i + 1 from by omega, show ((i : Int) + 1 + 9).toNat = i + 10 from by omega] at g3
  rw [← g3]; rfl
 by_cases k4 : rd l (i : Int) = 4
 rotate_left
 ·
  unfold sVRead at h; rw [if_pos h1, if_neg h2, if_neg k1, if_neg k2, if_neg k3, if_neg k4] at h; simp [bad] at h
 by_cases h3 : (sGetText l ((i : Int) + 1)).2.2 = 0
 rotate_left
 ·
  unfold sVRead at h; rw [if_pos h1, if_neg h2, if_neg k1, if_neg k2, if_neg k3, if_pos k4, if_neg h3] at h; simp [bad] at h
 have e : sVRead l i = (4, 0, (sGetText l ((i : Int) + 1)).1, (sGetText l ((i : Int) + 1)).2.1, 0) := by unfold sVRead; rw [if_pos h1, if_neg h2, if_neg k1, if_neg k2, if_neg k3, if_pos k4, if_pos h3]
 have hbd := getText_bd hb h3
 obtain ⟨g1, g2, g3⟩ := getText_sub hb h3
 rw [e]
 refine ⟨.inr (.inr (.inr ⟨rfl, rfl, hbd⟩)), by omega, by simp only; omega, by simp only; omega, ?_⟩
 simp only
 rw [show ((i : Int) + 1).toNat = i + 1 from by omega] at g3
 rw [Int.toNat_natCast, c1 _ z3_ z3_, k4, ← g3]; rfl
theorem sVB_bytes {k i : Int} {s : ByteArray} (ho : vOk k i s) : Bytes (sVB k i s) := by
 unfold vOk at ho
 unfold sVB
 repeat' split
 ·
  exact Bytes.cons ⟨by decide, by decide⟩ (Bytes.cons ⟨by omega, by omega⟩ Bytes.nil)
 ·
  exact Bytes.cons ⟨by decide, by decide⟩ (intB_bytes _)
 ·
  exact Bytes.cons ⟨by decide, by decide⟩ (Bytes.cons ⟨by omega, by omega⟩ (bytesOf_bytes _))
 ·
  exact Bytes.cons ⟨by decide, by decide⟩ Bytes.nil
theorem sVB_length {k i : Int} {s : ByteArray} (ho : vOk k i s) : (sVB k i s).length = if k = 2 then 2 else if k = 3 then 10 else if k = 4 then 2 + s.size else 1 := by
 unfold sVB
 repeat' split
 all_goals simp [intB_length, bytesOf_length]
 omega
end Go.Proofs.Ytjnjfogfpmeacaa.Plain
end
section
namespace Go.Proofs.Ytjnjfogfpmeacaa.Plain
open Go.RowKit PAll PrintWords PrintLast PrintMore ZipT PrintWords.Kd PrintMore.Kd
set_option linter.unusedVariables false
set_option linter.unusedSimpArgs false
def isLong (v : S84) : Bool := decide ((v.f2.size : Int) > 300)
theorem long_l0 (l : List S84) (hl : l.length ≤ 1000000) (m : List S84) : ∀ (k i : Nat), l.drop i = m → m.length < k → raddlelaw03_Long.l0 k l (i : Int) = some (m.any isLong) := by
 induction m with
 | nil =>
  intro k i h hk
  obtain ⟨k, rfl⟩ : ∃ j, k = j + 1 := ⟨k - 1, by simp at hk; omega⟩
  have := List.drop_eq_nil_iff.1 h
  simp only [raddlelaw03_Long.l0]
  rw [if_neg z3_]; rfl
 | cons v m ih =>
  intro k i h hk
  obtain ⟨k, rfl⟩ : ∃ j, k = j + 1 := ⟨k - 1, by simp at hk; omega⟩
  have hi : i < l.length := by
   rcases Nat.lt_or_ge i l.length with h1 | h1
   ·
    exact h1
   ·
    rw [List.drop_eq_nil_iff.2 h1] at h; cases h
  have hr : rd_T84 l (i : Int) = v := by
   show l.getD ((i : Int).toNat) _ = v
   rw [Int.toNat_natCast, List.getD_eq_getElem?_getD]
   have : l[i]? = (l.drop i)[0]? := by rw [List.getElem?_drop]; simp
   rw [this, h]; rfl
  have ht : l.drop (i + 1) = m := by rw [← List.drop_drop, h]; rfl
  have := ih k (i + 1) ht (by simp at hk; omega)
  simp only [raddlelaw03_Long.l0]
  rw [if_pos z3_, if_pos z3_, hr, w64 z3_ z3_, show ((i : Int) + 1) = ((i + 1 : Nat) : Int) from rfl, this]
  by_cases hv : (v.f2.size : Int) > 300
  ·
   rw [if_pos hv]; simp [isLong, hv]
  rw [if_neg hv]; simp [isLong, hv]
theorem long_eq (k : Nat) (l : List S84) (hl : l.length ≤ 1000000) (hk : l.length + 1 ≤ k) : raddlelaw03_Long.f k l = some (l.any isLong) := by
 unfold raddlelaw03_Long.f
 have := long_l0 l hl l k 0 rfl z3_
 simpa using this
end Go.Proofs.Ytjnjfogfpmeacaa.Plain
end
section
namespace Go.Proofs.Ytjnjfogfpmeacaa.PAll
open Go.RowKit PrintWords PrintLast PrintMore ZipT PrintWords.Kd PrintMore.Kd
attribute [local go_sem] max2_int min2_int max_two min_two max_three min_three max_four min_four   -- for this text's walks alone
set_option linter.unusedVariables false
set_option linter.unusedSimpArgs false
def raddlelaw07_Heavy.l0 : Nat → List (S32) → Int → Option (Bool)
 | 0, _, _ => none
 | k + 1, x0, x3 => if x3 < (x0.length : Int) then (if 0 ≤ x3 then (if (((rd_T32 x0 x3).f1).length : Int) > 30 then (some true) else (if (((rd_T32 x0 x3).f5).size : Int) > 100 then (some true) else ((raddlelaw04_Heavy.f k ((rd_T32 x0 x3).f7)).bind fun t517 => (if t517 = true then (some true) else (if (((rd_T32 x0 x3).f8).length : Int) > 100 then (some true) else (raddlelaw07_Heavy.l0 k x0 (wrap64 (x3 + 1)))))))) else (none)) else (some false)
def raddlelaw07_Heavy.f (k : Nat) (l0 : List (S32)) : Option (Bool) := if (l0.length : Int) > 300 then (some true) else (raddlelaw07_Heavy.l0 k l0 0)
theorem raddlelaw07_Heavy.calls (k : Nat) (A0 : Option Addr) (c0 : Nat) (l0 : List (S32)) (r : Bool) (w : World) (hr0 : Kd.C k32 w A0 l0.length l0) (hc0 : l0.length ≤ c0) (h : raddlelaw07_Heavy.f k l0 = some r) :
  Calls Try.prog 18 #[.slice A0 l0.length c0] w fun e w' => e = .returned (.bool r) ∧ Drawn0 w w' := by
 have HR0 := mk_ hr0
 have HC0 := mk_ hc0
 clear hr0 hc0
 have H : (if (l0.length : Int) > 300 then (some true) else (raddlelaw07_Heavy.l0 k l0 0)) = some r := h
 clear h
 by_cases c2 : (l0.length : Int) > 300
 ·
  rw [if_pos c2] at H
  have c2b0 : decide (300 < (l0.length : Int)) = true := decide_eq_true c2
  have c2b1 : decide (300 < l0.length) = true := decide_eq_true z3_
  clear c2
  obtain rfl := Option.some.inj H
  go_enter Try.func18, Try.ntmps18
  go_wp2
  go_ret
  exact ⟨z4_, by repeat (first | exact Drawn0.refl _ | apply Drawn0.step)⟩
 rw [if_neg c2] at H
 have c2b0 : decide (300 < (l0.length : Int)) = false := decide_eq_false c2
 have c2b1 : decide (300 < l0.length) = false := decide_eq_false z3_
 clear c2
 have H' := mk_ H
 clear H
 go_enter Try.func18, Try.ntmps18
 go_wp2
 go_loopg [3] k (fun kq v3 w' => ∃ (x3_1 : Int), v3 = .int .i64 x3_1 ∧ Aside0 (raddlelaw07_Heavy.l0 kq l0 x3_1 = some r) ∧ Aside0 (kq ≤ k) ∧ Drawn0 w w')
 case atStart => exact ⟨(0), z4_, H', ⟨Nat.le_refl _⟩, by repeat (first | exact Drawn0.refl _ | apply Drawn0.step)⟩
 case round =>
  clear H'
  try clear c1
  try clear c2
  try clear c2b0
  try clear c2b1
  try clear p2
  obtain ⟨x3_1, rfl, HA, HK1, ⟨m1, rfl⟩⟩ := hrel
  cases gk with
  | zero => exact absurd HA.out (by simp [raddlelaw07_Heavy.l0])
  | succ k1 =>
   have H := HA.out
   clear HA
   simp only [raddlelaw07_Heavy.l0] at H
   by_cases c3 : x3_1 < (l0.length : Int)
   rotate_left
   ·
    rw [if_neg c3] at H
    have c3b0 : decide (x3_1 < (l0.length : Int)) = false := decide_eq_false c3
    clear c3
    obtain rfl := Option.some.inj H
    go_wp2
    go_ret
    exact ⟨z4_, by repeat (first | exact Drawn0.refl _ | apply Drawn0.step)⟩
   rw [if_pos c3] at H
   have c3b0 : decide (x3_1 < (l0.length : Int)) = true := decide_eq_true c3
   clear c3
   by_cases c4 : 0 ≤ x3_1
   rotate_left
   ·
    rw [if_neg c4] at H
    exact absurd H (by simp)
   rw [if_pos c4] at H
   have c4b0 : decide (0 ≤ x3_1) = true := decide_eq_true c4
   clear c4
   by_cases c5 : (((rd_T32 l0 x3_1).f1).length : Int) > 30
   ·
    rw [if_pos c5] at H
    have c5b0 : decide (30 < (((rd_T32 l0 x3_1).f1).length : Int)) = true := decide_eq_true c5
    have c5b1 : decide (30 < ((rd_T32 l0 x3_1).f1).length) = true := decide_eq_true z3_
    clear c5
    obtain rfl := Option.some.inj H
    have p514 : 0 ≤ (x3_1 : Int) := of_decide_eq_true z1_
    have q514 : x3_1 < (l0.length : Int) := of_decide_eq_true z1_
    obtain ⟨ad514, A514_2, c514_2, A514_10, c514_10, A514_11, c514_11, e514, hx514_0, hx514_1, hx514_2, hx514_3, hx514_4, hx514_5, hx514_6, hx514_7, hx514_8, hx514_9, hx514_10, hx514_11, hl514_2, hi514_2, hl514_10, hi514_10, hl514_11, hi514_11⟩ := at_T32 HR0.out x3_1 p514 q514
    cases e514
    have HR514_2 := mk_ hi514_2
    have HC514_2 := mk_ hl514_2
    clear hi514_2 hl514_2
    have HR514_10 := mk_ hi514_10
    have HC514_10 := mk_ hl514_10
    clear hi514_10 hl514_10
    have HR514_11 := mk_ hi514_11
    have HC514_11 := mk_ hl514_11
    clear hi514_11 hl514_11
    replace p514 := eq_true p514
    replace q514 := eq_true q514
    go_wp2
    go_ret
    exact ⟨z4_, by repeat (first | exact Drawn0.refl _ | apply Drawn0.step)⟩
   rw [if_neg c5] at H
   have c5b0 : decide (30 < (((rd_T32 l0 x3_1).f1).length : Int)) = false := decide_eq_false c5
   have c5b1 : decide (30 < ((rd_T32 l0 x3_1).f1).length) = false := decide_eq_false z3_
   clear c5
   by_cases c6 : (((rd_T32 l0 x3_1).f5).size : Int) > 100
   ·
    rw [if_pos c6] at H
    have c6b0 : decide (100 < (((rd_T32 l0 x3_1).f5).size : Int)) = true := decide_eq_true c6
    have c6b1 : decide (100 < ((rd_T32 l0 x3_1).f5).size) = true := decide_eq_true z3_
    clear c6
    obtain rfl := Option.some.inj H
    have p514 : 0 ≤ (x3_1 : Int) := of_decide_eq_true z1_
    have q514 : x3_1 < (l0.length : Int) := of_decide_eq_true z1_
    obtain ⟨ad514, A514_2, c514_2, A514_10, c514_10, A514_11, c514_11, e514, hx514_0, hx514_1, hx514_2, hx514_3, hx514_4, hx514_5, hx514_6, hx514_7, hx514_8, hx514_9, hx514_10, hx514_11, hl514_2, hi514_2, hl514_10, hi514_10, hl514_11, hi514_11⟩ := at_T32 HR0.out x3_1 p514 q514
    cases e514
    have HR514_2 := mk_ hi514_2
    have HC514_2 := mk_ hl514_2
    clear hi514_2 hl514_2
    have HR514_10 := mk_ hi514_10
    have HC514_10 := mk_ hl514_10
    clear hi514_10 hl514_10
    have HR514_11 := mk_ hi514_11
    have HC514_11 := mk_ hl514_11
    clear hi514_11 hl514_11
    replace p514 := eq_true p514
    replace q514 := eq_true q514
    have p515 : 0 ≤ (x3_1 : Int) := of_decide_eq_true z1_
    have q515 : x3_1 < (l0.length : Int) := of_decide_eq_true z1_
    obtain ⟨ad515, A515_2, c515_2, A515_10, c515_10, A515_11, c515_11, e515, hx515_0, hx515_1, hx515_2, hx515_3, hx515_4, hx515_5, hx515_6, hx515_7, hx515_8, hx515_9, hx515_10, hx515_11, hl515_2, hi515_2, hl515_10, hi515_10, hl515_11, hi515_11⟩ := at_T32 HR0.out x3_1 p515 q515
    obtain rfl : ad514 = ad515 := (by injection e515)
    have HR515_2 := mk_ hi515_2
    have HC515_2 := mk_ hl515_2
    clear hi515_2 hl515_2
    have HR515_10 := mk_ hi515_10
    have HC515_10 := mk_ hl515_10
    clear hi515_10 hl515_10
    have HR515_11 := mk_ hi515_11
    have HC515_11 := mk_ hl515_11
    clear hi515_11 hl515_11
    replace p515 := eq_true p515
    replace q515 := eq_true q515
    have ea_ := Option.some.inj (hx514_2.symm.trans hx515_2)
    injection ea_ with ea_ en_ ec_
    subst ea_
    subst ec_
    clear en_
    have ea_ := Option.some.inj (hx514_10.symm.trans hx515_10)
    injection ea_ with ea_ en_ ec_
    subst ea_
    subst ec_
    clear en_
    have ea_ := Option.some.inj (hx514_11.symm.trans hx515_11)
    injection ea_ with ea_ en_ ec_
    subst ea_
    subst ec_
    clear en_
    go_wp2
    go_ret
    exact ⟨z4_, by repeat (first | exact Drawn0.refl _ | apply Drawn0.step)⟩
   rw [if_neg c6] at H
   have c6b0 : decide (100 < (((rd_T32 l0 x3_1).f5).size : Int)) = false := decide_eq_false c6
   have c6b1 : decide (100 < ((rd_T32 l0 x3_1).f5).size) = false := decide_eq_false z3_
   clear c6
   obtain ⟨t517, A7, H⟩ := Option.bind_eq_some_iff.mp H
   replace A7 := mk_ A7
   by_cases c8 : t517 = true
   ·
    subst c8
    rw [if_pos rfl] at H
    obtain rfl := Option.some.inj H
    have p514 : 0 ≤ (x3_1 : Int) := of_decide_eq_true z1_
    have q514 : x3_1 < (l0.length : Int) := of_decide_eq_true z1_
    obtain ⟨ad514, A514_2, c514_2, A514_10, c514_10, A514_11, c514_11, e514, hx514_0, hx514_1, hx514_2, hx514_3, hx514_4, hx514_5, hx514_6, hx514_7, hx514_8, hx514_9, hx514_10, hx514_11, hl514_2, hi514_2, hl514_10, hi514_10, hl514_11, hi514_11⟩ := at_T32 HR0.out x3_1 p514 q514
    cases e514
    have HR514_2 := mk_ hi514_2
    have HC514_2 := mk_ hl514_2
    clear hi514_2 hl514_2
    have HR514_10 := mk_ hi514_10
    have HC514_10 := mk_ hl514_10
    clear hi514_10 hl514_10
    have HR514_11 := mk_ hi514_11
    have HC514_11 := mk_ hl514_11
    clear hi514_11 hl514_11
    replace p514 := eq_true p514
    replace q514 := eq_true q514
    have p515 : 0 ≤ (x3_1 : Int) := of_decide_eq_true z1_
    have q515 : x3_1 < (l0.length : Int) := of_decide_eq_true z1_
    obtain ⟨ad515, A515_2, c515_2, A515_10, c515_10, A515_11, c515_11, e515, hx515_0, hx515_1, hx515_2, hx515_3, hx515_4, hx515_5, hx515_6, hx515_7, hx515_8, hx515_9, hx515_10, hx515_11, hl515_2, hi515_2, hl515_10, hi515_10, hl515_11, hi515_11⟩ := at_T32 HR0.out x3_1 p515 q515
    obtain rfl : ad514 = ad515 := (by injection e515)
    have HR515_2 := mk_ hi515_2
    have HC515_2 := mk_ hl515_2
    clear hi515_2 hl515_2
    have HR515_10 := mk_ hi515_10
    have HC515_10 := mk_ hl515_10
    clear hi515_10 hl515_10
    have HR515_11 := mk_ hi515_11
    have HC515_11 := mk_ hl515_11
    clear hi515_11 hl515_11
    replace p515 := eq_true p515
    replace q515 := eq_true q515
    have ea_ := Option.some.inj (hx514_2.symm.trans hx515_2)
    injection ea_ with ea_ en_ ec_
    subst ea_
    subst ec_
    clear en_
    have ea_ := Option.some.inj (hx514_10.symm.trans hx515_10)
    injection ea_ with ea_ en_ ec_
    subst ea_
    subst ec_
    clear en_
    have ea_ := Option.some.inj (hx514_11.symm.trans hx515_11)
    injection ea_ with ea_ en_ ec_
    subst ea_
    subst ec_
    clear en_
    have p516 : 0 ≤ (x3_1 : Int) := of_decide_eq_true z1_
    have q516 : x3_1 < (l0.length : Int) := of_decide_eq_true z1_
    obtain ⟨ad516, A516_2, c516_2, A516_10, c516_10, A516_11, c516_11, e516, hx516_0, hx516_1, hx516_2, hx516_3, hx516_4, hx516_5, hx516_6, hx516_7, hx516_8, hx516_9, hx516_10, hx516_11, hl516_2, hi516_2, hl516_10, hi516_10, hl516_11, hi516_11⟩ := at_T32 HR0.out x3_1 p516 q516
    obtain rfl : ad514 = ad516 := (by injection e516)
    have HR516_2 := mk_ hi516_2
    have HC516_2 := mk_ hl516_2
    clear hi516_2 hl516_2
    have HR516_10 := mk_ hi516_10
    have HC516_10 := mk_ hl516_10
    clear hi516_10 hl516_10
    have HR516_11 := mk_ hi516_11
    have HC516_11 := mk_ hl516_11
    clear hi516_11 hl516_11
    replace p516 := eq_true p516
    replace q516 := eq_true q516
    have ea_ := Option.some.inj (hx514_2.symm.trans hx516_2)
    injection ea_ with ea_ en_ ec_
    subst ea_
    subst ec_
    clear en_
    have ea_ := Option.some.inj (hx514_10.symm.trans hx516_10)
    injection ea_ with ea_ en_ ec_
    subst ea_
    subst ec_
    clear en_
    have ea_ := Option.some.inj (hx514_11.symm.trans hx516_11)
    injection ea_ with ea_ en_ ec_
    subst ea_
    subst ec_
    clear en_
    go_wp2_with (first | (go_at_call 35; (with_reducible refine (raddlelaw04_Heavy.calls k1 _ _ ((rd_T32 l0 x3_1).f7) true _ ?side1 ?side2 A7.out).mono ?_); (case side1 => repeat (first | exact HR516_10.out | (with_reducible refine C_alloc ?_ _) | (with_reducible refine C_drewN ?_ _) | (with_reducible refine C_drew ?_))); (case side2 => exact HC516_10.out); rintro e w' ⟨rfl, ⟨nd, rfl⟩⟩))
    go_ret
    exact ⟨z4_, by repeat (first | exact Drawn0.refl _ | apply Drawn0.step)⟩
   replace c8 := Bool.eq_false_iff.mpr c8
   subst c8
   rw [if_neg (show ¬ (false = true) by decide)] at H
   by_cases c9 : (((rd_T32 l0 x3_1).f8).length : Int) > 100
   ·
    rw [if_pos c9] at H
    have c9b0 : decide (100 < (((rd_T32 l0 x3_1).f8).length : Int)) = true := decide_eq_true c9
    have c9b1 : decide (100 < ((rd_T32 l0 x3_1).f8).length) = true := decide_eq_true z3_
    clear c9
    obtain rfl := Option.some.inj H
    have p514 : 0 ≤ (x3_1 : Int) := of_decide_eq_true z1_
    have q514 : x3_1 < (l0.length : Int) := of_decide_eq_true z1_
    obtain ⟨ad514, A514_2, c514_2, A514_10, c514_10, A514_11, c514_11, e514, hx514_0, hx514_1, hx514_2, hx514_3, hx514_4, hx514_5, hx514_6, hx514_7, hx514_8, hx514_9, hx514_10, hx514_11, hl514_2, hi514_2, hl514_10, hi514_10, hl514_11, hi514_11⟩ := at_T32 HR0.out x3_1 p514 q514
    cases e514
    have HR514_2 := mk_ hi514_2
    have HC514_2 := mk_ hl514_2
    clear hi514_2 hl514_2
    have HR514_10 := mk_ hi514_10
    have HC514_10 := mk_ hl514_10
    clear hi514_10 hl514_10
    have HR514_11 := mk_ hi514_11
    have HC514_11 := mk_ hl514_11
    clear hi514_11 hl514_11
    replace p514 := eq_true p514
    replace q514 := eq_true q514
    have p515 : 0 ≤ (x3_1 : Int) := of_decide_eq_true z1_
    have q515 : x3_1 < (l0.length : Int) := of_decide_eq_true z1_
    obtain ⟨ad515, A515_2, c515_2, A515_10, c515_10, A515_11, c515_11, e515, hx515_0, hx515_1, hx515_2, hx515_3, hx515_4, hx515_5, hx515_6, hx515_7, hx515_8, hx515_9, hx515_10, hx515_11, hl515_2, hi515_2, hl515_10, hi515_10, hl515_11, hi515_11⟩ := at_T32 HR0.out x3_1 p515 q515
    obtain rfl : ad514 = ad515 := (by injection e515)
    have HR515_2 := mk_ hi515_2
    have HC515_2 := mk_ hl515_2
    clear hi515_2 hl515_2
    have HR515_10 := mk_ hi515_10
    have HC515_10 := mk_ hl515_10
    clear hi515_10 hl515_10
    have HR515_11 := mk_ hi515_11
    have HC515_11 := mk_ hl515_11
    clear hi515_11 hl515_11
    replace p515 := eq_true p515
    replace q515 := eq_true q515
    have ea_ := Option.some.inj (hx514_2.symm.trans hx515_2)
    injection ea_ with ea_ en_ ec_
    subst ea_
    subst ec_
    clear en_
    have ea_ := Option.some.inj (hx514_10.symm.trans hx515_10)
    injection ea_ with ea_ en_ ec_
    subst ea_
    subst ec_
    clear en_
    have ea_ := Option.some.inj (hx514_11.symm.trans hx515_11)
    injection ea_ with ea_ en_ ec_
    subst ea_
    subst ec_
    clear en_
    have p516 : 0 ≤ (x3_1 : Int) := of_decide_eq_true z1_
    have q516 : x3_1 < (l0.length : Int) := of_decide_eq_true z1_
    obtain ⟨ad516, A516_2, c516_2, A516_10, c516_10, A516_11, c516_11, e516, hx516_0, hx516_1, hx516_2, hx516_3, hx516_4, hx516_5, hx516_6, hx516_7, hx516_8, hx516_9, hx516_10, hx516_11, hl516_2, hi516_2, hl516_10, hi516_10, hl516_11, hi516_11⟩ := at_T32 HR0.out x3_1 p516 q516
    obtain rfl : ad514 = ad516 := (by injection e516)
    have HR516_2 := mk_ hi516_2
    have HC516_2 := mk_ hl516_2
    clear hi516_2 hl516_2
    have HR516_10 := mk_ hi516_10
    have HC516_10 := mk_ hl516_10
    clear hi516_10 hl516_10
    have HR516_11 := mk_ hi516_11
    have HC516_11 := mk_ hl516_11
    clear hi516_11 hl516_11
    replace p516 := eq_true p516
    replace q516 := eq_true q516
    have ea_ := Option.some.inj (hx514_2.symm.trans hx516_2)
    injection ea_ with ea_ en_ ec_
    subst ea_
    subst ec_
    clear en_
    have ea_ := Option.some.inj (hx514_10.symm.trans hx516_10)
    injection ea_ with ea_ en_ ec_
    subst ea_
    subst ec_
    clear en_
    have ea_ := Option.some.inj (hx514_11.symm.trans hx516_11)
    injection ea_ with ea_ en_ ec_
    subst ea_
    subst ec_
    clear en_
    go_wp2_with (first | (go_at_call 35; (with_reducible refine (raddlelaw04_Heavy.calls k1 _ _ ((rd_T32 l0 x3_1).f7) false _ ?side1 ?side2 A7.out).mono ?_); (case side1 => repeat (first | exact HR516_10.out | (with_reducible refine C_alloc ?_ _) | (with_reducible refine C_drewN ?_ _) | (with_reducible refine C_drew ?_))); (case side2 => exact HC516_10.out); rintro e w' ⟨rfl, ⟨nd, rfl⟩⟩; have p518 : 0 ≤ (x3_1 : Int) := of_decide_eq_true z1_; have q518 : x3_1 < (l0.length : Int) := of_decide_eq_true z1_; obtain ⟨ad518, A518_2, c518_2, A518_10, c518_10, A518_11, c518_11, e518, hx518_0, hx518_1, hx518_2, hx518_3, hx518_4, hx518_5, hx518_6, hx518_7, hx518_8, hx518_9, hx518_10, hx518_11, hl518_2, hi518_2, hl518_10, hi518_10, hl518_11, hi518_11⟩ := at_T32 HR0.out x3_1 p518 q518; obtain rfl : ad514 = ad518 := (by injection e518); have HR518_2 := mk_ hi518_2; have HC518_2 := mk_ hl518_2; clear hi518_2 hl518_2; have HR518_10 := mk_ hi518_10; have HC518_10 := mk_ hl518_10; clear hi518_10 hl518_10; have HR518_11 := mk_ hi518_11; have HC518_11 := mk_ hl518_11; clear hi518_11 hl518_11; replace p518 := eq_true p518; replace q518 := eq_true q518; have ea_ := Option.some.inj (hx514_2.symm.trans hx518_2); injection ea_ with ea_ en_ ec_; subst ea_; subst ec_; clear en_; have ea_ := Option.some.inj (hx514_10.symm.trans hx518_10); injection ea_ with ea_ en_ ec_; subst ea_; subst ec_; clear en_; have ea_ := Option.some.inj (hx514_11.symm.trans hx518_11); injection ea_ with ea_ en_ ec_; subst ea_; subst ec_; clear en_))
    go_ret
    exact ⟨z4_, by repeat (first | exact Drawn0.refl _ | apply Drawn0.step)⟩
   rw [if_neg c9] at H
   have c9b0 : decide (100 < (((rd_T32 l0 x3_1).f8).length : Int)) = false := decide_eq_false c9
   have c9b1 : decide (100 < ((rd_T32 l0 x3_1).f8).length) = false := decide_eq_false z3_
   clear c9
   have H' := mk_ H
   clear H
   have p514 : 0 ≤ (x3_1 : Int) := of_decide_eq_true z1_
   have q514 : x3_1 < (l0.length : Int) := of_decide_eq_true z1_
   obtain ⟨ad514, A514_2, c514_2, A514_10, c514_10, A514_11, c514_11, e514, hx514_0, hx514_1, hx514_2, hx514_3, hx514_4, hx514_5, hx514_6, hx514_7, hx514_8, hx514_9, hx514_10, hx514_11, hl514_2, hi514_2, hl514_10, hi514_10, hl514_11, hi514_11⟩ := at_T32 HR0.out x3_1 p514 q514
   cases e514
   have HR514_2 := mk_ hi514_2
   have HC514_2 := mk_ hl514_2
   clear hi514_2 hl514_2
   have HR514_10 := mk_ hi514_10
   have HC514_10 := mk_ hl514_10
   clear hi514_10 hl514_10
   have HR514_11 := mk_ hi514_11
   have HC514_11 := mk_ hl514_11
   clear hi514_11 hl514_11
   replace p514 := eq_true p514
   replace q514 := eq_true q514
   have p515 : 0 ≤ (x3_1 : Int) := of_decide_eq_true z1_
   have q515 : x3_1 < (l0.length : Int) := of_decide_eq_true z1_
   obtain ⟨ad515, A515_2, c515_2, A515_10, c515_10, A515_11, c515_11, e515, hx515_0, hx515_1, hx515_2, hx515_3, hx515_4, hx515_5, hx515_6, hx515_7, hx515_8, hx515_9, hx515_10, hx515_11, hl515_2, hi515_2, hl515_10, hi515_10, hl515_11, hi515_11⟩ := at_T32 HR0.out x3_1 p515 q515
   obtain rfl : ad514 = ad515 := (by injection e515)
   have HR515_2 := mk_ hi515_2
   have HC515_2 := mk_ hl515_2
   clear hi515_2 hl515_2
   have HR515_10 := mk_ hi515_10
   have HC515_10 := mk_ hl515_10
   clear hi515_10 hl515_10
   have HR515_11 := mk_ hi515_11
   have HC515_11 := mk_ hl515_11
   clear hi515_11 hl515_11
   replace p515 := eq_true p515
   replace q515 := eq_true q515
   have ea_ := Option.some.inj (hx514_2.symm.trans hx515_2)
   injection ea_ with ea_ en_ ec_
   subst ea_
   subst ec_
   clear en_
   have ea_ := Option.some.inj (hx514_10.symm.trans hx515_10)
   injection ea_ with ea_ en_ ec_
   subst ea_
   subst ec_
   clear en_
   have ea_ := Option.some.inj (hx514_11.symm.trans hx515_11)
   injection ea_ with ea_ en_ ec_
   subst ea_
   subst ec_
   clear en_
   have p516 : 0 ≤ (x3_1 : Int) := of_decide_eq_true z1_
   have q516 : x3_1 < (l0.length : Int) := of_decide_eq_true z1_
   obtain ⟨ad516, A516_2, c516_2, A516_10, c516_10, A516_11, c516_11, e516, hx516_0, hx516_1, hx516_2, hx516_3, hx516_4, hx516_5, hx516_6, hx516_7, hx516_8, hx516_9, hx516_10, hx516_11, hl516_2, hi516_2, hl516_10, hi516_10, hl516_11, hi516_11⟩ := at_T32 HR0.out x3_1 p516 q516
   obtain rfl : ad514 = ad516 := (by injection e516)
   have HR516_2 := mk_ hi516_2
   have HC516_2 := mk_ hl516_2
   clear hi516_2 hl516_2
   have HR516_10 := mk_ hi516_10
   have HC516_10 := mk_ hl516_10
   clear hi516_10 hl516_10
   have HR516_11 := mk_ hi516_11
   have HC516_11 := mk_ hl516_11
   clear hi516_11 hl516_11
   replace p516 := eq_true p516
   replace q516 := eq_true q516
   have ea_ := Option.some.inj (hx514_2.symm.trans hx516_2)
   injection ea_ with ea_ en_ ec_
   subst ea_
   subst ec_
   clear en_
   have ea_ := Option.some.inj (hx514_10.symm.trans hx516_10)
   injection ea_ with ea_ en_ ec_
   subst ea_
   subst ec_
   clear en_
   have ea_ := Option.some.inj (hx514_11.symm.trans hx516_11)
   injection ea_ with ea_ en_ ec_
   subst ea_
   subst ec_
   clear en_
   go_wp2_with (first | (go_at_call 35; (with_reducible refine (raddlelaw04_Heavy.calls k1 _ _ ((rd_T32 l0 x3_1).f7) false _ ?side1 ?side2 A7.out).mono ?_); (case side1 => repeat (first | exact HR516_10.out | (with_reducible refine C_alloc ?_ _) | (with_reducible refine C_drewN ?_ _) | (with_reducible refine C_drew ?_))); (case side2 => exact HC516_10.out); rintro e w' ⟨rfl, ⟨nd, rfl⟩⟩; have p518 : 0 ≤ (x3_1 : Int) := of_decide_eq_true z1_; have q518 : x3_1 < (l0.length : Int) := of_decide_eq_true z1_; obtain ⟨ad518, A518_2, c518_2, A518_10, c518_10, A518_11, c518_11, e518, hx518_0, hx518_1, hx518_2, hx518_3, hx518_4, hx518_5, hx518_6, hx518_7, hx518_8, hx518_9, hx518_10, hx518_11, hl518_2, hi518_2, hl518_10, hi518_10, hl518_11, hi518_11⟩ := at_T32 HR0.out x3_1 p518 q518; obtain rfl : ad514 = ad518 := (by injection e518); have HR518_2 := mk_ hi518_2; have HC518_2 := mk_ hl518_2; clear hi518_2 hl518_2; have HR518_10 := mk_ hi518_10; have HC518_10 := mk_ hl518_10; clear hi518_10 hl518_10; have HR518_11 := mk_ hi518_11; have HC518_11 := mk_ hl518_11; clear hi518_11 hl518_11; replace p518 := eq_true p518; replace q518 := eq_true q518; have ea_ := Option.some.inj (hx514_2.symm.trans hx518_2); injection ea_ with ea_ en_ ec_; subst ea_; subst ec_; clear en_; have ea_ := Option.some.inj (hx514_10.symm.trans hx518_10); injection ea_ with ea_ en_ ec_; subst ea_; subst ec_; clear en_; have ea_ := Option.some.inj (hx514_11.symm.trans hx518_11); injection ea_ with ea_ en_ ec_; subst ea_; subst ec_; clear en_))
   go_roundg k1
   case measure => have := HK1.out; omega
   case rel => exact ⟨(wrap64 (x3_1 + 1)), z4_, H', ⟨by have := HK1.out; omega⟩, by repeat (first | exact Drawn0.refl _ | apply Drawn0.step)⟩
end Go.Proofs.Ytjnjfogfpmeacaa.PAll
end
section
namespace Go.Proofs.Ytjnjfogfpmeacaa.Plain
open Go.RowKit PAll PrintWords PrintLast PrintMore ZipT PrintWords.Kd PrintMore.Kd
set_option linter.unusedVariables false
set_option linter.unusedSimpArgs false
abbrev V := S84
theorem dropL_lt {α : Type} {l : List α} {i : Nat} {v : α} {m : List α} (h : l.drop i = v :: m) : i < l.length := by
 rcases Nat.lt_or_ge i l.length with h1 | h1
 ·
  exact h1
 ·
  rw [List.drop_eq_nil_iff.2 h1] at h; cases h
theorem dropL_tail {α : Type} {l : List α} {i : Nat} {v : α} {m : List α} (h : l.drop i = v :: m) : l.drop (i + 1) = m := by
 rw [← List.drop_drop, h]; rfl
theorem dropL_end {α : Type} {l : List α} {i : Nat} (h : l.drop i = []) : l.length ≤ i := List.drop_eq_nil_iff.1 h
theorem rdT_drop {l : List V} {i : Nat} {v : V} {m : List V} (h : l.drop i = v :: m) : rd_T84 l (i : Int) = v := by
 show l.getD ((i : Int).toNat) _ = v
 rw [Int.toNat_natCast, List.getD_eq_getElem?_getD]
 have : l[i]? = (l.drop i)[0]? := by rw [List.getElem?_drop]; simp
 rw [this, h]; rfl
theorem rdI_drop {l : List Int} {i : Nat} {v : Int} {m : List Int} (h : l.drop i = v :: m) : rd l (i : Int) = v := rd_drop h
theorem V_ext {a b : V} (h0 : a.f0 = b.f0) (h1 : a.f1 = b.f1) (h2 : a.f2 = b.f2) : a = b := by cases a; cases b; simp_all
instance : DecidableEq V := fun a b => decidable_of_iff (a.f0 = b.f0 ∧ a.f1 = b.f1 ∧ a.f2 = b.f2) ⟨fun ⟨h0, h1, h2⟩ => V_ext h0 h1 h2, fun h => by subst h; exact ⟨rfl, rfl, rfl⟩⟩
def okV (v : V) : Prop := vOk v.f0 v.f1 v.f2
instance (v : V) : Decidable (okV v) := by unfold okV; infer_instance
def okR (l : List V) : Bool := l.all fun v => decide (okV v)
def rowE (l : List V) : Int := if l.length > 12 then 2 else if okR l = true then 0 else 1
theorem rowE_zero (l : List V) : rowE l = 0 ↔ l.length ≤ 12 ∧ ∀ v ∈ l, okV v := by
 unfold rowE okR
 by_cases h : l.length > 12
 ·
  rw [if_pos h]; constructor
  ·
   intro h; omega
  ·
   intro h; omega
 rw [if_neg h]
 by_cases h2 : (l.all fun v => decide (okV v)) = true
 rotate_left
 ·
  rw [if_neg h2]
  refine ⟨fun h => by omega, fun ⟨_, h3⟩ => absurd (List.all_eq_true.2 fun v hv => decide_eq_true (h3 v hv)) h2⟩
 rw [if_pos h2]
 refine ⟨fun _ => ⟨by omega, fun v hv => ?_⟩, fun _ => rfl⟩
 have := List.all_eq_true.1 h2 v hv
 exact of_decide_eq_true this
theorem wrong_eq (v : V) : row_wrong.f v.f0 v.f1 v.f2 = some (!decide (okV v)) := by
 unfold row_wrong.f okV
 rw [check_eq, Option.bind_some]
 by_cases h : vOk v.f0 v.f1 v.f2
 ·
  rw [if_pos h, decide_eq_true h]; rfl
 rw [if_neg h, decide_eq_false h]; rfl
theorem index_wrong (l : List V) (hl : l.length ≤ 1000000) (m : List V) : ∀ (k i : Nat), l.drop i = m → m.length < k →
  ∃ r, slices_IndexFunc_at_row_wrong.l0 k l (l.length : Int) (i : Int) = some r ∧ (r ≥ 0 ↔ m.all (fun v => decide (okV v)) = false) := by
 induction m with
 | nil =>
  intro k i h hk
  obtain ⟨k, rfl⟩ : ∃ j, k = j + 1 := ⟨k - 1, by omega⟩
  have := dropL_end h
  refine ⟨-1, ?_, by simp⟩
  simp only [slices_IndexFunc_at_row_wrong.l0]
  rw [if_neg z3_]
 | cons v m ih =>
  intro k i h hk
  obtain ⟨k, rfl⟩ : ∃ j, k = j + 1 := ⟨k - 1, by omega⟩
  have hi := dropL_lt h
  simp only [slices_IndexFunc_at_row_wrong.l0]
  rw [if_pos z3_, if_pos z3_, if_pos z3_, rdT_drop h, wrong_eq, Option.bind_some]
  by_cases ho : okV v
  rotate_left
  ·
   refine ⟨i, ?_, ?_⟩
   ·
    rw [decide_eq_false ho, if_pos z5_]
   ·
    simp [ho]
  obtain ⟨r, h1, h2⟩ := ih k (i + 1) (dropL_tail h) (by simp at hk; omega)
  refine ⟨r, ?_, ?_⟩
  ·
   rw [decide_eq_true ho, if_neg z5_, w64 z3_ z3_]; exact h1
  ·
   rw [h2]; simp [ho]
theorem rcheck_eq (k : Nat) (l : List V) (hl : l.length ≤ 1000000) (hk : l.length + 1 ≤ k) : row_Check.f k l = some (rowE l) := by
 unfold row_Check.f rowE
 by_cases h : (l.length : Int) > 12
 ·
  rw [if_pos h, if_pos z3_]
 obtain ⟨r, h1, h2⟩ := index_wrong l hl l k 0 rfl z3_
 rw [if_neg h, if_neg z3_]
 unfold slices_ContainsFunc_at_row_wrong.f slices_IndexFunc_at_row_wrong.f
 rw [show ((0 : Nat) : Int) = 0 from rfl] at h1
 rw [h1, Option.bind_some, Option.bind_some]
 unfold okR
 cases hz : (l.all fun v => decide (okV v))
 ·
  rw [hz] at h2; rw [decide_eq_true (h2.2 rfl)]; simp
 ·
  rw [hz] at h2; rw [decide_eq_false (fun h => by simpa using h2.1 h)]; simp
def vB (v : V) : List Int := sVB v.f0 v.f1 v.f2
def rowVs (l : List V) : List Int := l.flatMap vB
def rowB (l : List V) : List Int := (l.length : Int) :: rowVs l
theorem vB_len {v : V} (h : okV v) : 1 ≤ (vB v).length ∧ (vB v).length ≤ 26 := by
 unfold vB; rw [sVB_length h]; unfold okV vOk at h; repeat' split
 all_goals omega
theorem rowVs_len (l : List V) (h : ∀ v ∈ l, okV v) : (rowVs l).length ≤ l.length * 26 ∧ l.length ≤ (rowVs l).length := by
 induction l with
 | nil => simp [rowVs]
 | cons v l ih =>
  have h1 := vB_len (h v List.mem_cons_self)
  have h2 := ih fun x hx => h x (List.mem_cons_of_mem _ hx)
  simp only [rowVs, List.flatMap_cons, List.length_append, List.length_cons] at *
  omega
theorem rowVs_bytes (l : List V) (h : ∀ v ∈ l, okV v) : Bytes (rowVs l) := by
 induction l with
 | nil => exact Bytes.nil
 | cons v l ih =>
  simp only [rowVs, List.flatMap_cons]
  exact (sVB_bytes (h v List.mem_cons_self)).append (ih fun x hx => h x (List.mem_cons_of_mem _ hx))
theorem rowBytes_l0 (l : List V) (hl : l.length ≤ 1000) (ho : ∀ v ∈ l, okV v) (m : List V) : ∀ (k i : Nat) (out : List Int), l.drop i = m → out.length + m.length * 26 ≤ 1000000 → m.length + 40 ≤ k →
    row_Bytes.l0 k out l (l.length : Int) (i : Int) = some (out ++ rowVs m, 0) := by
  induction m with
  | nil =>
    intro k i out h hb hk
    obtain ⟨k, rfl⟩ : ∃ j, k = j + 1 := ⟨k - 1, by omega⟩
    have := dropL_end h
    simp only [row_Bytes.l0]
    rw [if_neg z3_]; simp [rowVs]
  | cons v m ih =>
    intro k i out h hb hk
    obtain ⟨k, rfl⟩ : ∃ j, k = j + 1 := ⟨k - 1, by omega⟩
    have hi := dropL_lt h
    have hv : okV v := ho v (by have : v ∈ l.drop i := by rw [h]; exact List.mem_cons_self
                                exact List.mem_of_mem_drop this)
    have hvl := vB_len hv
    simp only [List.length_cons] at hb hk
    simp only [row_Bytes.l0]
    rw [if_pos z3_, if_pos z3_, if_pos z3_, rdT_drop h, vbytes_eq _ _ _ _ z3_, if_pos (show vOk v.f0 v.f1 v.f2 from hv), Option.bind_some]
    simp only
    rw [if_pos (by show out.length + (vB v).length < _; omega), w64 z3_ z3_]
    have := ih k (i + 1) (out ++ vB v) (dropL_tail h) (by rw [List.length_append]; omega) z3_
    rw [show ((i : Int) + 1) = ((i + 1 : Nat) : Int) from rfl]
    refine Eq.trans this ?_
    simp [rowVs]
theorem rowBytes_eq (k : Nat) (l : List V) (hl : l.length ≤ 1000000) (hk : l.length + 60 ≤ k) : row_Bytes.f k l = some (if rowE l = 0 then (rowB l, 0) else ([], rowE l)) := by
 unfold row_Bytes.f
 rw [rcheck_eq k l hl z3_, Option.bind_some]
 by_cases h : rowE l = 0
 rotate_left
 ·
  rw [if_neg h, if_neg h]
 obtain ⟨h1, h2⟩ := (rowE_zero l).1 h
 have hz := rowBytes_l0 l z3_ h2 l k 0 [((l.length : Int)) % 256] rfl (by rw [List.length_singleton]; omega) z3_
 rw [show ((0 : Nat) : Int) = 0 from rfl] at hz
 rw [if_pos h, if_pos h, hz]
 have : (l.length : Int) % 256 = l.length := by omega
 rw [this]; rfl
def vals (l : List Int) : Nat → Int → List V → List V × Int × Int
 | 0, at_, acc => (acc, at_, 0)
 | n + 1, at_, acc => if (sVRead l at_).2.2.2.2 = 0 then vals l n (sVRead l at_).2.2.2.1 (acc ++ [⟨(sVRead l at_).1, (sVRead l at_).2.1, (sVRead l at_).2.2.1⟩]) else ([], 0, 3)
def sRowRead (l : List Int) (at_ : Int) : List V × Int × Int :=
 if 0 ≤ at_ ∧ at_ ≤ l.length then (if at_ = l.length ∨ rd l at_ > 12 then ([], 0, 3) else vals l (rd l at_).toNat (at_ + 1) []) else ([], 0, 1)
theorem rowRead_l0 (l : List Int) (hb : Bytes l) (hl : l.length ≤ 1000000) (many : Nat) (hm : many ≤ 12) (n : Nat) : ∀ (k : Nat) (at_ : Int) (acc : List V), n ≤ many → 0 ≤ at_ → at_ ≤ l.length → acc.length + n ≤ 100 → n + 40 ≤ k →
  row_Read.l0 k l acc at_ (many : Int) ((many - n : Nat) : Int) = some (vals l n at_ acc) := by
 induction n with
 | zero =>
  intro k at_ acc hn h0 h1 ha hk
  obtain ⟨k, rfl⟩ : ∃ j, k = j + 1 := ⟨k - 1, by omega⟩
  simp only [row_Read.l0]
  rw [if_neg z3_]; rfl
 | succ n ih =>
  intro k at_ acc hn h0 h1 ha hk
  obtain ⟨k, rfl⟩ : ∃ j, k = j + 1 := ⟨k - 1, by omega⟩
  simp only [row_Read.l0, vals]
  rw [if_pos z3_, vread_eq _ _ _ hb hl z3_ z3_, Option.bind_some]
  by_cases hz : (sVRead l at_).2.2.2.2 = 0
  rotate_left
  ·
   rw [if_neg hz, if_neg hz]
  obtain ⟨_, _, h3, h4, _⟩ := vread_sub hb hz
  rw [if_pos hz, if_pos hz, if_pos z3_, w64 z3_ z3_, show (((many - (n + 1) : Nat) : Int) + 1) = ((many - n : Nat) : Int) from by omega]
  exact ih k _ _ z3_ z3_ h4 (by rw [List.length_append, List.length_singleton]; omega) z3_
theorem rowRead_eq (k : Nat) (l : List Int) (at_ : Int) (hb : Bytes l) (hl : l.length ≤ 1000000) (ha : at_ ≤ 9223372036854775807) (hk : 80 ≤ k) : row_Read.f k l at_ = some (sRowRead l at_) := by
 unfold row_Read.f sRowRead
 rw [get_eq _ _ _ _ hb hl ha z3_, Option.bind_some, sGet_one]
 by_cases h : 0 ≤ at_ ∧ at_ ≤ l.length
 rotate_left
 ·
  rw [if_neg h, if_neg h, if_neg z5_]
 rw [if_pos h, if_pos h]
 have hr := hb.rd at_
 unfold Byte at hr
 by_cases h2 : at_ = l.length
 ·
  rw [if_pos h2, if_neg (show ¬ (((0, 0, 3) : Int × Int × Int).2.2 = 0) by decide), if_pos (Or.inl h2)]
 rw [if_neg h2]
 simp only
 rw [if_pos trivial]
 by_cases h3 : rd l at_ > 12
 ·
  rw [if_pos h3, if_pos (Or.inr h3)]
 rw [if_neg h3, if_neg z3_]
 have := rowRead_l0 l hb hl (rd l at_).toNat z3_ (rd l at_).toNat k (at_ + 1) [] z3_ z3_ z3_ (by simp; omega) z3_
 rw [Nat.sub_self, Int.toNat_of_nonneg hr.1] at this
 exact this
end Go.Proofs.Ytjnjfogfpmeacaa.Plain
end
section
namespace Go.Proofs.Ytjnjfogfpmeacaa.Plain
open Go.RowKit PAll PrintWords PrintLast PrintMore ZipT PrintWords.Kd PrintMore.Kd
set_option linter.unusedVariables false
set_option linter.unusedSimpArgs false
def fitsL : List V → List Int → Bool
 | [], [] => true
 | v :: l, t :: m => decide (vFits v.f0 v.f1 v.f2 t) && fitsL l m
 | _, _ => false
theorem fitsL_len {l : List V} {m : List Int} (h : fitsL l m = true) : l.length = m.length := by
 induction l generalizing m with
 | nil => cases m with
  | nil => rfl
  | cons t m => cases h
 | cons v l ih => cases m with
  | nil => cases h
  | cons t m => simp only [fitsL, Bool.and_eq_true] at h; simp [ih h.2]
theorem equal_l0 (a : List V) (b : List Int) (ha : a.length ≤ 1000000) (hl : a.length = b.length) (m : List V) : ∀ (k i : Nat), a.drop i = m → m.length < k →
  slices_EqualFunc_at_value_Fits.l0 k b a (a.length : Int) (i : Int) = some (fitsL m (b.drop i)) := by
 induction m with
 | nil =>
  intro k i h hk
  obtain ⟨k, rfl⟩ : ∃ j, k = j + 1 := ⟨k - 1, by omega⟩
  have h1 := dropL_end h
  simp only [slices_EqualFunc_at_value_Fits.l0]
  rw [if_neg z3_, List.drop_eq_nil_iff.2 z3_]; rfl
 | cons v m ih =>
  intro k i h hk
  obtain ⟨k, rfl⟩ : ∃ j, k = j + 1 := ⟨k - 1, by omega⟩
  have h1 := dropL_lt h
  simp only [slices_EqualFunc_at_value_Fits.l0]
  cases hd : b.drop i with
  | nil => have h2 := dropL_end hd; omega
  | cons t n =>
   rw [if_pos z3_, if_pos z3_, if_pos z3_, if_pos z3_, rdT_drop h, rdI_drop hd, fits_eq, Option.bind_some, w64 z3_ z3_]
   simp only [fitsL]
   by_cases hz : vFits v.f0 v.f1 v.f2 t
   rotate_left
   ·
    rw [decide_eq_false hz, if_neg z5_, Bool.false_and]
   rw [decide_eq_true hz, if_pos rfl, Bool.true_and, ← dropL_tail hd]
   exact ih k (i + 1) (dropL_tail h) (by simp at hk; omega)
theorem fitsL_ne {l : List V} {m : List Int} (h : l.length ≠ m.length) : fitsL l m = false := by
 cases hz : fitsL l m
 ·
  rfl
 ·
  exact absurd (fitsL_len hz) h
theorem rowFits_eq (k : Nat) (a : List V) (b : List Int) (ha : a.length ≤ 1000000) (hk : a.length + 1 ≤ k) : row_Fits.f k a b = some (fitsL a b) := by
 unfold row_Fits.f slices_EqualFunc_at_value_Fits.f
 by_cases hl : (a.length : Int) = b.length
 rotate_left
 ·
  rw [if_neg hl, fitsL_ne z3_]; rfl
 rw [if_pos hl]
 have := equal_l0 a b ha z3_ a k 0 rfl z3_
 rw [show ((0 : Nat) : Int) = 0 from rfl] at this
 rw [this]; rfl
theorem keepRow_l0 (a b : List V) (ha : a.length ≤ 1000000) (hl : a.length = b.length) (m : List V) : ∀ (k i : Nat), a.drop i = m → m.length < k →
  raddlekeep_Row.l0 k a b (i : Int) = some (decide (m = b.drop i)) := by
 induction m with
 | nil =>
  intro k i h hk
  obtain ⟨k, rfl⟩ : ∃ j, k = j + 1 := ⟨k - 1, by omega⟩
  have h1 := dropL_end h
  simp only [raddlekeep_Row.l0]
  rw [if_neg z3_, List.drop_eq_nil_iff.2 z3_]; simp
 | cons v m ih =>
  intro k i h hk
  obtain ⟨k, rfl⟩ : ∃ j, k = j + 1 := ⟨k - 1, by omega⟩
  have h1 := dropL_lt h
  simp only [raddlekeep_Row.l0]
  cases hd : b.drop i with
  | nil => have h2 := dropL_end hd; omega
  | cons t n =>
   rw [if_pos z3_, if_pos z3_, if_pos z3_, rdT_drop h, rdT_drop hd, keepValue_eq, Option.bind_some, w64 z3_ z3_]
   by_cases hz : v.f0 = t.f0 ∧ v.f1 = t.f1 ∧ v.f2 = t.f2
   rotate_left
   ·
    have hv : v ≠ t := fun e => hz (by subst e; exact ⟨rfl, rfl, rfl⟩)
    rw [decide_eq_false hz, if_neg z5_]
    simp [hv]
   have hv : v = t := V_ext hz.1 hz.2.1 hz.2.2
   have := ih k (i + 1) (dropL_tail h) (by simp at hk; omega)
   rw [decide_eq_true hz, if_pos rfl, show ((i : Int) + 1) = ((i + 1 : Nat) : Int) from rfl, this, dropL_tail hd, hv]
   simp
theorem keepRow_eq (k : Nat) (a b : List V) (ha : a.length ≤ 1000000) (hk : a.length + 1 ≤ k) : raddlekeep_Row.f k a b = some (decide (a = b)) := by
 unfold raddlekeep_Row.f
 by_cases hl : (a.length : Int) = b.length
 rotate_left
 ·
  rw [if_neg hl, decide_eq_false (fun e => hl (by rw [e]))]
 rw [if_pos hl]
 exact keepRow_l0 a b ha z3_ a k 0 rfl z3_
theorem keepInts_l0 (a b : List Int) (ha : a.length ≤ 1000000) (hl : a.length = b.length) (m : List Int) : ∀ (k i : Nat), a.drop i = m → m.length < k →
  raddlekeep_Ints.l0 k a b (i : Int) = some (decide (m = b.drop i)) := by
 induction m with
 | nil =>
  intro k i h hk
  obtain ⟨k, rfl⟩ : ∃ j, k = j + 1 := ⟨k - 1, by omega⟩
  have h1 := dropL_end h
  simp only [raddlekeep_Ints.l0]
  rw [if_neg z3_, List.drop_eq_nil_iff.2 z3_]; simp
 | cons v m ih =>
  intro k i h hk
  obtain ⟨k, rfl⟩ : ∃ j, k = j + 1 := ⟨k - 1, by omega⟩
  have h1 := dropL_lt h
  simp only [raddlekeep_Ints.l0]
  cases hd : b.drop i with
  | nil => have h2 := dropL_end hd; omega
  | cons t n =>
   rw [if_pos z3_, if_pos z3_, if_pos z3_, rdI_drop h, rdI_drop hd, w64 z3_ z3_]
   by_cases hz : v = t
   rotate_left
   ·
    rw [if_neg hz]
    simp [hz]
   have := ih k (i + 1) (dropL_tail h) (by simp at hk; omega)
   rw [if_pos hz, show ((i : Int) + 1) = ((i + 1 : Nat) : Int) from rfl, this, dropL_tail hd, hz]
   simp
theorem keepInts_eq (k : Nat) (a b : List Int) (ha : a.length ≤ 1000000) (hk : a.length + 1 ≤ k) : raddlekeep_Ints.f k a b = some (decide (a = b)) := by
 unfold raddlekeep_Ints.f
 by_cases hl : (a.length : Int) = b.length
 rotate_left
 ·
  rw [if_neg hl, decide_eq_false (fun e => hl (by rw [e]))]
 rw [if_pos hl]
 exact keepInts_l0 a b ha z3_ a k 0 rfl z3_
def heavy (l : List V) : Bool := decide ((l.length : Int) > 40) || l.any isLong
theorem heavy_eq (k : Nat) (l : List V) (hk : 60 ≤ k) : raddlelaw04_Heavy.f k l = some (heavy l) := by
 unfold raddlelaw04_Heavy.f heavy
 by_cases h : (l.length : Int) > 40
 ·
  rw [if_pos h, decide_eq_true h]; rfl
 rw [if_neg h, decide_eq_false h, long_eq _ _ z3_ z3_]; rfl
theorem heavy_len {l : List V} (h : ¬ heavy l = true) : l.length ≤ 40 := by
 unfold heavy at h
 simp at h
 omega
end Go.Proofs.Ytjnjfogfpmeacaa.Plain
end
section
namespace Go.Proofs.Ytjnjfogfpmeacaa.Plain
open Go.RowKit PAll PrintWords PrintLast PrintMore ZipT PrintWords.Kd PrintMore.Kd
set_option linter.unusedVariables false
set_option linter.unusedSimpArgs false
theorem rowB_bytes {l : List V} (h : rowE l = 0) : Bytes (rowB l) := by
 obtain ⟨h1, h2⟩ := (rowE_zero l).1 h
 exact Bytes.cons ⟨by omega, by omega⟩ (rowVs_bytes l h2)
theorem rowB_len {l : List V} (h : rowE l = 0) : (rowB l).length ≤ 400 := by
 obtain ⟨h1, h2⟩ := (rowE_zero l).1 h
 have := rowVs_len l h2
 simp only [rowB, List.length_cons]; omega
theorem vals_put (m : List V) : ∀ (pre c : List Int) (acc : List V), (∀ v ∈ m, okV v) → vals (pre ++ rowVs m ++ c) m.length pre.length acc = (acc ++ m, ((pre ++ rowVs m).length : Int), 0) := by
 induction m with
 | nil => intro pre c acc h; simp [vals, rowVs]
 | cons v m ih =>
  intro pre c acc h
  have hv := h v List.mem_cons_self
  have e : pre ++ rowVs (v :: m) ++ c = pre ++ sVB v.f0 v.f1 v.f2 ++ (rowVs m ++ c) := by simp [rowVs, vB]
  have g := vread_put pre (rowVs m ++ c) v.f0 v.f1 v.f2 hv
  rw [← e] at g
  simp only [List.length_cons, vals]
  rw [g, if_pos rfl]
  have e2 : pre ++ rowVs (v :: m) ++ c = (pre ++ vB v) ++ rowVs m ++ c := by simp [rowVs]
  have := ih (pre ++ vB v) c (acc ++ [v]) (fun x hx => h x (List.mem_cons_of_mem _ hx))
  rw [← e2, List.length_append] at this
  simp only
  show vals _ m.length ((pre.length : Int) + ((vB v).length : Int)) (acc ++ [v]) = _
  rw [show ((pre.length : Int) + ((vB v).length : Int)) = ((pre.length + (vB v).length : Nat) : Int) from rfl, this]
  simp [rowVs]
end Go.Proofs.Ytjnjfogfpmeacaa.Plain
end
section
namespace Go.Proofs.Ytjnjfogfpmeacaa.Plain
open Go.RowKit PAll PrintWords PrintLast PrintMore ZipT PrintWords.Kd PrintMore.Kd
set_option linter.unusedVariables false
set_option linter.unusedSimpArgs false
theorem sub_sub (l : List Int) (a b c : Nat) (h1 : a ≤ b) (h2 : b ≤ c) (h3 : c ≤ l.length) : sub l a b ++ sub l b c = sub l a c := by
 unfold sub
 have e : l.take b = (l.take c).take b := by rw [List.take_take, Nat.min_eq_left h2]
 rw [e]
 generalize l.take c = x
 rw [List.drop_take]
 have : x.drop b = (x.drop a).drop (b - a) := by rw [List.drop_drop]; congr 1; omega
 rw [this, List.take_append_drop]
theorem vals_sub (l : List Int) (hb : Bytes l) (n : Nat) : ∀ (at_ : Int) (acc : List V), 0 ≤ at_ → at_ ≤ l.length → (vals l n at_ acc).2.2 = 0 →
  ∃ m : List V, (vals l n at_ acc).1 = acc ++ m ∧ m.length = n ∧ (∀ v ∈ m, okV v) ∧ at_ ≤ (vals l n at_ acc).2.1 ∧ (vals l n at_ acc).2.1 ≤ l.length ∧ rowVs m = sub l at_.toNat (vals l n at_ acc).2.1.toNat := by
 induction n with
 | zero =>
  intro at_ acc h0 h1 h
  refine ⟨[], by simp [vals], rfl, by simp, Int.le_refl _, h1, ?_⟩
  symm; apply List.eq_nil_of_length_eq_zero
  simp only [vals]
  rw [sub_length z3_]; omega
 | succ n ih =>
  intro at_ acc h0 h1 h
  simp only [vals] at h ⊢
  by_cases hz : (sVRead l at_).2.2.2.2 = 0
  rotate_left
  ·
   rw [if_neg hz] at h; simp at h
  rw [if_pos hz] at h ⊢
  obtain ⟨ho, g0, g1, g2, g3⟩ := vread_sub hb hz
  obtain ⟨m, e1, e2, e3, e4, e5, e6⟩ := ih (sVRead l at_).2.2.2.1 (acc ++ [⟨(sVRead l at_).1, (sVRead l at_).2.1, (sVRead l at_).2.2.1⟩]) z3_ g2 h
  refine ⟨⟨(sVRead l at_).1, (sVRead l at_).2.1, (sVRead l at_).2.2.1⟩ :: m, by rw [e1]; simp, by simp [e2], ?_, by omega, e5, ?_⟩
  ·
   intro v hv
   rcases List.mem_cons.1 hv with rfl | hv
   ·
    exact ho
   ·
    exact e3 v hv
  ·
   have hs : rowVs ((⟨(sVRead l at_).1, (sVRead l at_).2.1, (sVRead l at_).2.2.1⟩ : V) :: m) = sVB (sVRead l at_).1 (sVRead l at_).2.1 (sVRead l at_).2.2.1 ++ rowVs m := by simp [rowVs, vB]
   rw [hs, g3, e6]
   exact sub_sub l _ _ _ z3_ z3_ z3_
end Go.Proofs.Ytjnjfogfpmeacaa.Plain
end
section
namespace Go.Proofs.Ytjnjfogfpmeacaa.Ops
open Go.RowKit PAll Plain PrintWords ZipT PrintWords.Kd PrintMore.Kd
set_option linter.unusedVariables false
set_option linter.unusedSimpArgs false
abbrev Ox := S32
abbrev Dt := S25
abbrev St := S28
abbrev Wr := List Int × Bool
def wAdd (s : Wr) (r : List Int × Int) : Wr := (s.1 ++ r.1, s.2 || decide (r.2 ≠ 0))
def wNum (n size : Int) (s : Wr) : Wr := wAdd s (sPut [] n size)
def wText (t : ByteArray) (s : Wr) : Wr := wAdd s (sPutText [] t)
def wOr (b : Bool) (s : Wr) : Wr := (s.1, s.2 || b)
def wAll {α : Type} (f : α → Wr → Wr) : List α → Wr → Wr
 | [], s => s
 | x :: l, s => wAll f l (f x s)
def wNums (l : List Int) (s : Wr) : Wr := wAll (fun n => wNum n 4) l (wNum l.length 1 (wOr (decide (l.length > 5)) s))
def wStamp (t : St) (s : Wr) : Wr := wNum t.f2 1 (wNum t.f1 3 (wNum t.f0 6 s))
def wDot (d : Dt) (s : Wr) : Wr := wNum d.f1 4 (wNum d.f0 1 s)
def wRow (l : List V) (s : Wr) : Wr := wAdd s (if rowE l = 0 then (rowB l, 0) else ([], rowE l))
def wHead (x : Ox) (s : Wr) : Wr := wNum x.f6 1 (wText x.f5 (wNum x.f4 1 (wStamp x.f2 (wNums x.f1 (wDot x.f0 (wNum x.f3 1 s))))))
def wOp (x : Ox) (s : Wr) : Wr := wAll wDot x.f8 (wNum x.f8.length 1 (wOr (decide (x.f8.length > 64)) (wRow x.f7 (wHead x s))))
def sOpBytes (x : Ox) : List Int × Int := if (wOp x ([], false)).2 = true then ([], 1) else ((wOp x ([], false)).1, 0)
abbrev Rr := Int × Bool
def rOf {α : Type} (z : α) (g : α × Int × Int) (r : Rr) : α × Rr := if r.2 = true ∨ g.2.2 ≠ 0 then (z, (r.1, true)) else (g.1, (g.2.1, false))
def rNum (size : Int) (l : List Int) (r : Rr) : Int × Rr := rOf 0 (sGet l r.1 size) r
def rText (l : List Int) (r : Rr) : ByteArray × Rr := rOf ⟨#[]⟩ (sGetText l r.1) r
def rRow (l : List Int) (r : Rr) : List V × Rr := rOf [] (sRowRead l r.1) r
def rMany (size most : Int) (l : List Int) (r : Rr) : Int × Rr := if (rNum size l r).1 > most then (0, ((rNum size l r).2.1, true)) else rNum size l r
def rTimes {α : Type} (f : List Int → Rr → α × Rr) (l : List Int) : Nat → List α → Rr → List α × Rr
 | 0, acc, r => (acc, r)
 | n + 1, acc, r => rTimes f l n (acc ++ [(f l r).1]) (f l r).2
def rNums (l : List Int) (r : Rr) : List Int × Rr := rTimes (rNum 4) l (rMany 1 5 l r).1.toNat [] (rMany 1 5 l r).2
def rStamp (l : List Int) (r : Rr) : St × Rr :=
 (⟨(rNum 6 l r).1, (rNum 3 l (rNum 6 l r).2).1, (rNum 1 l (rNum 3 l (rNum 6 l r).2).2).1⟩, (rNum 1 l (rNum 3 l (rNum 6 l r).2).2).2)
def rDot (l : List Int) (r : Rr) : Dt × Rr := (⟨(rNum 1 l r).1, (rNum 4 l (rNum 1 l r).2).1⟩, (rNum 4 l (rNum 1 l r).2).2)
def rDots (l : List Int) (r : Rr) : List Dt × Rr := rTimes rDot l (rMany 1 64 l r).1.toNat [] (rMany 1 64 l r).2
def zOp : Ox := ⟨⟨0, 0⟩, [], ⟨0, 0, 0⟩, 0, 0, ⟨#[]⟩, 0, [], []⟩
def rHead (l : List Int) (r : Rr) : Ox × Rr :=
 let a := rNum 1 l r
 let b := rDot l a.2
 let c := rNums l b.2
 let d := rStamp l c.2
 let e := rNum 1 l d.2
 let f := rText l e.2
 let g := rNum 1 l f.2
 (⟨b.1, c.1, d.1, a.1, e.1, f.1, g.1, [], []⟩, g.2)
def rOp (l : List Int) (r : Rr) : Ox × Rr :=
 if (rRow l (rHead l r).2).2.2 = true then (zOp, (rRow l (rHead l r).2).2)
 else ({ (rHead l r).1 with f7 := (rRow l (rHead l r).2).1, f8 := (rDots l (rRow l (rHead l r).2).2).1 }, (rDots l (rRow l (rHead l r).2).2).2)
def sOpRead (l : List Int) (at_ : Int) : Ox × Int × Int :=
 if at_ < 0 ∨ at_ > l.length then (zOp, 0, 1)
 else if (rOp l (at_, false)).2.2 = true then (zOp, 0, 3) else ((rOp l (at_, false)).1, (rOp l (at_, false)).2.1, 0)
end Go.Proofs.Ytjnjfogfpmeacaa.Ops
end
section
namespace Go.Proofs.Ytjnjfogfpmeacaa.Ops
open Go.RowKit PAll Plain PrintWords ZipT PrintWords.Kd PrintMore.Kd
set_option linter.unusedVariables false
set_option linter.unusedSimpArgs false
section
variable {α β : Type}
structure Writes (f : α → Wr → Wr) (enc : α → List Int) (fit : α → Prop) : Prop where
 ok : ∀ x s, fit x → f x s = (s.1 ++ enc x, s.2)
 no : ∀ x s, ¬ fit x → (f x s).2 = true
 stay : ∀ x s, s.2 = true → (f x s).2 = true
theorem Writes.comp {γ : Type} {f : α → Wr → Wr} {g : β → Wr → Wr} {e : α → List Int} {e' : β → List Int} {p : α → Prop} {p' : β → Prop} (hf : Writes f e p) (hg : Writes g e' p') (a : γ → α) (b : γ → β) :
  Writes (fun x s => g (b x) (f (a x) s)) (fun x => e (a x) ++ e' (b x)) (fun x => p (a x) ∧ p' (b x)) where
 ok := fun x s h => by rw [hf.ok _ _ h.1, hg.ok _ _ h.2, List.append_assoc]
 no := fun x s h => by
  by_cases h1 : p (a x)
  ·
   exact hg.no _ _ (fun e => h ⟨h1, e⟩)
  ·
   exact hg.stay _ _ (hf.no _ _ h1)
 stay := fun x s h => hg.stay _ _ (hf.stay _ _ h)
theorem Writes.all {f : α → Wr → Wr} {e : α → List Int} {p : α → Prop} (hf : Writes f e p) : Writes (wAll f) (fun l => l.flatMap e) (fun l => ∀ x ∈ l, p x) where
 ok := fun l => by
  induction l with
  | nil => intro s _; simp [wAll]
  | cons x l ih =>
   intro s h
   rw [wAll, hf.ok _ _ (h x List.mem_cons_self), ih _ (fun y hy => h y (List.mem_cons_of_mem _ hy)), List.flatMap_cons, List.append_assoc]
 no := fun l => by
  induction l with
  | nil => intro s h; exact absurd (fun x hx => by cases hx) h
  | cons x l ih =>
   intro s h
   rw [wAll]
   by_cases h1 : ∀ y ∈ l, p y
   ·
    have h2 : ¬ p x := fun e => h (fun y hy => by rcases List.mem_cons.1 hy with rfl | hy; exact e; exact h1 y hy)
    have : ∀ (l : List α) (s : Wr), s.2 = true → (wAll f l s).2 = true := fun l => by
     induction l with
     | nil => intro s h; exact h
     | cons y l ih => intro s h; rw [wAll]; exact ih _ (hf.stay _ _ h)
    exact this l _ (hf.no _ _ h2)
   ·
    exact ih _ h1
 stay := fun l => by
  induction l with
  | nil => intro s h; exact h
  | cons y l ih => intro s h; rw [wAll]; exact ih _ (hf.stay _ _ h)
theorem Writes.or (c : α → Prop) [DecidablePred c] : Writes (fun x => wOr (decide (c x))) (fun _ => []) (fun x => ¬ c x) where
 ok := fun x s h => by unfold wOr; rw [decide_eq_false h]; simp
 no := fun x s h => by unfold wOr; rw [decide_eq_true (Classical.not_not.1 h)]; simp
 stay := fun x s h => by unfold wOr; rw [h]; rfl
theorem Writes.congr {f : α → Wr → Wr} {e e' : α → List Int} {p p' : α → Prop} (hf : Writes f e p) (he : ∀ x, p x → e x = e' x) (hp : ∀ x, p x ↔ p' x) : Writes f e' p' where
 ok := fun x s h => by rw [hf.ok _ _ ((hp x).2 h), he x ((hp x).2 h)]
 no := fun x s h => hf.no _ _ (fun e => h ((hp x).1 e))
 stay := hf.stay
def fitN (s : Nat) (n : Int) : Prop := 0 ≤ n ∧ n < 256 ^ s
instance (s : Nat) (n : Int) : Decidable (fitN s n) := by unfold fitN; infer_instance
theorem Writes.num (s : Nat) (h1 : 1 ≤ s) (h7 : s ≤ 7) : Writes (fun n => wNum n (s : Int)) (fun n => big n s) (fitN s) where
 ok := fun n t h => by
  unfold wNum wAdd sPut
  rw [if_pos ⟨by omega, by omega, h.1, by rw [Int.toNat_natCast]; exact h.2⟩, Int.toNat_natCast]
  simp
 no := fun n t h => by
  unfold wNum wAdd sPut
  rw [if_neg (fun e => h ⟨e.2.2.1, by have := e.2.2.2; rwa [Int.toNat_natCast] at this⟩)]
  simp
 stay := fun n t h => by unfold wNum wAdd; rw [h]; rfl
def encT (t : ByteArray) : List Int := (t.size : Int) :: bytesOf t
theorem Writes.text : Writes wText encT (fun t => t.size ≤ 24) where
 ok := fun t s h => by unfold wText wAdd sPutText; rw [if_pos h]; simp [encT]
 no := fun t s h => by unfold wText wAdd sPutText; rw [if_neg h]; simp
 stay := fun t s h => by unfold wText wAdd; rw [h]; rfl
theorem Writes.row : Writes wRow rowB (fun l => rowE l = 0) where
 ok := fun l s h => by unfold wRow wAdd; rw [if_pos h]; simp
 no := fun l s h => by unfold wRow wAdd; rw [if_neg h]; simp [h]
 stay := fun l s h => by unfold wRow wAdd; rw [h]; rfl
structure Reads (f : List Int → Rr → α × Rr) (enc : α → List Int) (fit : α → Prop) : Prop where
 bad : ∀ (l : List Int) (r : Rr), r.2 = true → (f l r).2.2 = true
 place : ∀ (l : List Int) (r : Rr), Bytes l → 0 ≤ r.1 → r.1 ≤ l.length → 0 ≤ (f l r).2.1 ∧ (f l r).2.1 ≤ l.length
 got : ∀ (l : List Int) (r : Rr), Bytes l → 0 ≤ r.1 → r.1 ≤ l.length → (f l r).2.2 = false → fit (f l r).1 ∧ r.1 ≤ (f l r).2.1 ∧ enc (f l r).1 = sub l r.1.toNat (f l r).2.1.toNat
 put : ∀ (a c : List Int) (x : α), fit x → f (a ++ enc x ++ c) (a.length, false) = (x, ((a.length : Int) + (enc x).length, false))
theorem Reads.good {f : List Int → Rr → α × Rr} {e : α → List Int} {p : α → Prop} (hf : Reads f e p) {l : List Int} {r : Rr} (h : (f l r).2.2 = false) : r.2 = false := by
 cases hr : r.2
 ·
  rfl
 ·
  rw [hf.bad l r hr] at h; cases h
theorem Reads.comp {f : List Int → Rr → α × Rr} {g : List Int → Rr → β × Rr} {e : α → List Int} {e' : β → List Int} {p : α → Prop} {p' : β → Prop} (hf : Reads f e p) (hg : Reads g e' p') :
  Reads (fun l r => (((f l r).1, (g l (f l r).2).1), (g l (f l r).2).2)) (fun x => e x.1 ++ e' x.2) (fun x => p x.1 ∧ p' x.2) where
 bad := fun l r h => hg.bad _ _ (hf.bad _ _ h)
 place := fun l r hb h0 h1 => by
  obtain ⟨a, b⟩ := hf.place l r hb h0 h1
  exact hg.place l _ hb a b
 got := fun l r hb h0 h1 h => by
  have h : (g l (f l r).2).2.2 = false := h
  have hz := hg.good h
  obtain ⟨a, b⟩ := hf.place l r hb h0 h1
  obtain ⟨f1, f2, f3⟩ := hf.got l r hb h0 h1 hz
  obtain ⟨g1, g2, g3⟩ := hg.got l _ hb a b h
  obtain ⟨c, d⟩ := hg.place l _ hb a b
  refine ⟨⟨f1, g1⟩, Int.le_trans f2 g2, ?_⟩
  show e _ ++ e' _ = _
  rw [f3, g3]
  exact sub_sub l _ _ _ z3_ z3_ z3_
 put := fun a c x h => by
  have h1 := hf.put a (e' x.2 ++ c) x.1 h.1
  have h2 := hg.put (a ++ e x.1) c x.2 h.2
  have e1 : a ++ (e x.1 ++ e' x.2) ++ c = a ++ e x.1 ++ (e' x.2 ++ c) := by simp
  have e2 : a ++ (e x.1 ++ e' x.2) ++ c = a ++ e x.1 ++ e' x.2 ++ c := by simp
  have e3 : ((a.length : Int) + (e x.1).length) = ((a ++ e x.1).length : Int) := by simp
  have h1' : f (a ++ (e x.1 ++ e' x.2) ++ c) (a.length, false) = (x.1, (((a ++ e x.1).length : Int), false)) := by rw [e1, h1, e3]
  have h2' : g (a ++ (e x.1 ++ e' x.2) ++ c) ((a ++ e x.1).length, false) = (x.2, (((a ++ e x.1).length : Int) + (e' x.2).length, false)) := by rw [e2, h2]
  show ((( f _ _).1, (g _ (f _ _).2).1), (g _ (f _ _).2).2) = _
  rw [h1', h2']
  simp only [List.length_append]
  have : ((a.length + (e x.1).length : Nat) : Int) + (e' x.2).length = (a.length : Int) + ((e x.1).length + (e' x.2).length : Nat) := by omega
  rw [this]
theorem Reads.map {f : List Int → Rr → α × Rr} {e : α → List Int} {p : α → Prop} (hf : Reads f e p) (mk : α → β) (un : β → α) (h1 : ∀ x, un (mk x) = x) (h2 : ∀ y, mk (un y) = y) :
  Reads (fun l r => (mk (f l r).1, (f l r).2)) (fun y => e (un y)) (fun y => p (un y)) where
 bad := fun l r h => hf.bad _ _ h
 place := fun l r hb h0 h1 => hf.place l r hb h0 h1
 got := fun l r hb ha hc h => by
  have := hf.got l r hb ha hc h
  show p (un (mk _)) ∧ _ ∧ e (un (mk _)) = _
  rw [h1]; exact this
 put := fun a c y h => by
  show (mk (f _ _).1, (f _ _).2) = _
  rw [hf.put a c (un y) h, h2]
theorem Reads.congr {f f' : List Int → Rr → α × Rr} {e e' : α → List Int} {p p' : α → Prop} (hf : Reads f e p) (hF : ∀ l r, f' l r = f l r) (he : ∀ x, p x → e x = e' x) (hp : ∀ x, p x ↔ p' x) : Reads f' e' p' where
 bad := fun l r h => by rw [hF]; exact hf.bad _ _ h
 place := fun l r hb h0 h1 => by rw [hF]; exact hf.place l r hb h0 h1
 got := fun l r hb ha hc h => by
  rw [hF] at h ⊢
  obtain ⟨a, b, c⟩ := hf.got l r hb ha hc h
  exact ⟨(hp _).1 a, b, by rw [← he _ a]; exact c⟩
 put := fun a c x h => by
  have h' := (hp x).2 h
  rw [hF, ← he x h']; exact hf.put a c x h'
theorem Reads.of {z : α} {g : List Int → Int → α × Int × Int} {e : α → List Int} {p : α → Prop}
  (hs : ∀ l at_, Bytes l → (g l at_).2.2 = 0 → 0 ≤ at_ ∧ p (g l at_).1 ∧ at_ ≤ (g l at_).2.1 ∧ (g l at_).2.1 ≤ l.length ∧ e (g l at_).1 = sub l at_.toNat (g l at_).2.1.toNat)
  (hp : ∀ a c x, p x → g (a ++ e x ++ c) a.length = (x, (a.length : Int) + (e x).length, 0)) : Reads (fun l r => rOf z (g l r.1) r) e p where
 bad := fun l r h => by unfold rOf; rw [if_pos (.inl h)]
 place := fun l r hb h0 h1 => by
  unfold rOf
  by_cases h : r.2 = true ∨ (g l r.1).2.2 ≠ 0
  ·
   rw [if_pos h]; exact ⟨h0, h1⟩
  ·
   rw [if_neg h]
   obtain ⟨a, _, b, c, _⟩ := hs l r.1 hb (Classical.not_not.1 (fun e => h (.inr e)))
   exact ⟨Int.le_trans h0 b, c⟩
 got := fun l r hb h0 h1 h => by
  unfold rOf at h ⊢
  by_cases hc : r.2 = true ∨ (g l r.1).2.2 ≠ 0
  ·
   rw [if_pos hc] at h; cases h
  ·
   rw [if_neg hc]
   obtain ⟨a, b, c, d, e⟩ := hs l r.1 hb (Classical.not_not.1 (fun e => hc (.inr e)))
   exact ⟨b, c, e⟩
 put := fun a c x h => by
  show rOf z (g _ (a.length : Int)) _ = _
  unfold rOf
  rw [hp a c x h, if_neg (by rintro (e | e); cases e; exact e rfl)]
theorem Reads.num (s : Nat) (h1 : 1 ≤ s) (h7 : s ≤ 7) : Reads (rNum (s : Int)) (fun n => big n s) (fitN s) :=
 Reads.of (z := (0 : Int)) (g := fun l at_ => sGet l at_ (s : Int)) (e := fun n => big n s) (p := fitN s)
  (fun l at_ hb h => by
   unfold sGet at h ⊢
   by_cases c : 1 ≤ (s : Int) ∧ (s : Int) ≤ 7 ∧ 0 ≤ at_ ∧ at_ ≤ l.length
   ·
    rw [if_pos c] at h ⊢
    by_cases d : (l.length : Int) - at_ < (s : Int)
    ·
     rw [if_pos d] at h; simp at h
    ·
     rw [if_neg d]
     have hl : (sub l at_.toNat (at_ + (s : Int)).toNat).length = s := by rw [sub_length z3_]; omega
     have hbs := sub_bytes hb at_.toNat (at_ + (s : Int)).toNat
     refine ⟨c.2.2.1, ⟨val_nonneg _ 0 z3_ hbs, ?_⟩, by show at_ ≤ at_ + _; omega, by show at_ + (s : Int) ≤ _; omega, ?_⟩
     ·
      have := val_lt _ 0 z3_ hbs
      rw [hl] at this
      simpa using this
     ·
      have := big_val _ hbs
      rw [hl] at this
      exact this
   ·
    rw [if_neg c] at h; simp at h)
  (fun a c x h => by
   have := get_put a c x s h1 h7 h.1 h.2
   show sGet _ _ _ = _
   rw [this, big_length])
theorem Reads.text : Reads rText encT (fun t => t.size ≤ 24) :=
 Reads.of (z := (⟨#[]⟩ : ByteArray)) (g := fun l at_ => sGetText l at_) (e := encT) (p := fun t => t.size ≤ 24)
  (fun l at_ hb h => by
   obtain ⟨⟨a, b⟩, c, d⟩ := getText_sub hb h
   exact ⟨c, getText_bd hb h, by show at_ ≤ (sGetText l at_).2.1; omega, b, d⟩)
  (fun a c x h => by
   have := getText_put a c x h
   show sGetText (a ++ encT x ++ c) _ = _
   unfold encT
   rw [this]
   simp [bytesOf_length]; omega)
theorem times_acc (f : List Int → Rr → α × Rr) (l : List Int) (n : Nat) : ∀ (acc : List α) (r : Rr), rTimes f l n acc r = (acc ++ (rTimes f l n [] r).1, (rTimes f l n [] r).2) := by
 induction n with
 | zero => intro acc r; simp [rTimes]
 | succ n ih =>
  intro acc r
  rw [rTimes, rTimes, ih, ih ([] ++ [(f l r).1])]
  simp
theorem times_succ (f : List Int → Rr → α × Rr) (l : List Int) (n : Nat) (r : Rr) : rTimes f l (n + 1) [] r = ((f l r).1 :: (rTimes f l n [] (f l r).2).1, (rTimes f l n [] (f l r).2).2) := by
 rw [rTimes, times_acc]; simp
theorem Reads.times {f : List Int → Rr → α × Rr} {e : α → List Int} {p : α → Prop} (hf : Reads f e p) (n : Nat) :
  Reads (fun l r => rTimes f l n [] r) (fun xs => xs.flatMap e) (fun xs => xs.length = n ∧ ∀ x ∈ xs, p x) := by
 induction n with
 | zero =>
  exact {
   bad := fun l r h => h
   place := fun l r hb h0 h1 => ⟨h0, h1⟩
   got := fun l r hb h0 h1 h => ⟨⟨rfl, fun x hx => by cases hx⟩, Int.le_refl _, by show ([] : List Int) = _; unfold sub; simp [rTimes]⟩
   put := fun a c x h => by
    obtain rfl : x = [] := List.length_eq_zero_iff.1 h.1
    simp [rTimes] }
 | succ n ih =>
  have hc := hf.comp ih
  exact {
   bad := fun l r h => by show (rTimes f l (n + 1) [] r).2.2 = true; rw [times_succ]; exact hc.bad l r h
   place := fun l r hb h0 h1 => by show 0 ≤ (rTimes f l (n + 1) [] r).2.1 ∧ (rTimes f l (n + 1) [] r).2.1 ≤ _; rw [times_succ]; exact hc.place l r hb h0 h1
   got := fun l r hb h0 h1 h => by
    have h : (rTimes f l (n + 1) [] r).2.2 = false := h
    show ((rTimes f l (n + 1) [] r).1.length = n + 1 ∧ ∀ x ∈ (rTimes f l (n + 1) [] r).1, p x) ∧ r.1 ≤ (rTimes f l (n + 1) [] r).2.1 ∧ (rTimes f l (n + 1) [] r).1.flatMap e = sub l r.1.toNat (rTimes f l (n + 1) [] r).2.1.toNat
    rw [times_succ] at h ⊢
    obtain ⟨⟨a, b, c⟩, d, g⟩ := hc.got l r hb h0 h1 h
    refine ⟨⟨by rw [List.length_cons]; exact congrArg (· + 1) b, fun x hx => ?_⟩, d, by rw [List.flatMap_cons]; exact g⟩
    rcases List.mem_cons.1 hx with rfl | hx
    ·
     exact a
    ·
     exact c x hx
   put := fun a c x h => by
    cases x with
    | nil => simp at h
    | cons y ys =>
     have := hc.put a c (y, ys) ⟨h.2 y List.mem_cons_self, by show ys.length = n; have := h.1; rw [List.length_cons] at this; omega, fun x hx => h.2 x (List.mem_cons_of_mem _ hx)⟩
     show rTimes f _ (n + 1) [] _ = _
     rw [List.flatMap_cons, times_succ]
     have h1 := congrArg (fun z => z.1.1) this
     have h2 := congrArg (fun z => z.1.2) this
     have h3 := congrArg (fun z => z.2) this
     exact Prod.ext (by show (_ :: _ : List α) = _; exact _root_.congr (congrArg List.cons h1) h2) h3 }
theorem rMany_bad {size most : Int} {l : List Int} {r : Rr} (h : r.2 = true) : (rMany size most l r).2.2 = true := by
 unfold rMany
 split
 ·
  rfl
 ·
  unfold rNum rOf; rw [if_pos (.inl h)]
theorem Reads.many {f : List Int → Rr → α × Rr} {e : α → List Int} {p : α → Prop} (hf : Reads f e p) (s : Nat) (h1 : 1 ≤ s) (h7 : s ≤ 7) (most : Nat) (hm : (most : Int) < 256 ^ s) :
  Reads (fun l r => rTimes f l (rMany (s : Int) most l r).1.toNat [] (rMany (s : Int) most l r).2) (fun xs => big xs.length s ++ xs.flatMap e) (fun xs => xs.length ≤ most ∧ ∀ x ∈ xs, p x) where
 bad := fun l r h => (hf.times _).bad l _ (rMany_bad h)
 place := fun l r hb h0 h1' => by
  obtain ⟨a, b⟩ := (Reads.num s h1 h7).place l r hb h0 h1'
  refine (hf.times _).place l _ hb ?_ ?_ <;> · unfold rMany; split <;> assumption
 got := fun l r hb h0 h1' h => by
  have hN := Reads.num s h1 h7
  have hT := hf.times (rMany (s : Int) most l r).1.toNat
  have h : (rTimes f l (rMany (s : Int) most l r).1.toNat [] (rMany (s : Int) most l r).2).2.2 = false := h
  have hz := hT.good h
  have hle : ¬ (rNum (s : Int) l r).1 > most := fun e => by unfold rMany at hz; rw [if_pos e] at hz; cases hz
  have hM : rMany (s : Int) most l r = rNum (s : Int) l r := if_neg hle
  rw [hM] at h hz hT ⊢
  obtain ⟨a, b⟩ := hN.place l r hb h0 h1'
  obtain ⟨c1, c2, c3⟩ := hN.got l r hb h0 h1' hz
  obtain ⟨d1, d2, d3⟩ := hT.got l _ hb a b h
  obtain ⟨e1, e2⟩ := hT.place l _ hb a b
  have h0' : 0 ≤ (rNum (s : Int) l r).1 := c1.1
  refine ⟨⟨by show List.length _ ≤ most; rw [d1.1]; omega, d1.2⟩, Int.le_trans c2 d2, ?_⟩
  show big (List.length _ : Int) s ++ List.flatMap e _ = _
  rw [d1.1, show (((rNum (s : Int) l r).1.toNat : Nat) : Int) = (rNum (s : Int) l r).1 by omega, d3]
  rw [c3]
  exact sub_sub l _ _ _ z3_ z3_ z3_
 put := fun a c xs h => by
  have hN := (Reads.num s h1 h7).put a (xs.flatMap e ++ c) (xs.length : Int) ⟨by omega, by have := h.1; omega⟩
  have e1 : a ++ (big xs.length s ++ xs.flatMap e) ++ c = a ++ big xs.length s ++ (xs.flatMap e ++ c) := by simp
  have e2 : a ++ (big xs.length s ++ xs.flatMap e) ++ c = (a ++ big xs.length s) ++ xs.flatMap e ++ c := by simp
  have hM : rMany (s : Int) most (a ++ (big xs.length s ++ xs.flatMap e) ++ c) (a.length, false) = ((xs.length : Int), ((a.length : Int) + s, false)) := by
   unfold rMany
   rw [e1, hN, if_neg (by show ¬ (xs.length : Int) > most; have := h.1; omega), big_length]
  show rTimes f _ (rMany _ _ _ _).1.toNat [] (rMany _ _ _ _).2 = _
  rw [hM]
  show rTimes f _ ((xs.length : Int).toNat) [] _ = _
  rw [Int.toNat_natCast]
  have hT := (hf.times xs.length).put (a ++ big xs.length s) c xs ⟨rfl, h.2⟩
  rw [← e2] at hT
  rw [show ((a.length : Int) + s, false) = (((a ++ big xs.length s).length : Int), false) by simp [big_length]]
  refine Eq.trans hT ?_
  simp [big_length]; omega
end
end Go.Proofs.Ytjnjfogfpmeacaa.Ops
end
section
namespace Go.Proofs.Ytjnjfogfpmeacaa.Ops
open Go.RowKit PAll Plain PrintWords ZipT PrintWords.Kd PrintMore.Kd
set_option linter.unusedVariables false
set_option linter.unusedSimpArgs false
theorem row_got {l : List Int} {at_ : Int} (hb : Bytes l) (h : (sRowRead l at_).2.2 = 0) :
  rowE (sRowRead l at_).1 = 0 ∧ 0 ≤ at_ ∧ at_ ≤ (sRowRead l at_).2.1 ∧ (sRowRead l at_).2.1 ≤ l.length ∧ rowB (sRowRead l at_).1 = sub l at_.toNat (sRowRead l at_).2.1.toNat := by
 unfold sRowRead at h ⊢
 by_cases h1 : 0 ≤ at_ ∧ at_ ≤ l.length
 rotate_left
 ·
  rw [if_neg h1] at h; simp at h
 rw [if_pos h1] at h ⊢
 by_cases h2 : at_ = l.length ∨ rd l at_ > 12
 ·
  rw [if_pos h2] at h; simp at h
 rw [if_neg h2] at h ⊢
 have hr := hb.rd at_
 unfold Byte at hr
 obtain ⟨m, e1, e2, e3, e4, e5, e6⟩ := vals_sub l hb (rd l at_).toNat (at_ + 1) [] z3_ z3_ h
 rw [List.nil_append] at e1
 rw [e1]
 refine ⟨(rowE_zero m).2 ⟨by omega, e3⟩, h1.1, by omega, e5, ?_⟩
 unfold rowB
 rw [e6]
 obtain ⟨i, rfl⟩ := Int.eq_ofNat_of_zero_le h1.1
 rw [Int.toNat_natCast, show ((i : Int) + 1).toNat = i + 1 from by omega, sub_cons (i := i) z3_ z3_]
 congr 1
 omega
theorem row_at (a c : List Int) (l : List V) (h : rowE l = 0) : sRowRead (a ++ rowB l ++ c) a.length = (l, (a.length : Int) + (rowB l).length, 0) := by
 obtain ⟨h1, h2⟩ := (rowE_zero l).1 h
 have e : a ++ rowB l ++ c = a ++ (l.length : Int) :: (rowVs l ++ c) := by simp [rowB]
 have e2 : a ++ rowB l ++ c = (a ++ [(l.length : Int)]) ++ rowVs l ++ c := by simp [rowB]
 have hl : (a ++ rowB l ++ c).length = a.length + 1 + (rowVs l).length + c.length := by simp [rowB]; omega
 have hr : rd (a ++ rowB l ++ c) (a.length : Int) = l.length := by rw [e]; exact rd_mid _ _ _ rfl
 unfold sRowRead
 rw [if_pos z3_, hr, if_neg z3_, Int.toNat_natCast]
 have := vals_put l (a ++ [(l.length : Int)]) c [] h2
 rw [← e2] at this
 rw [show ((a.length : Int) + 1) = ((a ++ [(l.length : Int)]).length : Int) by simp, this]
 simp [rowB]
theorem Reads.row : Reads rRow rowB (fun l => rowE l = 0) :=
 Reads.of (z := ([] : List V)) (g := fun l at_ => sRowRead l at_) (e := rowB) (p := fun l => rowE l = 0)
  (fun l at_ hb h => by
   obtain ⟨a, b, c, d, e⟩ := row_got hb h
   exact ⟨b, a, c, d, e⟩)
  (fun a c x h => row_at a c x h)
def dotB (d : Dt) : List Int := big d.f0 1 ++ big d.f1 4
def dotFit (d : Dt) : Prop := fitN 1 d.f0 ∧ fitN 4 d.f1
instance (d : Dt) : Decidable (dotFit d) := by unfold dotFit; infer_instance
def stampB (t : St) : List Int := big t.f0 6 ++ big t.f1 3 ++ big t.f2 1
def stampFit (t : St) : Prop := (fitN 6 t.f0 ∧ fitN 3 t.f1) ∧ fitN 1 t.f2
instance (d : St) : Decidable (stampFit d) := by unfold stampFit; infer_instance
def numsB (l : List Int) : List Int := big l.length 1 ++ l.flatMap fun n => big n 4
def numsFit (l : List Int) : Prop := l.length ≤ 5 ∧ ∀ n ∈ l, fitN 4 n
instance (l : List Int) : Decidable (numsFit l) := by unfold numsFit; infer_instance
def dotsB (l : List Dt) : List Int := big l.length 1 ++ l.flatMap dotB
def dotsFit (l : List Dt) : Prop := l.length ≤ 64 ∧ ∀ d ∈ l, dotFit d
instance (l : List Dt) : Decidable (dotsFit l) := by unfold dotsFit; infer_instance
def opB (x : Ox) : List Int := big x.f3 1 ++ dotB x.f0 ++ numsB x.f1 ++ stampB x.f2 ++ big x.f4 1 ++ encT x.f5 ++ big x.f6 1 ++ rowB x.f7 ++ dotsB x.f8
def opFit (x : Ox) : Prop := (((((((fitN 1 x.f3 ∧ dotFit x.f0) ∧ numsFit x.f1) ∧ stampFit x.f2) ∧ fitN 1 x.f4) ∧ x.f5.size ≤ 24) ∧ fitN 1 x.f6) ∧ rowE x.f7 = 0) ∧ dotsFit x.f8
instance (x : Ox) : Decidable (opFit x) := by unfold opFit; infer_instance
theorem Writes.dot : Writes wDot dotB dotFit := (Writes.num 1 z5_ z5_).comp (Writes.num 4 z5_ z5_) (fun d : Dt => d.f0) (fun d => d.f1)
theorem Writes.stamp : Writes wStamp stampB stampFit :=
 ((Writes.num 6 z5_ z5_).comp (Writes.num 3 z5_ z5_) (fun d : St => d.f0) (fun d => d.f1)).comp (Writes.num 1 z5_ z5_) id (fun d : St => d.f2)
theorem Writes.nums : Writes wNums numsB numsFit :=
 (((Writes.or (fun l : List Int => l.length > 5)).comp (Writes.num 1 z5_ z5_) id (fun l : List Int => (l.length : Int))).comp (Writes.all (Writes.num 4 z5_ z5_)) id id).congr
  (fun l _ => by simp [numsB]) (fun l => ⟨fun h => ⟨by have := h.1.1; simp at this; exact this, h.2⟩, fun h => ⟨⟨by have := h.1; simp; omega, by have := h.1; exact ⟨by omega, by show (l.length : Int) < 256 ^ 1; omega⟩⟩, h.2⟩⟩)
theorem Writes.dots : Writes (fun l s => wAll wDot l (wNum l.length 1 (wOr (decide (l.length > 64)) s))) dotsB dotsFit :=
 (((Writes.or (fun l : List Dt => l.length > 64)).comp (Writes.num 1 z5_ z5_) id (fun l : List Dt => (l.length : Int))).comp (Writes.all Writes.dot) id id).congr
  (fun l _ => by simp [dotsB]) (fun l => ⟨fun h => ⟨by have := h.1.1; simp at this; exact this, h.2⟩, fun h => ⟨⟨by have := h.1; simp; omega, by have := h.1; exact ⟨by omega, by show (l.length : Int) < 256 ^ 1; omega⟩⟩, h.2⟩⟩)
theorem Writes.op : Writes wOp opB opFit :=
 (((((((((Writes.num 1 z5_ z5_).comp Writes.dot (fun x : Ox => x.f3) (fun x : Ox => x.f0)).comp Writes.nums id (fun x : Ox => x.f1)).comp Writes.stamp id (fun x : Ox => x.f2)).comp (Writes.num 1 z5_ z5_) id (fun x : Ox => x.f4)).comp Writes.text id (fun x : Ox => x.f5)).comp (Writes.num 1 z5_ z5_) id (fun x : Ox => x.f6)).comp Writes.row id (fun x : Ox => x.f7)).comp Writes.dots id (fun x : Ox => x.f8))
theorem opBytes_eq (x : Ox) : sOpBytes x = if opFit x then (opB x, 0) else ([], 1) := by
 unfold sOpBytes
 by_cases h : opFit x
 ·
  rw [if_pos h, Writes.op.ok x _ h]; simp
 rw [if_neg h, Writes.op.no x _ h, if_pos rfl]
theorem Reads.dot : Reads rDot dotB dotFit :=
 ((Reads.num 1 z5_ z5_).comp (Reads.num 4 z5_ z5_)).map (fun p => (⟨p.1, p.2⟩ : Dt)) (fun d => (d.f0, d.f1)) (fun _ => rfl) (fun _ => rfl)
theorem Reads.stamp : Reads rStamp stampB stampFit :=
 (((Reads.num 6 z5_ z5_).comp (Reads.num 3 z5_ z5_)).comp (Reads.num 1 z5_ z5_)).map (fun p => (⟨p.1.1, p.1.2, p.2⟩ : St)) (fun d => ((d.f0, d.f1), d.f2)) (fun _ => rfl) (fun _ => rfl)
theorem Reads.nums : Reads rNums numsB numsFit := (Reads.num 4 z5_ z5_).many 1 z5_ z5_ 5 z5_
theorem Reads.dots : Reads rDots dotsB dotsFit := Reads.dot.many 1 z5_ z5_ 64 z5_
theorem Reads.head : Reads (fun l r => (((rHead l r).1.f3, (rHead l r).1.f0, (rHead l r).1.f1, (rHead l r).1.f2, (rHead l r).1.f4, (rHead l r).1.f5, (rHead l r).1.f6), (rHead l r).2))
  (fun p => big p.1 1 ++ dotB p.2.1 ++ numsB p.2.2.1 ++ stampB p.2.2.2.1 ++ big p.2.2.2.2.1 1 ++ encT p.2.2.2.2.2.1 ++ big p.2.2.2.2.2.2 1)
  (fun p => ((((((fitN 1 p.1 ∧ dotFit p.2.1) ∧ numsFit p.2.2.1) ∧ stampFit p.2.2.2.1) ∧ fitN 1 p.2.2.2.2.1) ∧ p.2.2.2.2.2.1.size ≤ 24) ∧ fitN 1 p.2.2.2.2.2.2)) :=
 (((((((Reads.num 1 z5_ z5_).comp Reads.dot).comp Reads.nums).comp Reads.stamp).comp (Reads.num 1 z5_ z5_)).comp Reads.text).comp (Reads.num 1 z5_ z5_)).map
  (fun p => (p.1.1.1.1.1.1, p.1.1.1.1.1.2, p.1.1.1.1.2, p.1.1.1.2, p.1.1.2, p.1.2, p.2)) (fun p => ((((((p.1, p.2.1), p.2.2.1), p.2.2.2.1), p.2.2.2.2.1), p.2.2.2.2.2.1), p.2.2.2.2.2.2)) (fun _ => rfl) (fun _ => rfl)
def rOpC (l : List Int) (r : Rr) : Ox × Rr :=
 ({ (rHead l r).1 with f7 := (rRow l (rHead l r).2).1, f8 := (rDots l (rRow l (rHead l r).2).2).1 }, (rDots l (rRow l (rHead l r).2).2).2)
theorem Reads.opC : Reads rOpC opB opFit :=
 ((Reads.head.comp Reads.row).comp Reads.dots).map
  (fun p => (⟨p.1.1.2.1, p.1.1.2.2.1, p.1.1.2.2.2.1, p.1.1.1, p.1.1.2.2.2.2.1, p.1.1.2.2.2.2.2.1, p.1.1.2.2.2.2.2.2, p.1.2, p.2⟩ : Ox)) (fun x => (((x.f3, x.f0, x.f1, x.f2, x.f4, x.f5, x.f6), x.f7), x.f8)) (fun _ => rfl) (fun _ => rfl)
theorem rOp_good {l : List Int} {r : Rr} (h : (rRow l (rHead l r).2).2.2 = false) : rOp l r = rOpC l r := by
 unfold rOp; rw [if_neg (by rw [h]; decide)]; rfl
theorem rOp_bad {l : List Int} {r : Rr} (h : (rRow l (rHead l r).2).2.2 = true) : rOp l r = (zOp, (rRow l (rHead l r).2).2) := by
 unfold rOp; rw [if_pos h]
theorem rOpC_good {l : List Int} {r : Rr} (h : (rOpC l r).2.2 = false) : (rRow l (rHead l r).2).2.2 = false := Reads.dots.good h
theorem Reads.op : Reads rOp opB opFit where
 bad := fun l r h => by
  cases hr : (rRow l (rHead l r).2).2.2
  ·
   rw [rOp_good hr]; exact Reads.opC.bad l r h
  ·
   rw [rOp_bad hr]; exact hr
 place := fun l r hb h0 h1 => by
  cases hr : (rRow l (rHead l r).2).2.2
  ·
   rw [rOp_good hr]; exact Reads.opC.place l r hb h0 h1
  ·
   rw [rOp_bad hr]
   obtain ⟨a, b⟩ := Reads.head.place l r hb h0 h1
   exact Reads.row.place l _ hb a b
 got := fun l r hb h0 h1 h => by
  cases hr : (rRow l (rHead l r).2).2.2
  ·
   rw [rOp_good hr] at h ⊢; exact Reads.opC.got l r hb h0 h1 h
  ·
   rw [rOp_bad hr] at h; exact absurd (hr.symm.trans h) z5_
 put := fun a c x h => by
  have := Reads.opC.put a c x h
  rw [rOp_good (rOpC_good (by rw [this])), this]
theorem opRead_put (a c : List Int) (x : Ox) (h : opFit x) : sOpRead (a ++ opB x ++ c) a.length = (x, (a.length : Int) + (opB x).length, 0) := by
 unfold sOpRead
 rw [if_neg (by simp; omega), Reads.op.put a c x h, if_neg (by simp)]
theorem opB_len (x : Ox) (h : opFit x) : 22 ≤ (opB x).length ∧ (opB x).length ≤ 1000 := by
 obtain ⟨⟨⟨⟨⟨⟨⟨⟨k, d⟩, n⟩, t⟩, b⟩, y⟩, c⟩, v⟩, z⟩ := h
 have hr := rowB_len v
 have hr1 : 1 ≤ (rowB x.f7).length := by simp [rowB]
 have h1 : (x.f1.flatMap fun n => big n 4).length = 4 * x.f1.length := by
  have : ∀ l : List Int, (l.flatMap fun n => big n 4).length = 4 * l.length := fun l => by
   induction l with
   | nil => rfl
   | cons a l ih => rw [List.flatMap_cons, List.length_append, ih, big_length, List.length_cons]; omega
  exact this _
 have h2 : (x.f8.flatMap dotB).length = 5 * x.f8.length := by
  have : ∀ l : List Dt, (l.flatMap dotB).length = 5 * l.length := fun l => by
   induction l with
   | nil => rfl
   | cons a l ih => rw [List.flatMap_cons, List.length_append, ih, List.length_cons]; simp [dotB, big_length]; omega
  exact this _
 have := n.1
 have := z.1
 simp only [opB, dotB, numsB, stampB, dotsB, encT, List.length_append, big_length, h1, h2, List.length_cons, bytesOf_length]
 omega
end Go.Proofs.Ytjnjfogfpmeacaa.Ops
end
section
namespace Go.Proofs.Ytjnjfogfpmeacaa.Ops
open Go.RowKit PAll Plain PrintWords PrintMore ZipT PrintWords.Kd PrintMore.Kd
set_option linter.unusedVariables false
set_option linter.unusedSimpArgs false
abbrev Tb := S51
theorem rdB_drop {l : List Tb} {i : Nat} {v : Tb} {m : List Tb} (h : l.drop i = v :: m) : rd_T51 l (i : Int) = v := by
 show l.getD ((i : Int).toNat) _ = v
 rw [Int.toNat_natCast, List.getD_eq_getElem?_getD]
 have : l[i]? = (l.drop i)[0]? := by rw [List.getElem?_drop]; simp
 rw [this, h]; rfl
def formsE (f : List Tb) : Int :=
 if f.length < 1 ∨ f.length > 3 then 2 else if (f.any fun t => decide (t.f0.length < 1 ∨ t.f0.length > 4)) = true then 2
 else if (f.any fun t => t.f0.any fun c => decide (c < 2 ∨ c > 4)) = true then 10 else 0
def badLen (t : Tb) : Bool := decide (t.f0.length < 1 ∨ t.f0.length > 4)
def badType (c : Int) : Bool := decide (c < 2 ∨ c > 4)
theorem formsE_eq (f : List Tb) : formsE f = if f.length < 1 ∨ f.length > 3 then 2 else if f.any badLen = true then 2 else if (f.any fun t => t.f0.any badType) = true then 10 else 0 := rfl
theorem forms1_eq (t : Tb) : op_Forms_1.f t.f0 = some (badLen t) := by
 unfold op_Forms_1.f badLen
 by_cases h : (t.f0.length : Int) < 1
 ·
  rw [if_pos h, decide_eq_true z3_]
 rw [if_neg h]; congr 1; rw [decide_eq_decide]; omega
theorem forms2_eq (c : Int) : op_Forms_2.f c = some (badType c) := by
 unfold op_Forms_2.f badType
 by_cases h : c < 2
 ·
  rw [if_pos h, decide_eq_true (.inl h)]
 rw [if_neg h]; congr 1; rw [decide_eq_decide]; omega
theorem index1 (l : List Tb) (hl : l.length ≤ 1000000) (m : List Tb) : ∀ (k i : Nat), l.drop i = m → m.length < k →
  ∃ r, slices_IndexFunc_at_op_Forms_1.l0 k l (l.length : Int) (i : Int) = some r ∧ (r ≥ 0 ↔ m.any badLen = true) := by
 induction m with
 | nil =>
  intro k i h hk
  obtain ⟨k, rfl⟩ : ∃ j, k = j + 1 := ⟨k - 1, by omega⟩
  have := dropL_end h
  refine ⟨-1, ?_, by simp⟩
  simp only [slices_IndexFunc_at_op_Forms_1.l0]
  rw [if_neg z3_]
 | cons v m ih =>
  intro k i h hk
  obtain ⟨k, rfl⟩ : ∃ j, k = j + 1 := ⟨k - 1, by omega⟩
  have hi := dropL_lt h
  simp only [slices_IndexFunc_at_op_Forms_1.l0]
  rw [if_pos z3_, if_pos z3_, if_pos z3_, rdB_drop h, forms1_eq, Option.bind_some]
  cases ho : badLen v
  ·
   obtain ⟨r, h1, h2⟩ := ih k (i + 1) (dropL_tail h) (by simp at hk; omega)
   refine ⟨r, ?_, ?_⟩
   ·
    rw [if_neg z5_, w64 z3_ z3_]; exact h1
   ·
    rw [h2, List.any_cons, ho, Bool.false_or]
  ·
   refine ⟨i, ?_, ?_⟩
   ·
    rw [if_pos rfl]
   ·
    rw [List.any_cons, ho, Bool.true_or]; simp
theorem contains1 (k : Nat) (l : List Tb) (hl : l.length ≤ 1000000) (hk : l.length < k) : slices_ContainsFunc_at_op_Forms_1.f k l () = some (l.any badLen) := by
 obtain ⟨r, h1, h2⟩ := index1 l hl l k 0 rfl hk
 unfold slices_ContainsFunc_at_op_Forms_1.f slices_IndexFunc_at_op_Forms_1.f
 rw [show ((0 : Nat) : Int) = 0 from rfl] at h1
 rw [h1, Option.bind_some]
 congr 1
 cases hz : l.any badLen
 ·
  rw [hz] at h2; exact decide_eq_false (fun h => by simpa using h2.1 h)
 ·
  rw [hz] at h2; exact decide_eq_true (h2.2 rfl)
theorem index2 (l : List Int) (hl : l.length ≤ 1000000) (m : List Int) : ∀ (k i : Nat), l.drop i = m → m.length < k →
  ∃ r, slices_IndexFunc_at_op_Forms_2.l0 k l (l.length : Int) (i : Int) = some r ∧ (r ≥ 0 ↔ m.any badType = true) := by
 induction m with
 | nil =>
  intro k i h hk
  obtain ⟨k, rfl⟩ : ∃ j, k = j + 1 := ⟨k - 1, by omega⟩
  have := dropL_end h
  refine ⟨-1, ?_, by simp⟩
  simp only [slices_IndexFunc_at_op_Forms_2.l0]
  rw [if_neg z3_]
 | cons v m ih =>
  intro k i h hk
  obtain ⟨k, rfl⟩ : ∃ j, k = j + 1 := ⟨k - 1, by omega⟩
  have hi := dropL_lt h
  simp only [slices_IndexFunc_at_op_Forms_2.l0]
  rw [if_pos z3_, if_pos z3_, if_pos z3_, rd_drop h, forms2_eq, Option.bind_some]
  cases ho : badType v
  ·
   obtain ⟨r, h1, h2⟩ := ih k (i + 1) (dropL_tail h) (by simp at hk; omega)
   refine ⟨r, ?_, ?_⟩
   ·
    rw [if_neg z5_, w64 z3_ z3_]; exact h1
   ·
    rw [h2, List.any_cons, ho, Bool.false_or]
  ·
   refine ⟨i, ?_, ?_⟩
   ·
    rw [if_pos rfl]
   ·
    rw [List.any_cons, ho, Bool.true_or]; simp
theorem contains2 (k : Nat) (l : List Int) (hl : l.length ≤ 1000000) (hk : l.length < k) : slices_ContainsFunc_at_op_Forms_2.f k l () = some (l.any badType) := by
 obtain ⟨r, h1, h2⟩ := index2 l hl l k 0 rfl hk
 unfold slices_ContainsFunc_at_op_Forms_2.f slices_IndexFunc_at_op_Forms_2.f
 rw [show ((0 : Nat) : Int) = 0 from rfl] at h1
 rw [h1, Option.bind_some]
 congr 1
 cases hz : l.any badType
 ·
  rw [hz] at h2; exact decide_eq_false (fun h => by simpa using h2.1 h)
 ·
  rw [hz] at h2; exact decide_eq_true (h2.2 rfl)
theorem forms_l0 (l : List Tb) (hl : l.length ≤ 1000000) (hb : l.any badLen = false) (m : List Tb) : ∀ (k i : Nat), l.drop i = m → m.length + 5 < k →
  op_Forms.l0 k l (l.length : Int) (i : Int) = some (if (m.any fun t => t.f0.any badType) = true then 10 else 0) := by
 induction m with
 | nil =>
  intro k i h hk
  obtain ⟨k, rfl⟩ : ∃ j, k = j + 1 := ⟨k - 1, by omega⟩
  have := dropL_end h
  simp only [op_Forms.l0]
  rw [if_neg z3_]; rfl
 | cons v m ih =>
  intro k i h hk
  obtain ⟨k, rfl⟩ : ∃ j, k = j + 1 := ⟨k - 1, by omega⟩
  have hi := dropL_lt h
  have hv : v.f0.length ≤ 4 := by
   have hm : v ∈ l := List.mem_of_mem_drop (i := i) (by rw [h]; exact List.mem_cons_self)
   have := List.any_eq_false.1 hb v hm
   unfold badLen at this
   simp at this
   omega
  simp only [List.length_cons] at hk
  simp only [op_Forms.l0]
  rw [if_pos z3_, if_pos z3_, if_pos z3_, rdB_drop h, contains2 _ _ z3_ z3_, Option.bind_some, List.any_cons]
  cases ho : v.f0.any badType
  ·
   rw [if_neg z5_, w64 z3_ z3_, Bool.false_or]
   exact ih k (i + 1) (dropL_tail h) z3_
  ·
   rw [if_pos rfl, Bool.true_or, if_pos rfl]
theorem forms_eq (k : Nat) (f : List Tb) (hl : f.length ≤ 1000) (hk : f.length + 10 ≤ k) : op_Forms.f k f = some (formsE f) := by
 obtain ⟨k, rfl⟩ : ∃ j, k = j + 1 := ⟨k - 1, by omega⟩
 rw [formsE_eq]
 unfold op_Forms.f
 have hj : ∀ b : Bool, op_Forms.j0 (k + 1) f b = if b = true then some 2 else some (if f.any badLen = true then 2 else if (f.any fun t => t.f0.any badType) = true then 10 else 0) := fun b => by
  simp only [op_Forms.j0]
  cases b
  ·
   rw [if_neg z5_, if_neg z5_, contains1 _ _ z3_ z3_, Option.bind_some]
   cases hb : f.any badLen
   ·
    rw [if_neg z5_, if_neg z5_]
    exact forms_l0 f z3_ hb f k 0 rfl z3_
   ·
    rw [if_pos rfl, if_pos rfl]
  ·
   rfl
 rw [hj, hj]
 by_cases h1 : (f.length : Int) < 1
 ·
  rw [if_pos h1, if_pos rfl, if_pos z3_]
 rw [if_neg h1]
 by_cases h2 : (f.length : Int) > 3
 ·
  rw [decide_eq_true h2, if_pos rfl, if_pos z3_]
 rw [decide_eq_false h2, if_neg z5_, if_neg (show ¬ (f.length < 1 ∨ f.length > 3) by omega)]
theorem rtype_eq (c : Int) : raddleref01_Type.f c = some (!badType c) := by
 unfold raddleref01_Type.f badType
 rw [rin_eq, Option.bind_some]
 congr 1
 by_cases h : c < 2 ∨ c > 4
 ·
  rw [decide_eq_true h, decide_eq_false z3_]; rfl
 rw [decide_eq_false h, decide_eq_true z3_]; rfl
theorem rforms_l2 (l : List Tb) (hl : l.length ≤ 1000000) (i : Nat) (v : Tb) (hi : i < l.length) (hv : rd_T51 l (i : Int) = v) (hc : v.f0.length ≤ 4) (m : List Int) : ∀ (k j : Nat), v.f0.drop j = m → m.length < k →
  raddleref01_Forms.l2 k l (i : Int) (j : Int) = if m.any badType = true then some 10 else raddleref01_Forms.l1 (k - m.length - 1) l ((i + 1 : Nat) : Int) := by
 induction m with
 | nil =>
  intro k j h hk
  obtain ⟨k, rfl⟩ : ∃ q, k = q + 1 := ⟨k - 1, by omega⟩
  have h1 := dropL_end h
  simp only [raddleref01_Forms.l2]
  rw [if_pos z3_, if_pos z3_, hv, if_neg z3_, w64 z3_ z3_]
  rfl
 | cons c m ih =>
  intro k j h hk
  obtain ⟨k, rfl⟩ : ∃ q, k = q + 1 := ⟨k - 1, by omega⟩
  have h1 := dropL_lt h
  simp only [List.length_cons] at hk
  simp only [raddleref01_Forms.l2]
  rw [if_pos z3_, if_pos z3_, hv, if_pos z3_, if_pos z3_, rd_drop h, rtype_eq, Option.bind_some, List.any_cons]
  cases ho : badType c
  ·
   rw [if_pos z5_, w64 z3_ z3_, Bool.false_or]
   have := ih k (j + 1) (dropL_tail h) z3_
   rw [show ((j : Int) + 1) = ((j + 1 : Nat) : Int) from rfl, this, List.length_cons]
   rw [show k + 1 - (m.length + 1) - 1 = k - m.length - 1 by omega]
  ·
   rw [if_neg z5_, Bool.true_or, if_pos rfl]
theorem rforms_l1 (l : List Tb) (hl : l.length ≤ 1000000) (hb : l.any badLen = false) (m : List Tb) : ∀ (k i : Nat), l.drop i = m → m.length * 8 < k →
  raddleref01_Forms.l1 k l (i : Int) = some (if (m.any fun t => t.f0.any badType) = true then 10 else 0) := by
 induction m with
 | nil =>
  intro k i h hk
  obtain ⟨k, rfl⟩ : ∃ j, k = j + 1 := ⟨k - 1, by omega⟩
  have := dropL_end h
  simp only [raddleref01_Forms.l1]
  rw [if_neg z3_]; rfl
 | cons v m ih =>
  intro k i h hk
  obtain ⟨k, rfl⟩ : ∃ j, k = j + 1 := ⟨k - 1, by omega⟩
  have hi := dropL_lt h
  have hv : v.f0.length ≤ 4 := by
   have hm : v ∈ l := List.mem_of_mem_drop (i := i) (by rw [h]; exact List.mem_cons_self)
   have := List.any_eq_false.1 hb v hm
   unfold badLen at this
   simp at this
   omega
  simp only [List.length_cons] at hk
  simp only [raddleref01_Forms.l1]
  rw [if_pos z3_]
  rw [show (0 : Int) = ((0 : Nat) : Int) from rfl, rforms_l2 l hl i v hi (rdB_drop h) hv v.f0 k 0 rfl z3_, List.any_cons]
  cases ho : v.f0.any badType
  ·
   rw [if_neg z5_, Bool.false_or]
   exact ih _ (i + 1) (dropL_tail h) z3_
  ·
   rw [if_pos rfl, Bool.true_or, if_pos rfl]
theorem rforms_l0 (l : List Tb) (hl : l.length ≤ 1000) (m : List Tb) : ∀ (k i : Nat), l.drop i = m → m.length + 8 * l.length + 2 < k →
  raddleref01_Forms.l0 k l (i : Int) = if m.any badLen = true then some 2 else if l.any badLen = false then some (if (l.any fun t => t.f0.any badType) = true then 10 else 0) else raddleref01_Forms.l0 k l (i : Int) := by
 induction m with
 | nil =>
  intro k i h hk
  obtain ⟨k, rfl⟩ : ∃ j, k = j + 1 := ⟨k - 1, by omega⟩
  have := dropL_end h
  rw [if_neg (by simp)]
  by_cases hb : l.any badLen = false
  rotate_left
  ·
   rw [if_neg hb]
  rw [if_pos hb]
  simp only [raddleref01_Forms.l0]
  rw [if_neg z3_]
  exact rforms_l1 l z3_ hb l k 0 rfl (by simp only [List.length_nil] at hk; omega)
 | cons v m ih =>
  intro k i h hk
  obtain ⟨k, rfl⟩ : ∃ j, k = j + 1 := ⟨k - 1, by omega⟩
  have hi := dropL_lt h
  have hr : raddleref01_Forms.l0 (k + 1) l (i : Int) = if badLen v = true then some 2 else raddleref01_Forms.l0 k l ((i + 1 : Nat) : Int) := by
   simp only [raddleref01_Forms.l0]
   rw [if_pos z3_, if_pos z3_, rdB_drop h, rin_eq, Option.bind_some]
   unfold badLen
   by_cases hz : v.f0.length < 1 ∨ v.f0.length > 4
   ·
    rw [decide_eq_true hz, decide_eq_false z3_]; rfl
   ·
    rw [decide_eq_false hz, decide_eq_true z3_, w64 z3_ z3_]; rfl
  simp only [List.length_cons] at hk
  rw [List.any_cons]
  by_cases hb : l.any badLen = false
  ·
   have hv : badLen v = false := by
    have hm : v ∈ l := List.mem_of_mem_drop (i := i) (by rw [h]; exact List.mem_cons_self)
    exact Bool.eq_false_iff.2 (fun e => by have := List.any_eq_false.1 hb v hm; exact this e)
   rw [hr, hv, if_neg z5_, Bool.false_or, ih k (i + 1) (dropL_tail h) z3_, if_pos hb, if_pos hb]
  rw [if_neg hb]
  cases ho : badLen v
  ·
   rw [Bool.false_or, hr, ho, if_neg z5_]
   cases hz : m.any badLen
   ·
    rw [if_neg z5_]
   ·
    rw [if_pos rfl, ih k (i + 1) (dropL_tail h) z3_, hz, if_pos rfl]
  ·
   rw [Bool.true_or, if_pos rfl, hr, ho, if_pos rfl]
theorem rforms_eq (k : Nat) (f : List Tb) (hl : f.length ≤ 1000) (hk : 9 * f.length + 10 ≤ k) : raddleref01_Forms.f k f = some (formsE f) := by
 rw [formsE_eq]
 unfold raddleref01_Forms.f
 rw [rin_eq, Option.bind_some]
 by_cases h1 : f.length < 1 ∨ f.length > 3
 ·
  rw [decide_eq_false z3_, if_neg z5_, if_pos h1]
 rw [decide_eq_true z3_, if_pos rfl, if_neg h1, show (0 : Int) = ((0 : Nat) : Int) from rfl, rforms_l0 f hl f k 0 rfl z3_]
 cases hb : f.any badLen
 ·
  rfl
 ·
  rfl
end Go.Proofs.Ytjnjfogfpmeacaa.Ops
end
section
namespace Go.Proofs.Ytjnjfogfpmeacaa.Ops
open Go.RowKit PAll Plain PrintWords PrintMore ZipT PrintWords.Kd PrintMore.Kd
set_option linter.unusedVariables false
set_option linter.unusedSimpArgs false
def keyB (t : ByteArray) : Bool := decide (1 ≤ t.size ∧ t.size ≤ 12)
theorem key_eq (t : ByteArray) : op_Key.f t = some (keyB t) := by
 unfold op_Key.f keyB
 by_cases h : (t.size : Int) ≥ 1
 ·
  rw [if_pos h]; congr 1; rw [decide_eq_decide]; omega
 rw [if_neg h, decide_eq_false z3_]
theorem rkey_eq (t : ByteArray) : raddleref01_Key.f t = some (keyB t) := by
 unfold raddleref01_Key.f keyB
 rw [rin_eq, Option.bind_some]; congr 1; rw [decide_eq_decide]; omega
def badSeq (c : Int) : Bool := decide (c < 0 ∨ c > 1073741824)
def vecE (l : List Int) : Int := if l.length < 1 ∨ l.length > 5 then 2 else if l.any badSeq = true then 1 else 0
theorem seq_eq (c : Int) : dot_Check_1.f c = some (badSeq c) := by
 unfold dot_Check_1.f badSeq
 by_cases h : c < 0
 ·
  rw [if_pos h, decide_eq_true (.inl h)]
 rw [if_neg h]; congr 1; rw [decide_eq_decide]; omega
theorem index_seq (l : List Int) (hl : l.length ≤ 1000000) (m : List Int) : ∀ (k i : Nat), l.drop i = m → m.length < k →
  ∃ r, slices_IndexFunc_at_dot_Check_1.l0 k l (l.length : Int) (i : Int) = some r ∧ (r ≥ 0 ↔ m.any badSeq = true) := by
 induction m with
 | nil =>
  intro k i h hk
  obtain ⟨k, rfl⟩ : ∃ j, k = j + 1 := ⟨k - 1, by omega⟩
  have := dropL_end h
  refine ⟨-1, ?_, by simp⟩
  simp only [slices_IndexFunc_at_dot_Check_1.l0]
  rw [if_neg z3_]
 | cons v m ih =>
  intro k i h hk
  obtain ⟨k, rfl⟩ : ∃ j, k = j + 1 := ⟨k - 1, by omega⟩
  have hi := dropL_lt h
  simp only [slices_IndexFunc_at_dot_Check_1.l0]
  rw [if_pos z3_, if_pos z3_, if_pos z3_, rd_drop h, seq_eq, Option.bind_some]
  cases ho : badSeq v
  ·
   obtain ⟨r, h1, h2⟩ := ih k (i + 1) (dropL_tail h) (by simp at hk; omega)
   refine ⟨r, ?_, ?_⟩
   ·
    rw [if_neg z5_, w64 z3_ z3_]; exact h1
   ·
    rw [h2, List.any_cons, ho, Bool.false_or]
  ·
   refine ⟨i, ?_, ?_⟩
   ·
    rw [if_pos rfl]
   ·
    rw [List.any_cons, ho, Bool.true_or]; simp
theorem contains_seq (k : Nat) (l : List Int) (hl : l.length ≤ 1000000) (hk : l.length < k) : slices_ContainsFunc_at_dot_Check_1.f k l () = some (l.any badSeq) := by
 obtain ⟨r, h1, h2⟩ := index_seq l hl l k 0 rfl hk
 unfold slices_ContainsFunc_at_dot_Check_1.f slices_IndexFunc_at_dot_Check_1.f
 rw [show ((0 : Nat) : Int) = 0 from rfl] at h1
 rw [h1, Option.bind_some]
 congr 1
 cases hz : l.any badSeq
 ·
  rw [hz] at h2; exact decide_eq_false (fun h => by simpa using h2.1 h)
 ·
  rw [hz] at h2; exact decide_eq_true (h2.2 rfl)
theorem vec_eq (k : Nat) (l : List Int) (hl : l.length ≤ 1000000) (hk : l.length + 2 ≤ k) : dot_Check.f k l = some (vecE l) := by
 obtain ⟨k, rfl⟩ : ∃ j, k = j + 1 := ⟨k - 1, by omega⟩
 unfold dot_Check.f vecE
 have hj : ∀ b : Bool, dot_Check.j0 (k + 1) l b = if b = true then some 2 else some (if l.any badSeq = true then 1 else 0) := fun b => by
  simp only [dot_Check.j0]
  cases b
  ·
   rw [if_neg z5_, if_neg z5_, contains_seq _ _ z3_ z3_, Option.bind_some]
   cases l.any badSeq <;> rfl
  ·
   rfl
 rw [hj, hj]
 by_cases h1 : (l.length : Int) < 1
 ·
  rw [if_pos h1, if_pos rfl, if_pos z3_]
 rw [if_neg h1]
 by_cases h2 : (l.length : Int) > 5
 ·
  rw [decide_eq_true h2, if_pos rfl, if_pos z3_]
 rw [decide_eq_false h2, if_neg z5_, if_neg (show ¬ (l.length < 1 ∨ l.length > 5) by omega)]
theorem rvec_l0 (l : List Int) (hl : l.length ≤ 1000000) (m : List Int) : ∀ (k i : Nat), l.drop i = m → m.length < k → raddleref01_Vector.l0 k l (i : Int) = some (if m.any badSeq = true then 1 else 0) := by
 induction m with
 | nil =>
  intro k i h hk
  obtain ⟨k, rfl⟩ : ∃ j, k = j + 1 := ⟨k - 1, by omega⟩
  have := dropL_end h
  simp only [raddleref01_Vector.l0]
  rw [if_neg z3_]; rfl
 | cons v m ih =>
  intro k i h hk
  obtain ⟨k, rfl⟩ : ∃ j, k = j + 1 := ⟨k - 1, by omega⟩
  have hi := dropL_lt h
  simp only [List.length_cons] at hk
  simp only [raddleref01_Vector.l0]
  rw [if_pos z3_, if_pos z3_, rd_drop h, rin_eq, Option.bind_some, List.any_cons]
  by_cases ho : 0 ≤ v ∧ v ≤ 1073741824
  rotate_left
  ·
   have hb : badSeq v = true := decide_eq_true z3_
   rw [decide_eq_false ho, if_neg z5_, hb, Bool.true_or, if_pos rfl]
  have hb : badSeq v = false := decide_eq_false z3_
  rw [decide_eq_true ho, if_pos rfl, w64 z3_ z3_, hb, Bool.false_or]
  exact ih k (i + 1) (dropL_tail h) z3_
theorem rvec_eq (k : Nat) (l : List Int) (hl : l.length ≤ 1000000) (hk : l.length + 2 ≤ k) : raddleref01_Vector.f k l = some (vecE l) := by
 unfold raddleref01_Vector.f vecE
 rw [rin_eq, Option.bind_some]
 by_cases h : (1 : Int) ≤ l.length ∧ (l.length : Int) ≤ 5
 rotate_left
 ·
  rw [decide_eq_false h, if_neg z5_, if_pos z3_]
 rw [decide_eq_true h, if_pos rfl, if_neg z3_]
 exact rvec_l0 l hl l k 0 rfl z3_
def stampOk (t : St) : Prop := ((0 ≤ t.f0 ∧ t.f0 ≤ 1099511627776) ∧ (0 ≤ t.f1 ∧ t.f1 ≤ 65536)) ∧ (0 ≤ t.f2 ∧ t.f2 ≤ 4)
instance (t : St) : Decidable (stampOk t) := by unfold stampOk; infer_instance
theorem hin_eq (a b : Int) : hlc_in.f a b = some (decide (0 ≤ a ∧ a ≤ b)) := by
 unfold hlc_in.f
 by_cases h : a ≥ 0
 ·
  rw [if_pos h]; congr 1; rw [decide_eq_decide]; omega
 rw [if_neg h, decide_eq_false z3_]
theorem hlc_eq (t : St) : hlc_Check.f t.f0 t.f1 t.f2 = some (if stampOk t then 0 else 1) := by
 unfold hlc_Check.f stampOk
 simp only [hin_eq, Option.bind_some, decide_eq_true_eq]
 by_cases h1 : 0 ≤ t.f0 ∧ t.f0 ≤ 1099511627776 <;> by_cases h2 : 0 ≤ t.f1 ∧ t.f1 ≤ 65536 <;> by_cases h3 : 0 ≤ t.f2 ∧ t.f2 ≤ 4 <;> simp only [h1, h2, h3, if_true, if_false, and_true, and_false, and_self, true_and, false_and]
theorem rstamp_eq (t : St) : raddleref01_Stamp.f t.f0 t.f1 t.f2 = some (decide (stampOk t)) := by
 unfold raddleref01_Stamp.f stampOk
 simp only [rin_eq, Option.bind_some, decide_eq_true_eq]
 by_cases h1 : 0 ≤ t.f0 ∧ t.f0 ≤ 1099511627776 <;> by_cases h2 : 0 ≤ t.f1 ∧ t.f1 ≤ 65536 <;> by_cases h3 : 0 ≤ t.f2 ∧ t.f2 ≤ 4 <;> simp only [h1, h2, h3, if_true, if_false, and_true, and_false, and_self, true_and, false_and, decide_true, decide_false]
def hasB (v : List Int) (d : Dt) : Bool := decide ((0 ≤ d.f0 ∧ d.f0 < v.length) ∧ 1 ≤ d.f1 ∧ d.f1 ≤ rd v d.f0)
theorem has_eq (v : List Int) (d : Dt) : dot_Has.f v d.f0 d.f1 = some (hasB v d) := by
 have hin : dot_in.f v d.f0 = some (decide (0 ≤ d.f0 ∧ d.f0 < (v.length : Int))) := by
  unfold dot_in.f
  by_cases h : d.f0 ≥ 0
  ·
   rw [if_pos h]; congr 1; rw [decide_eq_decide]; omega
  ·
   rw [if_neg h, decide_eq_false z3_]
 unfold dot_Has.f hasB
 rw [hin, Option.bind_some]
 by_cases h : 0 ≤ d.f0 ∧ d.f0 < (v.length : Int)
 rotate_left
 ·
  rw [decide_eq_false h, if_neg z5_, decide_eq_false (fun e => h e.1)]
 rw [decide_eq_true h, if_pos rfl, if_pos h.1, if_pos h.2]
 by_cases h1 : d.f1 ≥ 1
 ·
  rw [if_pos h1]; congr 1; rw [decide_eq_decide]; exact ⟨fun e => ⟨h, h1, e⟩, fun e => e.2.2⟩
 rw [if_neg h1, decide_eq_false (fun e => h1 e.2.1)]
theorem rhas_eq (v : List Int) (d : Dt) (hv : v.length ≤ 1000000) : raddleref01_Has.f v d.f0 d.f1 = some (hasB v d) := by
 unfold raddleref01_Has.f hasB
 rw [rin_eq, Option.bind_some, w64 z3_ z3_]
 by_cases h : 0 ≤ d.f0 ∧ d.f0 < (v.length : Int)
 rotate_left
 ·
  rw [decide_eq_false (show ¬ (0 ≤ d.f0 ∧ d.f0 ≤ (v.length : Int) - 1) by omega), if_neg z5_, decide_eq_false (fun e => h e.1)]
 rw [decide_eq_true (show 0 ≤ d.f0 ∧ d.f0 ≤ (v.length : Int) - 1 by omega), if_pos rfl, if_pos h.1, if_pos h.2]
 by_cases h1 : d.f1 ≥ 1
 ·
  rw [if_pos h1]; congr 1; rw [decide_eq_decide]; exact ⟨fun e => ⟨h, h1, e⟩, fun e => e.2.2⟩
 rw [if_neg h1, decide_eq_false (fun e => h1 e.2.1)]
def lessD (a b : Dt) : Bool := decide (a.f0 < b.f0 ∨ a.f0 = b.f0 ∧ a.f1 < b.f1)
theorem cmpi_eq (a b : Int) : cmp_Compare_int.f a b = some (if a < b then -1 else if a > b then 1 else 0) := by
 unfold cmp_Compare_int.f cmp_isNaN_int.f
 simp only [bne_self_eq_false, Option.bind_some]
 rw [if_neg z5_, if_neg z5_]
 split
 ·
  rfl
 ·
  split <;> rfl
theorem ori_eq (k : Nat) (a b : Int) (hk : 3 ≤ k) : cmp_Or_int.f k [a, b] = some (if a = 0 then b else a) := by
 obtain ⟨k, rfl⟩ : ∃ j, k = j + 3 := ⟨k - 3, by omega⟩
 have e1 : wrap64 ((0 : Int) + 1) = 1 := w64 z3_ z3_
 have e2 : wrap64 ((1 : Int) + 1) = 2 := w64 z3_ z3_
 have r0 : rd [a, b] 0 = a := rfl
 have r1 : rd [a, b] 1 = b := rfl
 unfold cmp_Or_int.f
 simp only [cmp_Or_int.l0, List.length_cons, List.length_nil]
 rw [if_pos z3_, if_pos z3_, if_pos z3_, r0, e1]
 by_cases h : a = 0
 rotate_left
 ·
  rw [if_neg h, if_neg h]
 rw [if_pos h, if_pos h, if_pos z3_, if_pos z3_, if_pos z3_, r1, e2]
 by_cases h2 : b = 0
 ·
  rw [if_pos h2, h2, if_neg z3_]
 rw [if_neg h2]
theorem less_eq (k : Nat) (a b : Dt) (hk : 3 ≤ k) : dot_Less.f k a.f0 a.f1 b.f0 b.f1 = some (lessD a b) := by
 unfold dot_Less.f dot_Compare.f lessD
 rw [cmpi_eq, Option.bind_some, cmpi_eq, Option.bind_some, ori_eq _ _ _ hk, Option.bind_some, Option.bind_some]
 congr 1
 rw [decide_eq_decide]
 repeat' split
 all_goals omega
theorem rless_eq (a b : Dt) : raddleref01_LessDot.f a.f0 a.f1 b.f0 b.f1 = some (lessD a b) := by
 unfold raddleref01_LessDot.f lessD
 by_cases h : a.f0 < b.f0
 ·
  rw [if_pos h, decide_eq_true (.inl h)]
 rw [if_neg h]
 by_cases h2 : a.f0 = b.f0
 ·
  rw [if_pos h2]; congr 1; rw [decide_eq_decide]; omega
 rw [if_neg h2, decide_eq_false z3_]
def hadG (v : List Int) : Option Dt → List Dt → Bool
 | _, [] => true
 | p, d :: m => hasB v d && (match p with | none => true | some q => lessD q d) && hadG v (some d) m
theorem hadG_cons (v : List Int) (p : Option Dt) (d : Dt) (m : List Dt) : hadG v p (d :: m) = (hasB v d && (match p with | none => true | some q => lessD q d) && hadG v (some d) m) := rfl
def ahead? (l : List Dt) (i : Nat) : Option Dt := if i = 0 then none else l[i - 1]?
theorem ahead_next {l : List Dt} {i : Nat} {d : Dt} {m : List Dt} (h : l.drop i = d :: m) : ahead? l (i + 1) = some d := by
 unfold ahead?
 rw [if_neg z3_, Nat.add_sub_cancel]
 have : l[i]? = (l.drop i)[0]? := by rw [List.getElem?_drop]; simp
 rw [this, h]; rfl
theorem rdD_drop {l : List Dt} {i : Nat} {v : Dt} {m : List Dt} (h : l.drop i = v :: m) : rd_T25 l (i : Int) = v := by
 show l.getD ((i : Int).toNat) _ = v
 rw [Int.toNat_natCast, List.getD_eq_getElem?_getD]
 have : l[i]? = (l.drop i)[0]? := by rw [List.getElem?_drop]; simp
 rw [this, h]; rfl
theorem rdD_ahead {l : List Dt} {i : Nat} (h0 : 0 < i) (h : i ≤ l.length) : ahead? l i = some (rd_T25 l ((i : Int) - 1)) := by
 unfold ahead?
 rw [if_neg z3_, List.getElem?_eq_getElem z3_]
 congr 1
 show _ = l.getD (((i : Int) - 1).toNat) _
 rw [show ((i : Int) - 1).toNat = i - 1 by omega, List.getD_eq_getElem?_getD, List.getElem?_eq_getElem z3_]; rfl
theorem had_l0 (v : List Int) (l : List Dt) (hl : l.length ≤ 1000000) (m : List Dt) : ∀ (k i : Nat), l.drop i = m → m.length + 5 < k → op_had.l0 k v l l (l.length : Int) (i : Int) = some (hadG v (ahead? l i) m) := by
 induction m with
 | nil =>
  intro k i h hk
  obtain ⟨k, rfl⟩ : ∃ j, k = j + 1 := ⟨k - 1, by omega⟩
  have := dropL_end h
  simp only [op_had.l0]
  rw [if_neg z3_]; rfl
 | cons d m ih =>
  intro k i h hk
  obtain ⟨k, rfl⟩ : ∃ j, k = j + 1 := ⟨k - 1, by omega⟩
  have hi := dropL_lt h
  simp only [List.length_cons] at hk
  have hn := ih k (i + 1) (dropL_tail h) z3_
  rw [ahead_next h] at hn
  have hw : wrap64 ((i : Int) + 1) = ((i + 1 : Nat) : Int) := by rw [w64 z3_ z3_]; rfl
  simp only [op_had.l0]
  rw [if_pos z3_, if_pos z3_, if_pos z3_, rdD_drop h, has_eq, Option.bind_some, hw, hn]
  rw [hadG_cons]
  cases hb : hasB v d
  ·
   rw [if_neg z5_]; simp
  rw [if_pos rfl, Bool.true_and]
  by_cases h0 : (i : Int) > 0
  rotate_left
  ·
   rw [if_neg h0]
   have : ahead? l i = none := by unfold ahead?; rw [if_pos z3_]
   rw [this]; simp
  rw [if_pos h0, w64 z3_ z3_, if_pos z3_, if_pos z3_, less_eq _ _ _ z3_, Option.bind_some, rdD_ahead z3_ z3_]
  simp only
  cases lessD (rd_T25 l ((i : Int) - 1)) d
  ·
   rw [if_neg z5_]; simp
  ·
   rw [if_pos rfl, Bool.true_and]
theorem had_eq (k : Nat) (v : List Int) (l : List Dt) (hl : l.length ≤ 1000000) (hk : l.length + 6 ≤ k) : op_had.f k v l = some (hadG v none l) := had_l0 v l hl l k 0 rfl z3_
def smallV (v : V) : Bool := decide (vSmall v.f0 v.f1 v.f2)
def smallB (l : List V) (c : List Int) : Bool := fitsL l c && l.all smallV
def bigV (v : V) : Bool := !smallV v
theorem big_eq (v : V) : op_small_1.f v.f0 v.f1 v.f2 = some (bigV v) := by
 unfold op_small_1.f bigV smallV
 rw [small_eq, Option.bind_some]
theorem index_big (l : List V) (hl : l.length ≤ 1000000) (m : List V) : ∀ (k i : Nat), l.drop i = m → m.length < k →
  ∃ r, slices_IndexFunc_at_op_small_1.l0 k l (l.length : Int) (i : Int) = some r ∧ (r ≥ 0 ↔ m.any bigV = true) := by
 induction m with
 | nil =>
  intro k i h hk
  obtain ⟨k, rfl⟩ : ∃ j, k = j + 1 := ⟨k - 1, by omega⟩
  have := dropL_end h
  refine ⟨-1, ?_, by simp⟩
  simp only [slices_IndexFunc_at_op_small_1.l0]
  rw [if_neg z3_]
 | cons v m ih =>
  intro k i h hk
  obtain ⟨k, rfl⟩ : ∃ j, k = j + 1 := ⟨k - 1, by omega⟩
  have hi := dropL_lt h
  simp only [slices_IndexFunc_at_op_small_1.l0]
  rw [if_pos z3_, if_pos z3_, if_pos z3_, rdT_drop h, big_eq, Option.bind_some]
  cases ho : bigV v
  ·
   obtain ⟨r, h1, h2⟩ := ih k (i + 1) (dropL_tail h) (by simp at hk; omega)
   refine ⟨r, ?_, ?_⟩
   ·
    rw [if_neg z5_, w64 z3_ z3_]; exact h1
   ·
    rw [h2, List.any_cons, ho, Bool.false_or]
  ·
   refine ⟨i, ?_, ?_⟩
   ·
    rw [if_pos rfl]
   ·
    rw [List.any_cons, ho, Bool.true_or]; simp
theorem contains_big (k : Nat) (l : List V) (hl : l.length ≤ 1000000) (hk : l.length < k) : slices_ContainsFunc_at_op_small_1.f k l () = some (l.any bigV) := by
 obtain ⟨r, h1, h2⟩ := index_big l hl l k 0 rfl hk
 unfold slices_ContainsFunc_at_op_small_1.f slices_IndexFunc_at_op_small_1.f
 rw [show ((0 : Nat) : Int) = 0 from rfl] at h1
 rw [h1, Option.bind_some]
 congr 1
 cases hz : l.any bigV
 ·
  rw [hz] at h2; exact decide_eq_false (fun h => by simpa using h2.1 h)
 ·
  rw [hz] at h2; exact decide_eq_true (h2.2 rfl)
theorem smallL_eq (k : Nat) (l : List V) (c : List Int) (hl : l.length ≤ 1000000) (hk : l.length + 1 ≤ k) : op_small.f k l c = some (smallB l c) := by
 unfold op_small.f smallB
 rw [rowFits_eq _ _ _ hl hk, Option.bind_some]
 cases fitsL l c
 ·
  rfl
 ·
  rw [if_pos rfl, contains_big _ _ hl hk, Option.bind_some, Bool.true_and]
  congr 1
  have : ∀ l : List V, (!l.any bigV) = l.all smallV := fun l => by
   induction l with
   | nil => rfl
   | cons v l ih => rw [List.any_cons, List.all_cons, Bool.not_or, ih]; unfold bigV; rw [Bool.not_not]
  exact this l
def wholeP (n : Int) (x : Ox) : Prop := (0 ≤ x.f0.f0 ∧ x.f0.f0 < n) ∧ (1 ≤ x.f0.f1 ∧ x.f0.f1 ≤ 1073741824) ∧ (x.f1.length : Int) = n ∧ vecE x.f1 = 0 ∧ rd x.f1 x.f0.f0 = x.f0.f1 - 1 ∧ stampOk x.f2 ∧ x.f2.f2 = x.f0.f0
instance (n : Int) (x : Ox) : Decidable (wholeP n x) := by unfold wholeP; infer_instance
theorem whole_eq (k : Nat) (n : Int) (x : Ox) (hl : x.f1.length ≤ 1000000) (hk : x.f1.length + 2 ≤ k) : op_whole.f k n x.f0.f0 x.f0.f1 x.f1 x.f2.f0 x.f2.f1 x.f2.f2 x.f3 x.f4 x.f5 x.f6 x.f7 x.f8 = some (decide (wholeP n x)) := by
 unfold op_whole.f
 by_cases h1 : x.f0.f0 ≥ 0
 rotate_left
 ·
  rw [if_neg h1, decide_eq_false (fun e => h1 e.1.1)]
 rw [if_pos h1]
 by_cases h2 : x.f0.f0 < n
 rotate_left
 ·
  rw [if_neg h2, decide_eq_false (fun e => h2 e.1.2)]
 rw [if_pos h2]
 by_cases h3 : x.f0.f1 ≥ 1
 rotate_left
 ·
  rw [if_neg h3, decide_eq_false (fun e => h3 e.2.1.1)]
 rw [if_pos h3]
 by_cases h4 : x.f0.f1 ≤ 1073741824
 rotate_left
 ·
  rw [if_neg h4, decide_eq_false (fun e => h4 e.2.1.2)]
 rw [if_pos h4]
 by_cases h5 : (x.f1.length : Int) = n
 rotate_left
 ·
  rw [if_neg h5, decide_eq_false (fun e => h5 e.2.2.1)]
 rw [if_pos h5, vec_eq _ _ hl hk, Option.bind_some]
 by_cases h6 : vecE x.f1 = 0
 rotate_left
 ·
  rw [if_neg h6, decide_eq_false (fun e => h6 e.2.2.2.1)]
 rw [if_pos h6, if_pos h1, if_pos z3_, w64 z3_ z3_]
 by_cases h7 : rd x.f1 x.f0.f0 = x.f0.f1 - 1
 rotate_left
 ·
  rw [if_neg h7, decide_eq_false (fun e => h7 e.2.2.2.2.1)]
 rw [if_pos h7, hlc_eq, Option.bind_some]
 by_cases h8 : stampOk x.f2
 rotate_left
 ·
  rw [if_neg h8, if_neg z5_, decide_eq_false (fun e => h8 e.2.2.2.2.2.1)]
 rw [if_pos h8, if_pos rfl]
 congr 1
 by_cases h9 : x.f2.f2 = x.f0.f0
 ·
  rw [decide_eq_true (show wholeP n x from ⟨⟨h1, h2⟩, ⟨h3, h4⟩, h5, h6, h7, h8, h9⟩)]; exact beq_iff_eq.2 h9
 rw [decide_eq_false (fun e => h9 e.2.2.2.2.2.2)]; exact beq_eq_false_iff_ne.2 h9
def colsOf (f : List Tb) (x : Ox) : List Int := (rd_T51 f x.f4).f0
def kindB (c : List Int) (x : Ox) : Bool :=
 if x.f3 = 1 then smallB x.f7 c && decide (x.f6 = 0) && decide (x.f8.length = 0)
 else if x.f3 = 2 then decide (0 ≤ x.f6 ∧ x.f6 < c.length) && smallB x.f7 [rd c x.f6] && decide (x.f8.length = 0)
 else if x.f3 = 3 then decide (1 ≤ x.f8.length ∧ x.f8.length ≤ 64) && hadG x.f1 none x.f8 && decide (x.f6 = 0) && decide (x.f7.length = 0)
 else false
def rightB (n : Int) (f : List Tb) (x : Ox) : Bool := decide (wholeP n x) && decide (0 ≤ x.f4 ∧ x.f4 < f.length) && keyB x.f5 && kindB (colsOf f x) x
theorem cut1 (c : List Int) (i : Int) (h0 : 0 ≤ i) (h1 : i < c.length) : (c.take (i + 1).toNat).drop i.toNat = [rd c i] := by
 obtain ⟨j, rfl⟩ := Int.eq_ofNat_of_zero_le h0
 rw [show ((j : Int) + 1).toNat = j + 1 by omega, Int.toNat_natCast]
 have hj : j < c.length := by omega
 have hr : rd c (j : Int) = c[j] := by
  show c.getD (j : Int).toNat 0 = _
  rw [Int.toNat_natCast, List.getD_eq_getElem?_getD, List.getElem?_eq_getElem hj]; rfl
 rw [hr, List.take_add_one, List.getElem?_eq_getElem hj, List.drop_append, List.drop_eq_nil_iff.2 (by rw [List.length_take]; omega)]
 rw [List.length_take, Nat.min_eq_left z3_, Nat.sub_self]; rfl
theorem right_eq (k : Nat) (n : Int) (f : List Tb) (x : Ox) (hx : x.f1.length ≤ 1000 ∧ x.f7.length ≤ 1000 ∧ x.f8.length ≤ 1000) (hf : f.length ≤ 1000 ∧ ∀ t ∈ f, t.f0.length ≤ 1000) (hk : 1100 ≤ k) :
  op_right.f k n f x.f0.f0 x.f0.f1 x.f1 x.f2.f0 x.f2.f1 x.f2.f2 x.f3 x.f4 x.f5 x.f6 x.f7 x.f8 = some (rightB n f x) := by
 obtain ⟨k, rfl⟩ : ∃ j, k = j + 1 := ⟨k - 1, by omega⟩
 unfold op_right.f rightB
 rw [whole_eq _ _ _ z3_ z3_, Option.bind_some]
 have hT : op_right.j0 (k + 1) f true x.f0.f0 x.f0.f1 x.f1 x.f2.f0 x.f2.f1 x.f2.f2 x.f3 x.f4 x.f5 x.f6 x.f7 x.f8 = some false := by simp only [op_right.j0, if_true]
 by_cases h1 : wholeP n x
 rotate_left
 ·
  rw [decide_eq_false h1, if_neg z5_, hT]; rfl
 rw [decide_eq_true h1, if_pos rfl, Bool.true_and]
 by_cases h2 : x.f4 < 0
 ·
  rw [if_pos h2, hT, decide_eq_false (show ¬ (0 ≤ x.f4 ∧ x.f4 < (f.length : Int)) by omega)]; rfl
 rw [if_neg h2]
 by_cases h3 : x.f4 ≥ (f.length : Int)
 ·
  rw [if_pos h3, hT, decide_eq_false (show ¬ (0 ≤ x.f4 ∧ x.f4 < (f.length : Int)) by omega)]; rfl
 rw [if_neg h3, key_eq, Option.bind_some, decide_eq_true (show 0 ≤ x.f4 ∧ x.f4 < (f.length : Int) by omega), Bool.true_and]
 cases hkb : keyB x.f5
 ·
  exact hT
 rw [Bool.true_and]
 have hc : (colsOf f x).length ≤ 1000 := by
  unfold colsOf
  obtain ⟨i, hi⟩ := Int.eq_ofNat_of_zero_le (show 0 ≤ x.f4 by omega)
  rw [hi]
  show (f.getD ((i : Int).toNat) _).f0.length ≤ _
  rw [Int.toNat_natCast, List.getD_eq_getElem?_getD, List.getElem?_eq_getElem (show i < f.length by omega)]
  exact hf.2 _ (List.getElem_mem _)
 simp only [op_right.j0, Bool.not_true]
 rw [if_neg z5_, if_pos (show 0 ≤ x.f4 by omega), if_pos (show x.f4 < (f.length : Int) by omega)]
 show (if x.f3 = 1 then _ else _) = _
 unfold kindB
 rw [show (rd_T51 f x.f4).f0 = colsOf f x from rfl]
 generalize colsOf f x = c at hc ⊢
 have e0 : ∀ n : Nat, ((n : Int) == 0) = decide (n = 0) := fun n => by cases n <;> simp; omega
 by_cases k1 : x.f3 = 1
 ·
  rw [if_pos k1, if_pos k1, smallL_eq _ _ _ z3_ z3_, Option.bind_some]
  cases smallB x.f7 c
  ·
   rfl
  rw [if_pos rfl, Bool.true_and, e0]
  by_cases h : x.f6 = 0
  ·
   rw [if_pos h, decide_eq_true h, Bool.true_and]
  rw [if_neg h, decide_eq_false h]; rfl
 rw [if_neg k1, if_neg k1]
 by_cases k2 : x.f3 = 2
 ·
  rw [if_pos k2, if_pos k2]
  by_cases h4 : x.f6 ≥ 0
  rotate_left
  ·
   rw [if_neg h4, decide_eq_false (show ¬ (0 ≤ x.f6 ∧ x.f6 < (c.length : Int)) by omega)]; rfl
  rw [if_pos h4]
  by_cases h5 : x.f6 < (c.length : Int)
  rotate_left
  ·
   rw [if_neg h5, decide_eq_false (show ¬ (0 ≤ x.f6 ∧ x.f6 < (c.length : Int)) by omega)]; rfl
  rw [if_pos h5, if_pos h4, w64 z3_ z3_, if_pos z3_, if_pos z3_, cut1 c _ h4 h5, smallL_eq _ _ _ z3_ z3_, Option.bind_some, decide_eq_true (show 0 ≤ x.f6 ∧ x.f6 < (c.length : Int) from ⟨h4, h5⟩), Bool.true_and, e0]
  cases smallB x.f7 [rd c x.f6]
  ·
   rfl
  ·
   rfl
 rw [if_neg k2, if_neg k2]
 by_cases k3 : x.f3 = 3
 ·
  rw [if_pos k3, if_pos k3]
  by_cases h4 : (x.f8.length : Int) ≥ 1
  rotate_left
  ·
   rw [if_neg h4, decide_eq_false (show ¬ (1 ≤ x.f8.length ∧ x.f8.length ≤ 64) by omega)]; rfl
  rw [if_pos h4]
  by_cases h5 : (x.f8.length : Int) ≤ 64
  rotate_left
  ·
   rw [if_neg h5, decide_eq_false (show ¬ (1 ≤ x.f8.length ∧ x.f8.length ≤ 64) by omega)]; rfl
  rw [if_pos h5, had_eq _ _ _ z3_ z3_, Option.bind_some, decide_eq_true (show 1 ≤ x.f8.length ∧ x.f8.length ≤ 64 by omega), Bool.true_and, e0]
  cases hadG x.f1 none x.f8
  ·
   rfl
  rw [if_pos rfl, Bool.true_and]
  by_cases h : x.f6 = 0
  ·
   rw [if_pos h, decide_eq_true h, Bool.true_and]
  rw [if_neg h, decide_eq_false h]; rfl
 rw [if_neg k3, if_neg k3]
def checkE (n : Int) (f : List Tb) (x : Ox) : Int := if formsE f ≠ 0 then formsE f else if n < 1 ∨ n > 5 then 1 else if rightB n f x = true then 0 else 1
theorem check_op_eq (k : Nat) (n : Int) (f : List Tb) (x : Ox) (hx : x.f1.length ≤ 1000 ∧ x.f7.length ≤ 1000 ∧ x.f8.length ≤ 1000) (hf : f.length ≤ 1000 ∧ ∀ t ∈ f, t.f0.length ≤ 1000) (hk : 1100 ≤ k) :
  op_Check.f k n f x.f0.f0 x.f0.f1 x.f1 x.f2.f0 x.f2.f1 x.f2.f2 x.f3 x.f4 x.f5 x.f6 x.f7 x.f8 = some (checkE n f x) := by
 unfold op_Check.f checkE
 rw [forms_eq _ _ hf.1 z3_, Option.bind_some]
 by_cases h0 : formsE f = 0
 rotate_left
 ·
  rw [if_neg h0, if_pos (show formsE f ≠ 0 from h0)]
 rw [if_pos h0, if_neg (show ¬ formsE f ≠ 0 from fun e => e h0)]
 by_cases h1 : n < 1
 ·
  rw [if_pos h1, if_pos (.inl h1)]
 rw [if_neg h1]
 by_cases h2 : n > 5
 ·
  rw [if_pos h2, if_pos (.inr h2)]
 rw [if_neg h2, if_neg z3_, right_eq _ _ _ _ hx hf hk, Option.bind_some]
 cases rightB n f x <;> rfl
end Go.Proofs.Ytjnjfogfpmeacaa.Ops
end
section
namespace Go.Proofs.Ytjnjfogfpmeacaa.Steps
open Go.RowKit PrintWords PrintLast PrintMore ZipT PrintWords.Kd PrintMore.Kd
set_option linter.unusedVariables false
def Pre (n k : Nat) : Array Bool := ⟨(List.range n).map (fun i => Nat.blt i k)⟩
section
variable {P : Program} {ops : Array Oper} {Q : Exit → Act → World → Prop} {md : Region.Mode} {S : World → Prop} {ds : List Nat} {T : Bool × List (List Nat × List Nat)} {B : List Nat}
theorem want_ {oi : Oper} {k : Nat} {a : Act} {b : Bool} (hi : ops[k]? = some oi) (hw : (ops[k]?).map (fun o => Region.wanted o (yielded ops a.tmps)) = some b) : Region.wanted oi (yielded ops a.tmps) = b := by
 rw [hi] at hw
 exact Option.some.inj hw
theorem nR_ (off : Nat) (hT : rtab md ops = T) {oi : Oper} {fuel n k : Nat} {a : Act} {w : World} {a' : Act} (hi : ops[k]? = some oi := by rfl) (hN : oi.dst = some (k + off) := by rfl) (hw : (ops[k]?).map (fun o => Region.wanted o (yielded ops a.tmps)) = some false := by kernel_rfl)
  (hc : anyT T (Pre n k).toList (Pre n (k + 1)).toList k = true := by kernel_rfl)
  (hQ : ∀ c a w, Q (.panic c) (a.put oi.dst undef) w → Q (.panic c) a w := by exact fun _ _ _ h => h)
  (ha : a.put (some (k + off)) undef = a' := by simp only [Nat.reduceAdd, Act.put, List.setIfInBounds_toArray, List.set_cons_zero, List.set_cons_succ, i64_w, i32_w]; rfl)
  (h : wpAnyLast P md ops Q S ds fuel (Pre n (k + 1)) a' w) : wpAnyLast P md ops Q S ds (fuel + 1) (Pre n k) a w :=
 pure_ _ hi hN (any_of hT hc) hQ (Or.inr ⟨want_ hi hw, rfl⟩) ha h
theorem nI_ (off : Nat) (hT : rtab md ops = T) {oi : Oper} {v : Value} {fuel n k : Nat} {a : Act} {w : World} {a' : Act} (hi : ops[k]? = some oi := by rfl) (hN : oi.dst = some (k + off) := by rfl) (hw : (ops[k]?).map (fun o => Region.wanted o (yielded ops a.tmps)) = some true := by kernel_rfl)
  (hy : ∀ w, (execOp a.eval oi).run P w = .ok (.value v) w := by intro w'; go_simp; with_reducible rfl)
  (hc : anyT T (Pre n k).toList (Pre n (k + 1)).toList k = true := by kernel_rfl)
  (hQ : ∀ c a w, Q (.panic c) (a.put oi.dst v) w → Q (.panic c) a w := by exact fun _ _ _ h => h)
  (ha : a.put (some (k + off)) v = a' := by simp only [Nat.reduceAdd, Act.put, List.setIfInBounds_toArray, List.set_cons_zero, List.set_cons_succ, i64_w, i32_w]; rfl)
  (h : wpAnyLast P md ops Q S ds fuel (Pre n (k + 1)) a' w) : wpAnyLast P md ops Q S ds (fuel + 1) (Pre n k) a w :=
 pure_ _ hi hN (any_of hT hc) hQ (Or.inl ⟨want_ hi hw, hy⟩) ha h
theorem start_n {S : World → Prop} {ds : List Nat} {id n : Nat} {a : Act} {w : World} (J : World → Prop) (hm : P.follows .mixedOrders = true) (hn : ops.size = n) (hl : Array.replicate n false = Pre n 0)
  (hJ : J w.drew) (hS : ∀ W, J W → S W) (h : ∀ W, J W → S W → wpAnyLast P .any ops Q S ds n (Pre n 0) a W) : (Code.region id ops true).wp P Q a w :=
 start_ _ hm hn hl (hS _ hJ) (fun _ => h _ hJ (hS _ hJ))
theorem nT_ (off : Nat) (hT : rtab md ops = T) (hB : waitsOk T.2 B = true) {oi : Oper} {v : Value} {fuel n k : Nat} {a : Act} {w : World} (hS : S w) {a' : Act} (hi : ops[k]? = some oi := by rfl) (hN : oi.dst = some (k + off) := by rfl) (hw : (ops[k]?).map (fun o => Region.wanted o (yielded ops a.tmps)) = some true := by kernel_rfl)
  (hy : ∀ w, S w → (execOp a.eval oi).run P w = .ok (.value v) w := by intro w' hS_; have hb_ := blk_cell hS_.1; replace hS_ := hS_.2; (try (have hb2_ := blk_cell hS_.1; replace hS_ := hS_.2)); (repeat (have h_ := hS_.1; replace hS_ := hS_.2)); go_simp; with_reducible rfl)
  (hc : takeW T B ds (Pre n k).toList (Pre n (k + 1)).toList k = true := by kernel_rfl)
  (hQ : ∀ c a w, Q (.panic c) (a.put oi.dst v) w → Q (.panic c) a w := by exact fun _ _ _ h => h)
  (ha : a.put (some (k + off)) v = a' := by simp only [Nat.reduceAdd, Act.put, List.setIfInBounds_toArray, List.set_cons_zero, List.set_cons_succ, i64_w, i32_w]; rfl)
  (h : wpAnyLast P md ops Q S ds fuel (Pre n (k + 1)) a' w) : wpAnyLast P md ops Q S ds (fuel + 1) (Pre n k) a w :=
 take_ _ hi hN (take_ofW hT hB hc) hQ (Or.inl ⟨want_ hi hw, hy⟩) hS ha h
end
end Go.Proofs.Ytjnjfogfpmeacaa.Steps
end
section
namespace Go.Proofs.Ytjnjfogfpmeacaa.Ops
open Go.RowKit PAll Ops Plain PrintWords PrintLast PrintMore ZipT PrintWords.Kd PrintMore.Kd
set_option linter.unusedVariables false
set_option linter.unusedSimpArgs false
def opT (n : Int) (f : List Tb) (x : Ox) : Bool := decide (wholeP n x) && decide (0 ≤ x.f4 ∧ x.f4 < f.length) && keyB x.f5
theorem opT_not {n : Int} {f : List Tb} {x : Ox} (h : ¬ (wholeP n x ∧ (0 ≤ x.f4 ∧ x.f4 < f.length) ∧ keyB x.f5 = true)) : opT n f x = false := by
 cases hb : opT n f x
 ·
  rfl
 ·
  unfold opT at hb
  rw [Bool.and_eq_true, Bool.and_eq_true, decide_eq_true_eq, decide_eq_true_eq] at hb
  exact absurd ⟨hb.1.1, hb.1.2, hb.2⟩ h
theorem opT_yes {n : Int} {f : List Tb} {x : Ox} (h : opT n f x = true) : wholeP n x ∧ (0 ≤ x.f4 ∧ x.f4 < f.length) ∧ keyB x.f5 = true := by
 unfold opT at h
 rw [Bool.and_eq_true, Bool.and_eq_true, decide_eq_true_eq, decide_eq_true_eq] at h
 exact ⟨h.1.1, h.1.2, h.2⟩
def fitV (v : V) (t : Int) : Bool := decide (vFits v.f0 v.f1 v.f2 t)
def sfG : List V → List Int → Bool
 | v :: l, t :: m => smallV v && fitV v t && sfG l m
 | _, _ => true
theorem sf_nil (l : List V) : sfG l [] = true := by cases l <;> rfl
theorem small_sf : ∀ {l : List V} {c : List Int}, l.length = c.length → smallB l c = sfG l c
 | [], [], _ => rfl
 | [], t :: m, h => by cases h
 | v :: l, [], h => by cases h
 | v :: l, t :: m, h => by
  have ih := small_sf (l := l) (c := m) (by simpa using h)
  unfold smallB at ih ⊢
  rw [sfG, ← ih, List.all_cons]
  show (fitV v t && fitsL l m && (smallV v && l.all smallV)) = _
  cases fitV v t <;> cases smallV v <;> cases fitsL l m <;> cases l.all smallV <;> rfl
theorem small_ne {l : List V} {c : List Int} (h : l.length ≠ c.length) : smallB l c = false := by
 cases hb : smallB l c
 ·
  rfl
 ·
  unfold smallB at hb
  rw [Bool.and_eq_true] at hb
  exact absurd (fitsL_len hb.1) h
theorem sf_step {l : List V} {c : List Int} {i : Nat} (h1 : i < l.length) (h2 : i < c.length) : sfG (l.drop i) (c.drop i) = (smallV (rd_T84 l (i : Int)) && fitV (rd_T84 l (i : Int)) (rd c (i : Int)) && sfG (l.drop (i + 1)) (c.drop (i + 1))) := by
 have e1 := List.drop_eq_getElem_cons h1
 have e2 := List.drop_eq_getElem_cons h2
 rw [rdT_drop e1, rdI_drop e2, e1, e2, sfG]
theorem had_step {v : List Int} {l : List Dt} {i : Nat} (h : i < l.length) : hadG v (ahead? l i) (l.drop i) = (hasB v (rd_T25 l (i : Int)) && (if i = 0 then true else lessD (rd_T25 l ((i : Int) - 1)) (rd_T25 l (i : Int))) && hadG v (ahead? l (i + 1)) (l.drop (i + 1))) := by
 have e1 := List.drop_eq_getElem_cons h
 rw [rdD_drop e1, ahead_next e1, e1, hadG_cons]
 congr 2
 by_cases h0 : i = 0
 rotate_left
 ·
  rw [if_neg h0, rdD_ahead z3_ z3_]
 rw [if_pos h0]
 unfold ahead?
 rw [if_pos h0]
def pgT1 : Bool × List (List Nat × List Nat) := (true, [([], []), ([0], [0]), ([1], [1]), ([], []), ([3], [3]), ([2, 4], [2, 4]), ([5], [5]), ([6, 5], [6]), ([7], [7]), ([8, 7], [7, 8]), ([9, 7], [7, 9]), ([10, 7, 7], [7, 10]), ([11, 7], [7, 11]), ([7, 12], [7, 12]), ([13, 11], [13]), ([14], [14]), ([15, 14], [14, 15]), ([16, 14], [14, 16]), ([14], [14]), ([17, 18, 14], [14, 17, 18]), ([14, 19], [14, 19]), ([20, 14], [20]), ([21], [21]), ([22, 21], [21, 22]), ([23, 21, 21], [21, 23]), ([24, 21], [21, 24]), ([21, 25], [21, 25]), ([26, 24], [26]), ([27], [27]), ([28, 27], [27, 28]), ([27], [27]), ([30, 27], [27, 30]), ([31, 27], [27, 31]), ([29, 32, 27], [27, 29, 32]), ([33, 27], [27, 33]), ([27], [27]), ([35, 27], [27, 35]), ([36, 27], [27, 36]), ([37, 27], [27, 37]), ([34, 38, 27], [27, 34, 38]), ([27, 39], [27, 39]), ([40, 27], [40]), ([41], [41]), ([42, 41], [41, 42]), ([43, 41, 41], [41, 43]), ([44, 41], [41, 44]), ([41, 45], [41, 45]), ([46, 44], [46]), ([47], [47]), ([48, 47], [47, 48]), ([49, 47], [47, 49]), ([47], [47]), ([51, 47], [47, 51]), ([52, 47], [47, 52]), ([50, 53, 47], [47, 50, 53]), ([47, 54], [47, 54]), ([55, 47], [55]), ([56], [56]), ([57, 56], [56, 57]), ([56], [56]), ([59, 56], [56, 59]), ([60, 56], [56, 60]), ([58, 61, 56, 56], [56, 58, 61]), ([62, 56], [56, 62]), ([56, 63], [56, 63]), ([64, 62], [64]), ([65], [65]), ([66, 65], [65, 66]), ([67, 65, 65], [65, 67]), ([68, 65], [65, 68]), ([65, 69], [65, 69])])
def pgB1 : List Nat := [0, 1, 3, 0, 8, 31, 63, 127, 255, 511, 1023, 2047, 4095, 8191, 16383, 32767, 65535, 131071, 32767, 524287, 1048575, 2097151, 4194303, 8388607, 16777215, 33554431, 67108863, 134217727, 268435455, 536870911, 268435455, 1342177279, 3489660927, 8589934591, 17179869183, 268435455, 34628173823, 103347650559, 240786604031, 549755813887, 1099511627775, 2199023255551, 4398046511103, 8796093022207, 17592186044415, 35184372088831, 70368744177663, 140737488355327, 281474976710655, 562949953421311, 1125899906842623, 281474976710655, 2533274790395903, 7036874417766399, 18014398509481983, 36028797018963967, 72057594037927935, 144115188075855871, 288230376151711743, 144115188075855871, 720575940379279359, 1873497444986126335, 4611686018427387903, 9223372036854775807, 18446744073709551615, 36893488147419103231, 73786976294838206463, 147573952589676412927, 295147905179352825855, 590295810358705651711, 1180591620717411303423]
def pgT11 : Bool × List (List Nat × List Nat) := (true, [([], []), ([0], [0]), ([], []), ([1, 2], [1, 2]), ([3], [3]), ([4], [4]), ([5], [5]), ([6, 5], [6]), ([7], [7]), ([8, 7], [7, 8]), ([7], [7]), ([9, 10, 7], [7, 9, 10]), ([11, 7], [7, 11]), ([7], [7]), ([7], [7]), ([13, 14, 7], [7, 13, 14]), ([15, 7], [7, 15]), ([12, 16, 7, 7], [7, 12, 16]), ([17, 7], [7, 17]), ([7, 18], [7, 18])])
def pgB11 : List Nat := [0, 1, 0, 7, 15, 31, 63, 127, 255, 511, 255, 2047, 4095, 255, 255, 24831, 57599, 131071, 262143, 524287]
def pgT15 : Bool × List (List Nat × List Nat) := (true, [([], []), ([0], [0]), ([], []), ([2], [2]), ([3], [3]), ([1, 4], [1, 4]), ([5, 5], [5]), ([6], [6]), ([7, 6], [6, 7]), ([8, 6], [6, 8]), ([9, 6], [6, 9]), ([6, 10], [6, 10]), ([11, 6], [11]), ([12], [12]), ([13, 12], [12, 13]), ([14, 12], [12, 14]), ([15, 12], [12, 15]), ([16, 12, 12], [12, 16]), ([12, 17], [12, 17]), ([18, 17], [18]), ([19], [19]), ([20, 19], [19, 20]), ([21, 19], [19, 21]), ([22, 19], [19, 22]), ([19], [19]), ([19], [19]), ([25, 19], [19, 25]), ([24, 26, 19], [19, 24, 26]), ([27, 19], [19, 27]), ([23, 28, 19, 19], [19, 23, 28]), ([19, 29], [19, 29]), ([30, 29], [30]), ([31], [31]), ([32, 31], [31, 32]), ([33, 31], [31, 33]), ([34, 31], [31, 34]), ([31, 35], [31, 35]), ([36, 31, 0, 1, 2, 3, 4, 5, 6, 7, 8, 9, 10, 11, 12, 13, 14, 15, 16, 17, 18, 19, 20, 21, 22, 23, 24, 25, 26, 27, 28, 29, 30, 31, 32, 33, 34, 35, 36], [36])])
def pgB15 : List Nat := [0, 1, 0, 4, 12, 31, 63, 127, 255, 511, 1023, 2047, 4095, 8191, 16383, 32767, 65535, 131071, 262143, 524287, 1048575, 2097151, 4194303, 8388607, 1048575, 1048575, 34603007, 118489087, 252706815, 536870911, 1073741823, 2147483647, 4294967295, 8589934591, 17179869183, 34359738367, 68719476735, 137438953471]
def pgT22 : Bool × List (List Nat × List Nat) := (true, [([], []), ([0], [0]), ([], []), ([2], [2]), ([], []), ([3, 4], [3, 4]), ([5], [5]), ([1, 6], [1, 6]), ([7], [7]), ([8, 7], [8]), ([9], [9]), ([10, 9], [9, 10]), ([11, 9, 9], [9, 11]), ([12], [12]), ([13, 12], [12, 13]), ([12], [12]), ([15, 12], [12, 15]), ([14, 16, 12], [12, 14, 16]), ([17, 12], [12, 17]), ([12], [12]), ([19, 12], [12, 19]), ([12], [12]), ([20, 21, 12], [12, 20, 21]), ([22, 12], [12, 22]), ([18, 23, 12, 12], [12, 18, 23]), ([24, 12], [12, 24]), ([12, 25, 9], [9, 12, 25]), ([9, 26], [9, 26])])
def pgB22 : List Nat := [0, 1, 0, 4, 0, 28, 60, 127, 255, 511, 1023, 2047, 4095, 8191, 16383, 8191, 40959, 131071, 262143, 8191, 532479, 8191, 3678207, 7872511, 16777215, 33554431, 67108863, 134217727]
theorem pgtab1 : rtab .any (opsOf Try.f38 1) = pgT1 := by kernel_rfl
theorem pgbits1 : waitsOk pgT1.2 pgB1 = true := by kernel_rfl
theorem pgtab11 : rtab .any (opsOf Try.f38 11) = pgT11 := by kernel_rfl
theorem pgbits11 : waitsOk pgT11.2 pgB11 = true := by kernel_rfl
theorem pgtab15 : rtab .any (opsOf Try.f38 15) = pgT15 := by kernel_rfl
theorem pgbits15 : waitsOk pgT15.2 pgB15 = true := by kernel_rfl
theorem pgtab22 : rtab .any (opsOf Try.f38 22) = pgT22 := by kernel_rfl
theorem pgbits22 : waitsOk pgT22.2 pgB22 = true := by kernel_rfl
set_option maxHeartbeats 40000000 in
theorem pgop_calls (n : Int) (f : List Tb) (x : Ox) (A1 : Option Addr) (c1 : Nat) (A2 : Option Addr) (c2 : Nat) (A10 : Option Addr) (c10 : Nat) (A11 : Option Addr) (c11 : Nat) (w : World) (hr1 : Kd.C k51 w A1 f.length f) (hc1 : f.length ≤ c1) (hr2 : Kd.C (Kd.int .i64) w A2 x.f1.length x.f1) (hc2 : x.f1.length ≤ c2) (hr10 : Kd.C k84 w A10 x.f7.length x.f7) (hc10 : x.f7.length ≤ c10) (hr11 : Kd.C k25 w A11 x.f8.length x.f8) (hc11 : x.f8.length ≤ c11)
    (hn : 1 ≤ n ∧ n ≤ 5) (hx : x.f1.length ≤ 1000 ∧ x.f7.length ≤ 1000 ∧ x.f8.length ≤ 1000) (hf : f.length ≤ 1000 ∧ ∀ t ∈ f, t.f0.length ≤ 1000) :
    Calls Try.prog 38 #[.int .i64 n, .slice A1 f.length c1, .agg #[.int .i64 x.f0.f0, .int .i64 x.f0.f1, .slice A2 x.f1.length c2, .int .i64 x.f2.f0, .int .i64 x.f2.f1, .int .i64 x.f2.f2, .int .i64 x.f3, .int .i64 x.f4, .string x.f5, .int .i64 x.f6, .slice A10 x.f7.length c10, .slice A11 x.f8.length c11]] w fun e w' => e = .returned (.bool (rightB n f x)) ∧ Below w.heap.size w w' := by
  have hu1 := Try.underlying32
  have hu1 := Try.underlying28
  have hu1 := Try.underlying84
  have hu1 := Try.underlying25
  obtain ⟨res, hres⟩ : ∃ r, rightB n f x = r := ⟨_, rfl⟩
  rw [hres]
  have HR0 := mk_ (show res = (opT n f x && kindB (colsOf f x) x) from by rw [← hres]; rfl)
  clear hres
  have HR1 := mk_ hr1
  have HR2 := mk_ hr2
  have HC2 := mk_ hc2
  have HR10 := mk_ hr10
  have HR11 := mk_ hr11
  have HN := mk_ (And.intro hn (And.intro hx hf))
  have hwn : wrap64 (n - 1) = n - 1 := w64 z3_ z3_
  have hwf : wrap64 ((f.length : Int) - 1) = (f.length : Int) - 1 := w64 z3_ z3_
  obtain ⟨b1, e1⟩ : ∃ b, decide (0 ≤ x.f0.f0 ∧ x.f0.f0 ≤ n - 1) = b := ⟨_, rfl⟩
  obtain ⟨b2, e2⟩ : ∃ b, decide (1 ≤ x.f0.f1 ∧ x.f0.f1 ≤ 1073741824) = b := ⟨_, rfl⟩
  obtain ⟨b6, e6⟩ : ∃ b, decide (stampOk x.f2) = b := ⟨_, rfl⟩
  obtain ⟨b8, e8⟩ : ∃ b, decide (0 ≤ x.f4 ∧ x.f4 ≤ (f.length : Int) - 1) = b := ⟨_, rfl⟩
  obtain ⟨b9, e9⟩ : ∃ b, keyB x.f5 = b := ⟨_, rfl⟩
  have HI1 := mk_ (show raddleref01_in.f x.f0.f0 0 (wrap64 (n - 1)) = some b1 by rw [rin_eq, hwn, e1])
  have HI2 := mk_ (show raddleref01_in.f x.f0.f1 1 1073741824 = some b2 by rw [rin_eq, e2])
  have HV := mk_ (rvec_eq 2000 x.f1 z3_ z3_)
  have HS := mk_ (show raddleref01_Stamp.f x.f2.f0 x.f2.f1 x.f2.f2 = some b6 by rw [rstamp_eq, e6])
  have HI8 := mk_ (show raddleref01_in.f x.f4 0 (wrap64 ((f.length : Int) - 1)) = some b8 by rw [rin_eq, hwf, e8])
  have HK := mk_ (show raddleref01_Key.f x.f5 = some b9 by rw [rkey_eq, e9])
  have E1 : Aside0 (b1 = true ↔ 0 ≤ x.f0.f0 ∧ x.f0.f0 < n) := ⟨by rw [← e1, decide_eq_true_eq]; omega⟩
  have E2 : Aside0 (b2 = true ↔ 1 ≤ x.f0.f1 ∧ x.f0.f1 ≤ 1073741824) := ⟨by rw [← e2, decide_eq_true_eq]⟩
  have E6 : Aside0 (b6 = true ↔ stampOk x.f2) := ⟨by rw [← e6, decide_eq_true_eq]⟩
  have E8 : Aside0 (b8 = true ↔ 0 ≤ x.f4 ∧ x.f4 < (f.length : Int)) := ⟨by rw [← e8, decide_eq_true_eq]; omega⟩
  have E9 := mk_ e9
  clear e1 e2 e6 e8 e9 hwn hwf hr1 hc1 hr2 hc2 hr10 hc10 hr11 hc11 hn hx hf
  have HB := mk_ (Below.refl w.heap.size w)
  go_enter Try.func38, Try.ntmps38
  go_upto_region 1 with (first | ((with_reducible refine gate_dst (N := 5) rfl ?_); (try (refine gate_guard (by rfl) ?_; dsimp only)); refine box_event ?hg (N := 5) ?hd (cs := #[.int .i64 x.f0.f0, .int .i64 x.f0.f1, .slice A2 x.f1.length c2, .int .i64 x.f2.f0, .int .i64 x.f2.f1, .int .i64 x.f2.f2, .int .i64 x.f3, .int .i64 x.f4, .string x.f5, .int .i64 x.f6, .slice A10 x.f7.length c10, .slice A11 x.f8.length c11]) (t := 32) ?hr ?_; (case hd => rfl); (case hg => rfl); (case hr => first | (go_simp; done) | (go_simp; rfl)); intro gb hg w5 hbox hb; have n0_ := mk_ (below_step HB.out hb); have n1_ := mk_ (hbox); clear HB; revert n0_ n1_; intro HB BK; clear hb hbox hg))
  (try simp only [Act.put, List.setIfInBounds_toArray, List.set_cons_zero, List.set_cons_succ])
  go_cut [80] (fun v80 wc => ∃ b : Bool, v80 = .bool b ∧ Aside0 (b = !opT n f x) ∧ Aside0 (wc.heap[gb]? = some (.cells #[.int .i64 x.f0.f0, .int .i64 x.f0.f1, .slice A2 x.f1.length c2, .int .i64 x.f2.f0, .int .i64 x.f2.f1, .int .i64 x.f2.f2, .int .i64 x.f3, .int .i64 x.f4, .string x.f5, .int .i64 x.f6, .slice A10 x.f7.length c10, .slice A11 x.f8.length c11] 32 (0, 0))) ∧ Aside0 (Below w.heap.size w wc))
  case first =>
    by_cases hg : (x.f1.length : Int) = n ∧ 0 ≤ x.f0.f0 ∧ x.f0.f0 < (x.f1.length : Int)
    rotate_left
    · as_aux_lemma =>
        have HG := mk_ hg
        clear hg
        refine Steps.start_n (n := 71) (S := fun w' => w'.heap[gb]? = some (.cells #[.int .i64 x.f0.f0, .int .i64 x.f0.f1, .slice A2 x.f1.length c2, .int .i64 x.f2.f0, .int .i64 x.f2.f1, .int .i64 x.f2.f2, .int .i64 x.f3, .int .i64 x.f4, .string x.f5, .int .i64 x.f6, .slice A10 x.f7.length c10, .slice A11 x.f8.length c11] 32 (0, 0)) ∧ True) (ds := []) (fun W => W.heap[gb]? = some (.cells #[.int .i64 x.f0.f0, .int .i64 x.f0.f1, .slice A2 x.f1.length c2, .int .i64 x.f2.f0, .int .i64 x.f2.f1, .int .i64 x.f2.f2, .int .i64 x.f3, .int .i64 x.f4, .string x.f5, .int .i64 x.f6, .slice A10 x.f7.length c10, .slice A11 x.f8.length c11] 32 (0, 0)) ∧ Below w.heap.size w W) z0_ rfl z0_ ⟨blk_drew BK.out, HB.out.drew⟩ (fun W hJ => ?_) (fun W0 hJ hS0 => ?_)
        · obtain ⟨bk0, hb0⟩ := hJ
          exact ⟨bk0, trivial⟩
        obtain ⟨bk0, hb0⟩ := hJ
        refine with_tabW pgtab1 pgbits1 (fun HT_ HW_ => ?_)
        iterate 2 refine Steps.nI_ 10 HT_.out (h := ?_)
        refine Steps.nT_ 10 HT_.out HW_.out hS0 (h := ?_)
        iterate 2 refine Steps.nI_ 10 HT_.out (h := ?_)
        refine one_ (i := 5) (N := some 15) (Steps.Pre 71 6) rfl rfl (one_of HT_.out z0_) z5_ (fun K hK => ?_)
        refine goes_ Try.func27 z0_ rfl #[.int .i64 x.f0.f0, .int .i64 0, .int .i64 (wrap64 (n - 1))] (Steps.want_ (k := 5) rfl z0_) rfl rfl z2_ ?_
        refine (raddleref01_in.calls x.f0.f0 0 (wrap64 (n - 1)) b1 _ HI1.out).mono ?_
        rintro e W1 ⟨rfl, hq⟩
        have bk1 := blk_below bk0 hq.below
        have hb1 := below_step hb0 hq.below
        refine ⟨_, rfl, ?_⟩
        refine hK.out _ _ ⟨bk1, trivial⟩ (fun hS1 => ?_)
        clear hK K hq hS0 bk0 hb0
        refine norm_ (a' := ?_) ?_ ?_
        rotate_left
        · show Act.put _ (some 15) _ = _
          simp only [Act.put, List.setIfInBounds_toArray, List.set_cons_zero, List.set_cons_succ, i64_w, i32_w]
          rfl
        iterate 2 refine Steps.nI_ 10 HT_.out (h := ?_)
        cases b1
        · iterate 5 refine Steps.nR_ 10 HT_.out (h := ?_)
          iterate 2 refine Steps.nI_ 10 HT_.out (h := ?_)
          iterate 5 refine Steps.nR_ 10 HT_.out (h := ?_)
          iterate 2 refine Steps.nI_ 10 HT_.out (h := ?_)
          iterate 4 refine Steps.nR_ 10 HT_.out (h := ?_)
          iterate 2 refine Steps.nI_ 10 HT_.out (h := ?_)
          iterate 12 refine Steps.nR_ 10 HT_.out (h := ?_)
          iterate 2 refine Steps.nI_ 10 HT_.out (h := ?_)
          iterate 4 refine Steps.nR_ 10 HT_.out (h := ?_)
          iterate 2 refine Steps.nI_ 10 HT_.out (h := ?_)
          iterate 7 refine Steps.nR_ 10 HT_.out (h := ?_)
          iterate 2 refine Steps.nI_ 10 HT_.out (h := ?_)
          iterate 7 refine Steps.nR_ 10 HT_.out (h := ?_)
          iterate 2 refine Steps.nI_ 10 HT_.out (h := ?_)
          iterate 4 refine Steps.nR_ 10 HT_.out (h := ?_)
          refine Steps.nI_ 10 HT_.out (h := ?_)
          refine done_ (done_of HT_.out z0_) ?_
          go_wp2
          go_meet
          case rel => exact ⟨true, rfl, ⟨by rw [opT_not (fun h => absurd (E1.out.2 h.1.1) z5_)]; rfl⟩, ⟨bk1⟩, ⟨hb1⟩⟩
        iterate 2 refine Steps.nI_ 10 HT_.out (h := ?_)
        refine Steps.nT_ 10 HT_.out HW_.out hS1 (h := ?_)
        refine one_ (i := 11) (N := some 21) (Steps.Pre 71 12) rfl rfl (one_of HT_.out z0_) z5_ (fun K hK => ?_)
        refine goes_ Try.func27 z0_ rfl #[.int .i64 x.f0.f1, .int .i64 1, .int .i64 1073741824] (Steps.want_ (k := 11) rfl z0_) rfl rfl z2_ ?_
        refine (raddleref01_in.calls x.f0.f1 1 1073741824 b2 _ HI2.out).mono ?_
        rintro e W2 ⟨rfl, hq⟩
        have bk2 := blk_below bk1 hq.below
        have hb2 := below_step hb1 hq.below
        refine ⟨_, rfl, ?_⟩
        refine hK.out _ _ ⟨bk2, trivial⟩ (fun hS2 => ?_)
        clear hK K hq hS1 bk1 hb1
        refine norm_ (a' := ?_) ?_ ?_
        rotate_left
        · show Act.put _ (some 21) _ = _
          simp only [Act.put, List.setIfInBounds_toArray, List.set_cons_zero, List.set_cons_succ, i64_w, i32_w]
          rfl
        iterate 3 refine Steps.nI_ 10 HT_.out (h := ?_)
        cases b2
        · iterate 5 refine Steps.nR_ 10 HT_.out (h := ?_)
          iterate 2 refine Steps.nI_ 10 HT_.out (h := ?_)
          iterate 4 refine Steps.nR_ 10 HT_.out (h := ?_)
          iterate 2 refine Steps.nI_ 10 HT_.out (h := ?_)
          iterate 12 refine Steps.nR_ 10 HT_.out (h := ?_)
          iterate 2 refine Steps.nI_ 10 HT_.out (h := ?_)
          iterate 4 refine Steps.nR_ 10 HT_.out (h := ?_)
          iterate 2 refine Steps.nI_ 10 HT_.out (h := ?_)
          iterate 7 refine Steps.nR_ 10 HT_.out (h := ?_)
          iterate 2 refine Steps.nI_ 10 HT_.out (h := ?_)
          iterate 7 refine Steps.nR_ 10 HT_.out (h := ?_)
          iterate 2 refine Steps.nI_ 10 HT_.out (h := ?_)
          iterate 4 refine Steps.nR_ 10 HT_.out (h := ?_)
          refine Steps.nI_ 10 HT_.out (h := ?_)
          refine done_ (done_of HT_.out z0_) ?_
          go_wp2
          go_meet
          case rel => exact ⟨true, rfl, ⟨by rw [opT_not (fun h => absurd (E2.out.2 h.1.2.1) z5_)]; rfl⟩, ⟨bk2⟩, ⟨hb2⟩⟩
        have hl : ¬ ((x.f1.length : Int) = n) := fun h => HG.out ⟨h, (E1.out.1 (by simp)).1, by rw [h]; exact (E1.out.1 (by simp)).2⟩
        have HL := mk_ hl
        have hl_0 : ((x.f1.length : Int) == n) = false := beq_eq_false_iff_ne.mpr hl
        have hl_1 : ((x.f1.length : Int) != n) = true := bne_iff_ne.mpr hl
        have hl_2 : decide ((x.f1.length : Int) = n) = false := decide_eq_false hl
        clear hl
        refine Steps.nI_ 10 HT_.out (h := ?_)
        refine Steps.nT_ 10 HT_.out HW_.out hS2 (h := ?_)
        iterate 5 refine Steps.nI_ 10 HT_.out (h := ?_)
        iterate 4 refine Steps.nR_ 10 HT_.out (h := ?_)
        iterate 2 refine Steps.nI_ 10 HT_.out (h := ?_)
        iterate 12 refine Steps.nR_ 10 HT_.out (h := ?_)
        iterate 2 refine Steps.nI_ 10 HT_.out (h := ?_)
        iterate 4 refine Steps.nR_ 10 HT_.out (h := ?_)
        iterate 2 refine Steps.nI_ 10 HT_.out (h := ?_)
        iterate 7 refine Steps.nR_ 10 HT_.out (h := ?_)
        iterate 2 refine Steps.nI_ 10 HT_.out (h := ?_)
        iterate 7 refine Steps.nR_ 10 HT_.out (h := ?_)
        iterate 2 refine Steps.nI_ 10 HT_.out (h := ?_)
        iterate 4 refine Steps.nR_ 10 HT_.out (h := ?_)
        refine Steps.nI_ 10 HT_.out (h := ?_)
        refine done_ (done_of HT_.out z0_) ?_
        go_wp2
        go_meet
        case rel => exact ⟨true, rfl, ⟨by rw [opT_not (fun h => HL.out h.1.2.2.1)]; rfl⟩, ⟨bk2⟩, ⟨hb2⟩⟩
    as_aux_lemma =>
      obtain ⟨hl, p0, q0⟩ := hg
      obtain ⟨ad, he_, hw⟩ := Kd.at_int HR2.out x.f0.f0 p0 q0
      subst he_
      have HL := mk_ hl
      have hb1_ : b1 = true := E1.out.2 ⟨p0, by rw [← hl]; exact q0⟩
      subst hb1_
      have hl_0 : ((x.f1.length : Int) == n) = true := beq_iff_eq.mpr hl
      have hl_1 : ((x.f1.length : Int) != n) = false := bne_eq_false_iff_eq.mpr hl
      have hl_2 : decide ((x.f1.length : Int) = n) = true := decide_eq_true hl
      clear hl
      have p1 := eq_true p0
      have q1 := eq_true q0
      have p2 : decide (0 ≤ x.f0.f0) = true := decide_eq_true p0
      have q2 : decide (x.f0.f0 < (x.f1.length : Int)) = true := decide_eq_true q0
      clear p0 q0
      refine Steps.start_n (n := 71) (S := fun w' => w'.heap[gb]? = some (.cells #[.int .i64 x.f0.f0, .int .i64 x.f0.f1, .slice (some ad) x.f1.length c2, .int .i64 x.f2.f0, .int .i64 x.f2.f1, .int .i64 x.f2.f2, .int .i64 x.f3, .int .i64 x.f4, .string x.f5, .int .i64 x.f6, .slice A10 x.f7.length c10, .slice A11 x.f8.length c11] 32 (0, 0)) ∧ w'.cell? (ad.add (x.f0.f0).toNat) = some (.int .i64 (rd x.f1 x.f0.f0)) ∧ True) (ds := []) (fun W => W.heap[gb]? = some (.cells #[.int .i64 x.f0.f0, .int .i64 x.f0.f1, .slice (some ad) x.f1.length c2, .int .i64 x.f2.f0, .int .i64 x.f2.f1, .int .i64 x.f2.f2, .int .i64 x.f3, .int .i64 x.f4, .string x.f5, .int .i64 x.f6, .slice A10 x.f7.length c10, .slice A11 x.f8.length c11] 32 (0, 0)) ∧ Below w.heap.size w W) z0_ rfl z0_ ⟨blk_drew BK.out, HB.out.drew⟩ (fun W hJ => ?_) (fun W0 hJ hS0 => ?_)
      · obtain ⟨bk0, hb0⟩ := hJ
        exact ⟨bk0, ((hb0.cell (World.block_lt_of_cell? w _ hw)).trans hw), trivial⟩
      obtain ⟨bk0, hb0⟩ := hJ
      refine with_tabW pgtab1 pgbits1 (fun HT_ HW_ => ?_)
      iterate 2 refine Steps.nI_ 10 HT_.out (h := ?_)
      refine Steps.nT_ 10 HT_.out HW_.out hS0 (h := ?_)
      iterate 2 refine Steps.nI_ 10 HT_.out (h := ?_)
      refine one_ (i := 5) (N := some 15) (Steps.Pre 71 6) rfl rfl (one_of HT_.out z0_) z5_ (fun K hK => ?_)
      refine goes_ Try.func27 z0_ rfl #[.int .i64 x.f0.f0, .int .i64 0, .int .i64 (wrap64 (n - 1))] (Steps.want_ (k := 5) rfl z0_) rfl rfl z2_ ?_
      refine (raddleref01_in.calls x.f0.f0 0 (wrap64 (n - 1)) true _ HI1.out).mono ?_
      rintro e W1 ⟨rfl, hq⟩
      have bk1 := blk_below bk0 hq.below
      have hb1 := below_step hb0 hq.below
      refine ⟨_, rfl, ?_⟩
      refine hK.out _ _ ⟨bk1, ((hb1.cell (World.block_lt_of_cell? w _ hw)).trans hw), trivial⟩ (fun hS1 => ?_)
      clear hK K hq hS0 bk0 hb0
      refine norm_ (a' := ?_) ?_ ?_
      rotate_left
      · show Act.put _ (some 15) _ = _
        simp only [Act.put, List.setIfInBounds_toArray, List.set_cons_zero, List.set_cons_succ, i64_w, i32_w]
        rfl
      iterate 4 refine Steps.nI_ 10 HT_.out (h := ?_)
      refine Steps.nT_ 10 HT_.out HW_.out hS1 (h := ?_)
      refine one_ (i := 11) (N := some 21) (Steps.Pre 71 12) rfl rfl (one_of HT_.out z0_) z5_ (fun K hK => ?_)
      refine goes_ Try.func27 z0_ rfl #[.int .i64 x.f0.f1, .int .i64 1, .int .i64 1073741824] (Steps.want_ (k := 11) rfl z0_) rfl rfl z2_ ?_
      refine (raddleref01_in.calls x.f0.f1 1 1073741824 b2 _ HI2.out).mono ?_
      rintro e W2 ⟨rfl, hq⟩
      have bk2 := blk_below bk1 hq.below
      have hb2 := below_step hb1 hq.below
      refine ⟨_, rfl, ?_⟩
      refine hK.out _ _ ⟨bk2, ((hb2.cell (World.block_lt_of_cell? w _ hw)).trans hw), trivial⟩ (fun hS2 => ?_)
      clear hK K hq hS1 bk1 hb1
      refine norm_ (a' := ?_) ?_ ?_
      rotate_left
      · show Act.put _ (some 21) _ = _
        simp only [Act.put, List.setIfInBounds_toArray, List.set_cons_zero, List.set_cons_succ, i64_w, i32_w]
        rfl
      iterate 3 refine Steps.nI_ 10 HT_.out (h := ?_)
      cases b2
      · iterate 5 refine Steps.nR_ 10 HT_.out (h := ?_)
        iterate 2 refine Steps.nI_ 10 HT_.out (h := ?_)
        iterate 4 refine Steps.nR_ 10 HT_.out (h := ?_)
        iterate 2 refine Steps.nI_ 10 HT_.out (h := ?_)
        iterate 12 refine Steps.nR_ 10 HT_.out (h := ?_)
        iterate 2 refine Steps.nI_ 10 HT_.out (h := ?_)
        iterate 4 refine Steps.nR_ 10 HT_.out (h := ?_)
        iterate 2 refine Steps.nI_ 10 HT_.out (h := ?_)
        iterate 7 refine Steps.nR_ 10 HT_.out (h := ?_)
        iterate 2 refine Steps.nI_ 10 HT_.out (h := ?_)
        iterate 7 refine Steps.nR_ 10 HT_.out (h := ?_)
        iterate 2 refine Steps.nI_ 10 HT_.out (h := ?_)
        iterate 4 refine Steps.nR_ 10 HT_.out (h := ?_)
        refine Steps.nI_ 10 HT_.out (h := ?_)
        refine done_ (done_of HT_.out z0_) ?_
        go_wp2
        go_meet
        case rel => exact ⟨true, rfl, ⟨by rw [opT_not (fun h => absurd (E2.out.2 h.1.2.1) z5_)]; rfl⟩, ⟨bk2⟩, ⟨hb2⟩⟩
      refine Steps.nI_ 10 HT_.out (h := ?_)
      refine Steps.nT_ 10 HT_.out HW_.out hS2 (h := ?_)
      iterate 6 refine Steps.nI_ 10 HT_.out (h := ?_)
      refine Steps.nT_ 10 HT_.out HW_.out hS2 (h := ?_)
      refine one_ (i := 24) (N := some 34) (Steps.Pre 71 25) rfl rfl (one_of HT_.out z0_) z5_ (fun K hK => ?_)
      refine goes_ Try.func77 z0_ rfl #[.slice (some ad) x.f1.length c2] (Steps.want_ (k := 24) rfl z0_) rfl rfl z2_ ?_
      refine (raddleref01_Vector.calls 2000 _ _ x.f1 _ _ (C_below HR2.out hb2) HC2.out HV.out).mono ?_
      rintro e W3 ⟨rfl, hq⟩
      have bk3 := blk_below bk2 hq.below
      have hb3 := below_step hb2 hq.below
      refine ⟨_, rfl, ?_⟩
      refine hK.out _ _ ⟨bk3, ((hb3.cell (World.block_lt_of_cell? w _ hw)).trans hw), trivial⟩ (fun hS3 => ?_)
      clear hK K hq hS2 bk2 hb2
      refine norm_ (a' := ?_) ?_ ?_
      rotate_left
      · show Act.put _ (some 34) _ = _
        simp only [Act.put, List.setIfInBounds_toArray, List.set_cons_zero, List.set_cons_succ, i64_w, i32_w]
        rfl
      by_cases hv : vecE x.f1 = 0
      rotate_left
      · have hv_n := mk_ hv
        have hv0 : (vecE x.f1 == 0) = false := beq_eq_false_iff_ne.mpr hv
        have hv1 : (vecE x.f1 != 0) = true := bne_iff_ne.mpr hv
        have hv2 : decide (vecE x.f1 = 0) = false := decide_eq_false hv
        clear hv
        iterate 3 refine Steps.nI_ 10 HT_.out (h := ?_)
        iterate 12 refine Steps.nR_ 10 HT_.out (h := ?_)
        iterate 2 refine Steps.nI_ 10 HT_.out (h := ?_)
        iterate 4 refine Steps.nR_ 10 HT_.out (h := ?_)
        iterate 2 refine Steps.nI_ 10 HT_.out (h := ?_)
        iterate 7 refine Steps.nR_ 10 HT_.out (h := ?_)
        iterate 2 refine Steps.nI_ 10 HT_.out (h := ?_)
        iterate 7 refine Steps.nR_ 10 HT_.out (h := ?_)
        iterate 2 refine Steps.nI_ 10 HT_.out (h := ?_)
        iterate 4 refine Steps.nR_ 10 HT_.out (h := ?_)
        refine Steps.nI_ 10 HT_.out (h := ?_)
        refine done_ (done_of HT_.out z0_) ?_
        go_wp2
        go_meet
        case rel => exact ⟨true, rfl, ⟨by rw [opT_not (fun h => hv_n.out h.1.2.2.2.1)]; rfl⟩, ⟨bk3⟩, ⟨hb3⟩⟩
      have hv_y := mk_ hv
      have hv0 : (vecE x.f1 == 0) = true := beq_iff_eq.mpr hv
      have hv1 : (vecE x.f1 != 0) = false := bne_eq_false_iff_eq.mpr hv
      have hv2 : decide (vecE x.f1 = 0) = true := decide_eq_true hv
      clear hv
      by_cases hq : rd x.f1 x.f0.f0 = wrap64 (x.f0.f1 - 1)
      rotate_left
      · have hq_n := mk_ hq
        have hq0 : (rd x.f1 x.f0.f0 == wrap64 (x.f0.f1 - 1)) = false := beq_eq_false_iff_ne.mpr hq
        have hq1 : (rd x.f1 x.f0.f0 != wrap64 (x.f0.f1 - 1)) = true := bne_iff_ne.mpr hq
        have hq2 : decide (rd x.f1 x.f0.f0 = wrap64 (x.f0.f1 - 1)) = false := decide_eq_false hq
        clear hq
        iterate 4 refine Steps.nI_ 10 HT_.out (h := ?_)
        refine Steps.nT_ 10 HT_.out HW_.out hS3 (h := ?_)
        iterate 2 refine Steps.nI_ 10 HT_.out (h := ?_)
        refine Steps.nT_ 10 HT_.out HW_.out hS3 (h := ?_)
        refine Steps.nI_ 10 HT_.out (h := ?_)
        refine Steps.nT_ 10 HT_.out HW_.out hS3 (h := ?_)
        iterate 2 refine Steps.nI_ 10 HT_.out (h := ?_)
        refine Steps.nT_ 10 HT_.out HW_.out hS3 (h := ?_)
        iterate 4 refine Steps.nI_ 10 HT_.out (h := ?_)
        iterate 4 refine Steps.nR_ 10 HT_.out (h := ?_)
        iterate 2 refine Steps.nI_ 10 HT_.out (h := ?_)
        iterate 7 refine Steps.nR_ 10 HT_.out (h := ?_)
        iterate 2 refine Steps.nI_ 10 HT_.out (h := ?_)
        iterate 7 refine Steps.nR_ 10 HT_.out (h := ?_)
        iterate 2 refine Steps.nI_ 10 HT_.out (h := ?_)
        iterate 4 refine Steps.nR_ 10 HT_.out (h := ?_)
        refine Steps.nI_ 10 HT_.out (h := ?_)
        refine done_ (done_of HT_.out z0_) ?_
        go_wp2
        go_meet
        case rel => exact ⟨true, rfl, ⟨by rw [opT_not (fun h => hq_n.out (by rw [w64 (by have := E2.out.1 (by simp); omega) (by have := E2.out.1 (by simp); omega)]; exact h.1.2.2.2.2.1))]; rfl⟩, ⟨bk3⟩, ⟨hb3⟩⟩
      have hq_y := mk_ hq
      have hq0 : (rd x.f1 x.f0.f0 == wrap64 (x.f0.f1 - 1)) = true := beq_iff_eq.mpr hq
      have hq1 : (rd x.f1 x.f0.f0 != wrap64 (x.f0.f1 - 1)) = false := bne_eq_false_iff_eq.mpr hq
      have hq2 : decide (rd x.f1 x.f0.f0 = wrap64 (x.f0.f1 - 1)) = true := decide_eq_true hq
      clear hq
      iterate 4 refine Steps.nI_ 10 HT_.out (h := ?_)
      refine Steps.nT_ 10 HT_.out HW_.out hS3 (h := ?_)
      iterate 2 refine Steps.nI_ 10 HT_.out (h := ?_)
      refine Steps.nT_ 10 HT_.out HW_.out hS3 (h := ?_)
      refine Steps.nI_ 10 HT_.out (h := ?_)
      refine Steps.nT_ 10 HT_.out HW_.out hS3 (h := ?_)
      iterate 2 refine Steps.nI_ 10 HT_.out (h := ?_)
      refine Steps.nT_ 10 HT_.out HW_.out hS3 (h := ?_)
      iterate 5 refine Steps.nI_ 10 HT_.out (h := ?_)
      refine Steps.nT_ 10 HT_.out HW_.out hS3 (h := ?_)
      refine one_ (i := 44) (N := some 54) (Steps.Pre 71 45) rfl rfl (one_of HT_.out z0_) z5_ (fun K hK => ?_)
      refine goes_ Try.func78 z0_ rfl #[.agg #[.int .i64 x.f2.f0, .int .i64 x.f2.f1, .int .i64 x.f2.f2]] (Steps.want_ (k := 44) rfl z0_) rfl rfl z2_ ?_
      refine (raddleref01_Stamp.calls x.f2.f0 x.f2.f1 x.f2.f2 b6 _ HS.out).mono ?_
      rintro e W4 ⟨rfl, hq⟩
      have bk4 := blk_below bk3 hq
      have hb4 := below_step hb3 hq
      refine ⟨_, rfl, ?_⟩
      refine hK.out _ _ ⟨bk4, ((hb4.cell (World.block_lt_of_cell? w _ hw)).trans hw), trivial⟩ (fun hS4 => ?_)
      clear hK K hq hS3 bk3 hb3
      refine norm_ (a' := ?_) ?_ ?_
      rotate_left
      · show Act.put _ (some 54) _ = _
        simp only [Act.put, List.setIfInBounds_toArray, List.set_cons_zero, List.set_cons_succ, i64_w, i32_w]
        rfl
      iterate 3 refine Steps.nI_ 10 HT_.out (h := ?_)
      cases b6
      · iterate 7 refine Steps.nR_ 10 HT_.out (h := ?_)
        iterate 2 refine Steps.nI_ 10 HT_.out (h := ?_)
        iterate 7 refine Steps.nR_ 10 HT_.out (h := ?_)
        iterate 2 refine Steps.nI_ 10 HT_.out (h := ?_)
        iterate 4 refine Steps.nR_ 10 HT_.out (h := ?_)
        refine Steps.nI_ 10 HT_.out (h := ?_)
        refine done_ (done_of HT_.out z0_) ?_
        go_wp2
        go_meet
        case rel => exact ⟨true, rfl, ⟨by rw [opT_not (fun h => absurd (E6.out.2 h.1.2.2.2.2.2.1) z5_)]; rfl⟩, ⟨bk4⟩, ⟨hb4⟩⟩
      by_cases hp : x.f2.f2 = x.f0.f0
      rotate_left
      · have hp_n := mk_ hp
        have hp0 : (x.f2.f2 == x.f0.f0) = false := beq_eq_false_iff_ne.mpr hp
        have hp1 : (x.f2.f2 != x.f0.f0) = true := bne_iff_ne.mpr hp
        have hp2 : decide (x.f2.f2 = x.f0.f0) = false := decide_eq_false hp
        clear hp
        iterate 2 refine Steps.nI_ 10 HT_.out (h := ?_)
        refine Steps.nT_ 10 HT_.out HW_.out hS4 (h := ?_)
        iterate 2 refine Steps.nI_ 10 HT_.out (h := ?_)
        refine Steps.nT_ 10 HT_.out HW_.out hS4 (h := ?_)
        iterate 3 refine Steps.nI_ 10 HT_.out (h := ?_)
        iterate 7 refine Steps.nR_ 10 HT_.out (h := ?_)
        iterate 2 refine Steps.nI_ 10 HT_.out (h := ?_)
        iterate 4 refine Steps.nR_ 10 HT_.out (h := ?_)
        refine Steps.nI_ 10 HT_.out (h := ?_)
        refine done_ (done_of HT_.out z0_) ?_
        go_wp2
        go_meet
        case rel => exact ⟨true, rfl, ⟨by rw [opT_not (fun h => hp_n.out h.1.2.2.2.2.2.2)]; rfl⟩, ⟨bk4⟩, ⟨hb4⟩⟩
      have hp_y := mk_ hp
      have hp0 : (x.f2.f2 == x.f0.f0) = true := beq_iff_eq.mpr hp
      have hp1 : (x.f2.f2 != x.f0.f0) = false := bne_eq_false_iff_eq.mpr hp
      have hp2 : decide (x.f2.f2 = x.f0.f0) = true := decide_eq_true hp
      clear hp
      iterate 2 refine Steps.nI_ 10 HT_.out (h := ?_)
      refine Steps.nT_ 10 HT_.out HW_.out hS4 (h := ?_)
      iterate 2 refine Steps.nI_ 10 HT_.out (h := ?_)
      refine Steps.nT_ 10 HT_.out HW_.out hS4 (h := ?_)
      iterate 4 refine Steps.nI_ 10 HT_.out (h := ?_)
      refine Steps.nT_ 10 HT_.out HW_.out hS4 (h := ?_)
      iterate 3 refine Steps.nI_ 10 HT_.out (h := ?_)
      refine one_ (i := 62) (N := some 72) (Steps.Pre 71 63) rfl rfl (one_of HT_.out z0_) z5_ (fun K hK => ?_)
      refine goes_ Try.func27 z0_ rfl #[.int .i64 x.f4, .int .i64 0, .int .i64 (wrap64 ((f.length : Int) - 1))] (Steps.want_ (k := 62) rfl z0_) rfl rfl z2_ ?_
      refine (raddleref01_in.calls x.f4 0 (wrap64 ((f.length : Int) - 1)) b8 _ HI8.out).mono ?_
      rintro e W5 ⟨rfl, hq⟩
      have bk5 := blk_below bk4 hq.below
      have hb5 := below_step hb4 hq.below
      refine ⟨_, rfl, ?_⟩
      refine hK.out _ _ ⟨bk5, ((hb5.cell (World.block_lt_of_cell? w _ hw)).trans hw), trivial⟩ (fun hS5 => ?_)
      clear hK K hq hS4 bk4 hb4
      refine norm_ (a' := ?_) ?_ ?_
      rotate_left
      · show Act.put _ (some 72) _ = _
        simp only [Act.put, List.setIfInBounds_toArray, List.set_cons_zero, List.set_cons_succ, i64_w, i32_w]
        rfl
      iterate 3 refine Steps.nI_ 10 HT_.out (h := ?_)
      cases b8
      · iterate 4 refine Steps.nR_ 10 HT_.out (h := ?_)
        refine Steps.nI_ 10 HT_.out (h := ?_)
        refine done_ (done_of HT_.out z0_) ?_
        go_wp2
        go_meet
        case rel => exact ⟨true, rfl, ⟨by rw [opT_not (fun h => absurd (E8.out.2 h.2.1) z5_)]; rfl⟩, ⟨bk5⟩, ⟨hb5⟩⟩
      refine Steps.nI_ 10 HT_.out (h := ?_)
      refine Steps.nT_ 10 HT_.out HW_.out hS5 (h := ?_)
      refine one_ (i := 68) (N := some 78) (Steps.Pre 71 69) rfl rfl (one_of HT_.out z0_) z5_ (fun K hK => ?_)
      refine goes_ Try.func79 z0_ rfl #[.string x.f5] (Steps.want_ (k := 68) rfl z0_) rfl rfl z2_ ?_
      refine (raddleref01_Key.calls x.f5 b9 _ HK.out).mono ?_
      rintro e W6 ⟨rfl, hq⟩
      have bk6 := blk_below bk5 hq.below
      have hb6 := below_step hb5 hq.below
      refine ⟨_, rfl, ?_⟩
      refine hK.out _ _ ⟨bk6, ((hb6.cell (World.block_lt_of_cell? w _ hw)).trans hw), trivial⟩ (fun hS6 => ?_)
      clear hK K hq hS5 bk5 hb5
      refine norm_ (a' := ?_) ?_ ?_
      rotate_left
      · show Act.put _ (some 78) _ = _
        simp only [Act.put, List.setIfInBounds_toArray, List.set_cons_zero, List.set_cons_succ, i64_w, i32_w]
        rfl
      iterate 2 refine Steps.nI_ 10 HT_.out (h := ?_)
      refine done_ (done_of HT_.out z0_) ?_
      go_wp2
      go_meet
      case rel => exact ⟨!b9, by first | rfl | (simp; done), ⟨by
            have hq2 : rd x.f1 x.f0.f0 = x.f0.f1 - 1 := by rw [hq_y.out, w64 (by have := E2.out.1 (by simp); omega) (by have := E2.out.1 (by simp); omega)]
            unfold opT; rw [decide_eq_true (show wholeP n x from ⟨E1.out.1 (by simp), E2.out.1 (by simp), HL.out, hv_y.out, hq2, E6.out.1 (by simp), hp_y.out⟩), decide_eq_true (E8.out.1 (by simp)), E9.out]; rfl⟩, ⟨bk6⟩, ⟨hb6⟩⟩
  case rest => as_aux_lemma =>
  obtain ⟨b, rfl, HA, BK, HB⟩ := hcut
  cases b with
  | true =>
    have ht : opT n f x = false := by
      have := HA.out
      cases h : opT n f x
      · rfl
      · rw [h] at this; cases this
    go_wp2
    go_ret
    rw [show res = false from by rw [HR0.out, ht]; rfl]
    exact ⟨rfl, HB.out⟩
  | false =>
    have ht : opT n f x = true := by
      have := HA.out
      cases h : opT n f x
      · rw [h] at this; cases this
      · rfl
    obtain ⟨hwh, ⟨p0, q0⟩, hky⟩ := opT_yes ht
    have hrk : res = kindB (colsOf f x) x := by rw [HR0.out, ht]; rfl
    clear HR0
    obtain ⟨ad0, A0, c0, he_, hx0, hl0, hi0⟩ := at_T51 HR1.out x.f4 p0 q0
    have hc : (colsOf f x).length ≤ 1000 := by
      obtain ⟨i, hi⟩ := Int.eq_ofNat_of_zero_le p0
      unfold colsOf
      rw [hi]
      show (f.getD ((i : Int).toNat) _).f0.length ≤ _
      rw [Int.toNat_natCast, List.getD_eq_getElem?_getD, List.getElem?_eq_getElem (show i < f.length by omega)]
      exact HN.out.2.2.2 _ (List.getElem_mem _)
    replace hx0 : w.cell? (ad0.add (x.f4).toNat) = some (.slice A0 (colsOf f x).length c0) := hx0
    replace hl0 : (colsOf f x).length ≤ c0 := hl0
    replace hi0 : (Kd.int .i64).C w A0 (colsOf f x).length (colsOf f x) := hi0
    replace hx0 := up_ HB hx0
    generalize colsOf f x = c at hc hx0 hl0 hi0 hrk
    have HRK := mk_ hrk
    clear hrk
    subst he_
    have HRC := mk_ hi0
    have HCC := mk_ hl0
    have HLC := mk_ hc
    have p1 := eq_true p0
    have q1 := eq_true q0
    have p2 : decide (0 ≤ x.f4) = true := decide_eq_true p0
    have q2 : decide (x.f4 < (f.length : Int)) = true := decide_eq_true q0
    clear hi0 hl0 hc p0 q0 hwh hky ht HA
    have kb := blk_cell BK.out
    by_cases k1 : x.f3 = 1
    · as_aux_lemma =>
      have HRS := mk_ (show res = (smallB x.f7 c && decide (x.f6 = 0) && decide (x.f8.length = 0)) by rw [HRK.out]; unfold kindB; rw [if_pos k1])
      clear HRK
      have k1_0 : (x.f3 == 1) = true := beq_iff_eq.mpr k1
      have k1_1 : (x.f3 != 1) = false := bne_eq_false_iff_eq.mpr k1
      have k1_2 : decide (x.f3 = 1) = true := decide_eq_true k1
      clear k1
      by_cases h1 : (x.f7.length : Int) = (c.length : Int)
      rotate_left
      · have h1_n := mk_ h1
        have h1_0 : ((x.f7.length : Int) == (c.length : Int)) = false := beq_eq_false_iff_ne.mpr h1
        have h1_1 : ((x.f7.length : Int) != (c.length : Int)) = true := bne_iff_ne.mpr h1
        have h1_2 : decide ((x.f7.length : Int) = (c.length : Int)) = false := decide_eq_false h1
        clear h1
        go_wp2
        go_ret
        rw [show res = false from by rw [HRS.out, small_ne (fun h => h1_n.out (by rw [h]))]; rfl]
        exact ⟨rfl, HB.out⟩
      have h1_y := mk_ h1
      have h1_0 : ((x.f7.length : Int) == (c.length : Int)) = true := beq_iff_eq.mpr h1
      have h1_1 : ((x.f7.length : Int) != (c.length : Int)) = false := bne_eq_false_iff_eq.mpr h1
      have h1_2 : decide ((x.f7.length : Int) = (c.length : Int)) = true := decide_eq_true h1
      clear h1
      by_cases h2 : x.f6 = 0
      rotate_left
      · have h2_n := mk_ h2
        have h2_0 : (x.f6 == 0) = false := beq_eq_false_iff_ne.mpr h2
        have h2_1 : (x.f6 != 0) = true := bne_iff_ne.mpr h2
        have h2_2 : decide (x.f6 = 0) = false := decide_eq_false h2
        clear h2
        go_wp2
        go_ret
        rw [show res = false from by rw [HRS.out, decide_eq_false h2_n.out, Bool.and_false]; rfl]
        exact ⟨rfl, HB.out⟩
      have h2_y := mk_ h2
      have h2_0 : (x.f6 == 0) = true := beq_iff_eq.mpr h2
      have h2_1 : (x.f6 != 0) = false := bne_eq_false_iff_eq.mpr h2
      have h2_2 : decide (x.f6 = 0) = true := decide_eq_true h2
      clear h2
      by_cases h3 : 0 < (x.f8.length : Int)
      · have h3_n := mk_ h3
        have h3_0 : decide (0 < (x.f8.length : Int)) = true := decide_eq_true h3
        have h3_1 : decide (0 < x.f8.length) = true := decide_eq_true z3_
        clear h3
        go_wp2
        go_ret
        rw [show res = false from by rw [HRS.out, decide_eq_false (show ¬ x.f8.length = 0 by have := h3_n.out; omega), Bool.and_false]]
        exact ⟨rfl, HB.out⟩
      have h3_y := mk_ h3
      have h3_0 : decide (0 < (x.f8.length : Int)) = false := decide_eq_false h3
      have h3_1 : decide (0 < x.f8.length) = false := decide_eq_false z3_
      clear h3
      have HQ0 := mk_ (show res = sfG (x.f7.drop 0) (c.drop 0) by rw [HRS.out, decide_eq_true h2_y.out, decide_eq_true (show x.f8.length = 0 by have := h3_y.out; omega), Bool.and_true, Bool.and_true, small_sf (by have := h1_y.out; omega)]; rfl)
      go_wp2
      clear HRS h2_y h3_y h2_0 h2_1 h2_2 h3_0 h3_1
      go_loopg [8] (c.length + 1) (fun kq v8 W' => ∃ (i : Nat) (z : Int), v8 = .int .i64 z ∧ Aside0 (z = (i : Int) ∧ kq + i = c.length + 1 ∧ i ≤ c.length) ∧ Aside0 (res = sfG (x.f7.drop i) (c.drop i)) ∧ Aside0 (W'.heap[gb]? = some (.cells #[.int .i64 x.f0.f0, .int .i64 x.f0.f1, .slice A2 x.f1.length c2, .int .i64 x.f2.f0, .int .i64 x.f2.f1, .int .i64 x.f2.f2, .int .i64 x.f3, .int .i64 x.f4, .string x.f5, .int .i64 x.f6, .slice A10 x.f7.length c10, .slice A11 x.f8.length c11] 32 (0, 0))) ∧ Aside0 (Below w.heap.size w W'))
      case atStart => exact ⟨0, 0, rfl, ⟨by omega⟩, ⟨HQ0.out⟩, ⟨BK.out⟩, ⟨HB.out⟩⟩
      case round =>
        clear HQ0 BK HB kb hx0
        obtain ⟨i, z, rfl, HK, HQ, BK, HB⟩ := hrel
        have hz := HK.out.1
        obtain ⟨kk, rfl⟩ : ∃ kk, gk = kk + 1 := ⟨gk - 1, by have := HK.out; omega⟩
        by_cases hi : z < (c.length : Int)
        rotate_left
        · have hi0 : decide (z < (c.length : Int)) = false := decide_eq_false hi
          have hr : res = true := by rw [HQ.out, List.drop_eq_nil_of_le (show c.length ≤ i by omega)]; exact sf_nil _
          clear hi HQ hz
          go_wp2
          go_ret
          rw [hr]
          exact ⟨rfl, HB.out⟩
        have hiv : z < (x.f7.length : Int) := by rw [h1_y.out]; exact hi
        have hst := sf_step (l := x.f7) (c := c) (i := i) z3_ z3_
        rw [← hz] at hst
        have HST := mk_ hst
        clear hst
        obtain ⟨ad, hea, hv0, hv1, hv2⟩ := at_T84 HR10.out z z3_ hiv
        obtain ⟨ac, hec, hcw⟩ := Kd.at_int HRC.out z z3_ hi
        subst hea
        subst hec
        have p0 : (0 ≤ z) = True := eq_true z3_
        have p1 : decide (0 ≤ z) = true := decide_eq_true z3_
        have q0 := eq_true hiv
        have q1 : decide (z < (x.f7.length : Int)) = true := decide_eq_true hiv
        have q2 := eq_true hi
        have q3 : decide (z < (c.length : Int)) = true := decide_eq_true hi
        have HI := mk_ hi
        clear hi hiv hz
        obtain ⟨b4, e4⟩ : ∃ b, smallV (rd_T84 x.f7 z) = b := ⟨_, rfl⟩
        obtain ⟨b5, e5⟩ : ∃ b, fitV (rd_T84 x.f7 z) (rd c z) = b := ⟨_, rfl⟩
        have HF4 := mk_ (show raddleref01_Small.f (rd_T84 x.f7 z).f0 (rd_T84 x.f7 z).f1 (rd_T84 x.f7 z).f2 = some b4 by rw [rsmall_eq, ← e4]; rfl)
        have HF5 := mk_ (show raddleref01_Fits.f (rd_T84 x.f7 z).f0 (rd_T84 x.f7 z).f1 (rd_T84 x.f7 z).f2 (rd c z) = some b5 by rw [rfits_eq, ← e5]; rfl)
        rw [e4, e5] at HST
        clear e4 e5
        try go_wp2
        refine Steps.start_n (n := 20) (S := fun w' => w'.heap[gb]? = some (.cells #[.int .i64 x.f0.f0, .int .i64 x.f0.f1, .slice A2 x.f1.length c2, .int .i64 x.f2.f0, .int .i64 x.f2.f1, .int .i64 x.f2.f2, .int .i64 x.f3, .int .i64 x.f4, .string x.f5, .int .i64 x.f6, .slice (some ad) x.f7.length c10, .slice A11 x.f8.length c11] 32 (0, 0)) ∧ w'.cell? (ad.add ((z).toNat * 3)) = some (.int .i64 (rd_T84 x.f7 z).f0) ∧ w'.cell? ⟨(ad.add ((z).toNat * 3)).block, (ad.add ((z).toNat * 3)).off + 1, none⟩ = some (.int .i64 (rd_T84 x.f7 z).f1) ∧ w'.cell? ⟨(ad.add ((z).toNat * 3)).block, (ad.add ((z).toNat * 3)).off + 2, none⟩ = some (.string (rd_T84 x.f7 z).f2) ∧ w'.cell? (ac.add (z).toNat) = some (.int .i64 (rd c z)) ∧ True) (ds := []) (fun W => W.heap[gb]? = some (.cells #[.int .i64 x.f0.f0, .int .i64 x.f0.f1, .slice A2 x.f1.length c2, .int .i64 x.f2.f0, .int .i64 x.f2.f1, .int .i64 x.f2.f2, .int .i64 x.f3, .int .i64 x.f4, .string x.f5, .int .i64 x.f6, .slice (some ad) x.f7.length c10, .slice A11 x.f8.length c11] 32 (0, 0)) ∧ Below w.heap.size w W) z0_ rfl z0_ ⟨blk_drew BK.out, HB.out.drew⟩ (fun W hJ => ?_) (fun W0 hJ hS0 => ?_)
        · obtain ⟨bk0, hb0⟩ := hJ
          exact ⟨bk0, ((hb0.cell (World.block_lt_of_cell? w _ hv0)).trans hv0), ((hb0.cell (World.block_lt_of_cell? w _ hv1)).trans hv1), ((hb0.cell (World.block_lt_of_cell? w _ hv2)).trans hv2), ((hb0.cell (World.block_lt_of_cell? w _ hcw)).trans hcw), trivial⟩
        obtain ⟨bk0, hb0⟩ := hJ
        refine with_tabW pgtab11 pgbits11 (fun HT_ HW_ => ?_)
        refine Steps.nI_ 114 HT_.out (h := ?_)
        refine Steps.nT_ 114 HT_.out HW_.out hS0 (h := ?_)
        iterate 2 refine Steps.nI_ 114 HT_.out (h := ?_)
        refine Steps.nT_ 114 HT_.out HW_.out hS0 (h := ?_)
        refine one_ (i := 5) (N := some 119) (Steps.Pre 20 6) rfl rfl (one_of HT_.out z0_) z5_ (fun K hK => ?_)
        refine goes_ Try.func80 z0_ rfl #[.agg #[.int .i64 (rd_T84 x.f7 z).f0, .int .i64 (rd_T84 x.f7 z).f1, .string (rd_T84 x.f7 z).f2]] (Steps.want_ (k := 5) rfl z0_) rfl rfl z2_ ?_
        refine (raddleref01_Small.calls _ _ _ b4 _ HF4.out).mono ?_
        rintro e W1 ⟨rfl, hq⟩
        have bk1 := blk_below bk0 hq
        have hb1 := below_step hb0 hq
        refine ⟨_, rfl, ?_⟩
        refine hK.out _ _ ⟨bk1, ((hb1.cell (World.block_lt_of_cell? w _ hv0)).trans hv0), ((hb1.cell (World.block_lt_of_cell? w _ hv1)).trans hv1), ((hb1.cell (World.block_lt_of_cell? w _ hv2)).trans hv2), ((hb1.cell (World.block_lt_of_cell? w _ hcw)).trans hcw), trivial⟩ (fun hS1 => ?_)
        clear hK K hq hS0 bk0 hb0
        refine norm_ (a' := ?_) ?_ ?_
        rotate_left
        · show Act.put _ (some 119) _ = _
          simp only [Act.put, List.setIfInBounds_toArray, List.set_cons_zero, List.set_cons_succ, i64_w, i32_w]
          rfl
        iterate 2 refine Steps.nI_ 114 HT_.out (h := ?_)
        cases b4
        · iterate 11 refine Steps.nR_ 114 HT_.out (h := ?_)
          refine Steps.nI_ 114 HT_.out (h := ?_)
          refine done_ (done_of HT_.out z0_) ?_
          go_wp2
          go_ret
          rw [show res = false from by rw [HQ.out, HST.out]; rfl]
          exact ⟨rfl, hb1⟩
        refine Steps.nI_ 114 HT_.out (h := ?_)
        refine Steps.nT_ 114 HT_.out HW_.out hS1 (h := ?_)
        iterate 2 refine Steps.nI_ 114 HT_.out (h := ?_)
        refine Steps.nT_ 114 HT_.out HW_.out hS1 (h := ?_)
        iterate 3 refine Steps.nI_ 114 HT_.out (h := ?_)
        refine Steps.nT_ 114 HT_.out HW_.out hS1 (h := ?_)
        refine one_ (i := 17) (N := some 131) (Steps.Pre 20 18) rfl rfl (one_of HT_.out z0_) z5_ (fun K hK => ?_)
        refine goes_ Try.func81 z0_ rfl #[.agg #[.int .i64 (rd_T84 x.f7 z).f0, .int .i64 (rd_T84 x.f7 z).f1, .string (rd_T84 x.f7 z).f2], .int .i64 (rd c z)] (Steps.want_ (k := 17) rfl z0_) rfl rfl z2_ ?_
        refine (raddleref01_Fits.calls _ _ _ _ b5 _ HF5.out).mono ?_
        rintro e W2 ⟨rfl, hq⟩
        have bk2 := blk_below bk1 hq
        have hb2 := below_step hb1 hq
        refine ⟨_, rfl, ?_⟩
        refine hK.out _ _ ⟨bk2, ((hb2.cell (World.block_lt_of_cell? w _ hv0)).trans hv0), ((hb2.cell (World.block_lt_of_cell? w _ hv1)).trans hv1), ((hb2.cell (World.block_lt_of_cell? w _ hv2)).trans hv2), ((hb2.cell (World.block_lt_of_cell? w _ hcw)).trans hcw), trivial⟩ (fun hS2 => ?_)
        clear hK K hq hS1 bk1 hb1
        refine norm_ (a' := ?_) ?_ ?_
        rotate_left
        · show Act.put _ (some 131) _ = _
          simp only [Act.put, List.setIfInBounds_toArray, List.set_cons_zero, List.set_cons_succ, i64_w, i32_w]
          rfl
        cases b5
        · iterate 2 refine Steps.nI_ 114 HT_.out (h := ?_)
          refine done_ (done_of HT_.out z0_) ?_
          go_wp2
          go_ret
          rw [show res = false from by rw [HQ.out, HST.out]; rfl]
          exact ⟨rfl, hb2⟩
        iterate 2 refine Steps.nI_ 114 HT_.out (h := ?_)
        refine done_ (done_of HT_.out z0_) ?_
        go_wp2
        go_roundg kk
        case measure => exact Nat.lt_succ_self _
        case rel => exact ⟨i + 1, _, rfl, ⟨by have := HK.out; have := HI.out; have := HLC.out; rw [w64 z3_ z3_]; omega⟩, ⟨by rw [HQ.out, HST.out]; rfl⟩, ⟨bk2⟩, ⟨hb2⟩⟩
    have HK1 := mk_ k1
    have k1_0 : (x.f3 == 1) = false := beq_eq_false_iff_ne.mpr k1
    have k1_1 : (x.f3 != 1) = true := bne_iff_ne.mpr k1
    have k1_2 : decide (x.f3 = 1) = false := decide_eq_false k1
    clear k1
    by_cases k2 : x.f3 = 2
    · as_aux_lemma =>
        have HRS := mk_ (show res = (decide (0 ≤ x.f6 ∧ x.f6 < c.length) && smallB x.f7 [rd c x.f6] && decide (x.f8.length = 0)) by rw [HRK.out]; unfold kindB; rw [if_neg HK1.out, if_pos k2])
        clear HRK
        have k2_0 : (x.f3 == 2) = true := beq_iff_eq.mpr k2
        have k2_1 : (x.f3 != 2) = false := bne_eq_false_iff_eq.mpr k2
        have k2_2 : decide (x.f3 = 2) = true := decide_eq_true k2
        clear k2
        have hwc : wrap64 ((c.length : Int) - 1) = (c.length : Int) - 1 := w64 z3_ (by have := HLC.out; omega)
        obtain ⟨b3, e3⟩ : ∃ b, decide (0 ≤ x.f6 ∧ x.f6 ≤ (c.length : Int) - 1) = b := ⟨_, rfl⟩
        have HF3 := mk_ (show raddleref01_in.f x.f6 0 (wrap64 ((c.length : Int) - 1)) = some b3 by rw [rin_eq, hwc, e3])
        have E3 : Aside0 (b3 = true ↔ 0 ≤ x.f6 ∧ x.f6 < (c.length : Int)) := ⟨by rw [← e3, decide_eq_true_eq]; omega⟩
        clear e3 hwc
        by_cases hg : (0 ≤ x.f6 ∧ x.f6 < (c.length : Int)) ∧ x.f7.length = 1
        rotate_left
        · have HG := mk_ hg
          clear hg
          try go_wp2
          refine Steps.start_n (n := 38) (S := fun w' => w'.heap[gb]? = some (.cells #[.int .i64 x.f0.f0, .int .i64 x.f0.f1, .slice A2 x.f1.length c2, .int .i64 x.f2.f0, .int .i64 x.f2.f1, .int .i64 x.f2.f2, .int .i64 x.f3, .int .i64 x.f4, .string x.f5, .int .i64 x.f6, .slice A10 x.f7.length c10, .slice A11 x.f8.length c11] 32 (0, 0)) ∧ True) (ds := []) (fun W => W.heap[gb]? = some (.cells #[.int .i64 x.f0.f0, .int .i64 x.f0.f1, .slice A2 x.f1.length c2, .int .i64 x.f2.f0, .int .i64 x.f2.f1, .int .i64 x.f2.f2, .int .i64 x.f3, .int .i64 x.f4, .string x.f5, .int .i64 x.f6, .slice A10 x.f7.length c10, .slice A11 x.f8.length c11] 32 (0, 0)) ∧ Below w.heap.size w W) z0_ rfl z0_ ⟨blk_drew BK.out, HB.out.drew⟩ (fun W hJ => ?_) (fun W0 hJ hS0 => ?_)
          · obtain ⟨bk0, hb0⟩ := hJ
            exact ⟨bk0, trivial⟩
          obtain ⟨bk0, hb0⟩ := hJ
          refine with_tabW pgtab15 pgbits15 (fun HT_ HW_ => ?_)
          refine Steps.nI_ 136 HT_.out (h := ?_)
          refine Steps.nT_ 136 HT_.out HW_.out hS0 (h := ?_)
          iterate 3 refine Steps.nI_ 136 HT_.out (h := ?_)
          refine one_ (i := 5) (N := some 141) (Steps.Pre 38 6) rfl rfl (one_of HT_.out z0_) z5_ (fun K hK => ?_)
          refine goes_ Try.func27 z0_ rfl #[.int .i64 x.f6, .int .i64 0, .int .i64 (wrap64 ((c.length : Int) - 1))] (Steps.want_ (k := 5) rfl z0_) rfl rfl z2_ ?_
          refine (raddleref01_in.calls x.f6 0 (wrap64 ((c.length : Int) - 1)) b3 _ HF3.out).mono ?_
          rintro e W1 ⟨rfl, hq⟩
          have bk1 := blk_below bk0 hq.below
          have hb1 := below_step hb0 hq.below
          refine ⟨_, rfl, ?_⟩
          refine hK.out _ _ ⟨bk1, trivial⟩ (fun hS1 => ?_)
          clear hK K hq hS0 bk0 hb0
          refine norm_ (a' := ?_) ?_ ?_
          rotate_left
          · show Act.put _ (some 141) _ = _
            simp only [Act.put, List.setIfInBounds_toArray, List.set_cons_zero, List.set_cons_succ, i64_w, i32_w]
            rfl
          refine Steps.nI_ 136 HT_.out (h := ?_)
          cases b3
          · iterate 4 refine Steps.nR_ 136 HT_.out (h := ?_)
            iterate 2 refine Steps.nI_ 136 HT_.out (h := ?_)
            iterate 5 refine Steps.nR_ 136 HT_.out (h := ?_)
            iterate 2 refine Steps.nI_ 136 HT_.out (h := ?_)
            iterate 10 refine Steps.nR_ 136 HT_.out (h := ?_)
            iterate 2 refine Steps.nI_ 136 HT_.out (h := ?_)
            iterate 4 refine Steps.nR_ 136 HT_.out (h := ?_)
            refine Steps.nI_ 136 HT_.out (h := ?_)
            refine Steps.pI_ 37 (some 6) (Steps.Pre 38 38) (any_of HT_.out z0_) (h := ?_)
            refine done_ (done_of HT_.out z0_) ?_
            go_wp2
            go_ret
            rw [show res = false from by rw [HRS.out, decide_eq_false (fun h => absurd (E3.out.2 h) z5_)]; rfl]
            exact ⟨rfl, hb1⟩
          have hl : ¬ (x.f7.length : Int) = 1 := fun h => HG.out ⟨E3.out.1 (by simp), by omega⟩
          have HL := mk_ hl
          have hl_0 : ((x.f7.length : Int) == 1) = false := beq_eq_false_iff_ne.mpr hl
          have hl_1 : ((x.f7.length : Int) != 1) = true := bne_iff_ne.mpr hl
          have hl_2 : decide ((x.f7.length : Int) = 1) = false := decide_eq_false hl
          clear hl
          refine Steps.nI_ 136 HT_.out (h := ?_)
          refine Steps.nT_ 136 HT_.out HW_.out hS1 (h := ?_)
          iterate 4 refine Steps.nI_ 136 HT_.out (h := ?_)
          iterate 5 refine Steps.nR_ 136 HT_.out (h := ?_)
          iterate 2 refine Steps.nI_ 136 HT_.out (h := ?_)
          iterate 10 refine Steps.nR_ 136 HT_.out (h := ?_)
          iterate 2 refine Steps.nI_ 136 HT_.out (h := ?_)
          iterate 4 refine Steps.nR_ 136 HT_.out (h := ?_)
          refine Steps.nI_ 136 HT_.out (h := ?_)
          refine Steps.pI_ 37 (some 6) (Steps.Pre 38 38) (any_of HT_.out z0_) (h := ?_)
          refine done_ (done_of HT_.out z0_) ?_
          go_wp2
          go_ret
          rw [show res = false from by rw [HRS.out, small_ne (fun h => HL.out (by rw [h]; rfl)), Bool.and_false]; rfl]
          exact ⟨rfl, hb1⟩
        obtain ⟨⟨p0, q0⟩, h1⟩ := hg
        have hb3 : b3 = true := E3.out.2 ⟨p0, q0⟩
        subst hb3
        have h1i : (x.f7.length : Int) = 1 := by rw [h1]; rfl
        have h1_0 : ((x.f7.length : Int) == 1) = true := beq_iff_eq.mpr h1i
        have h1_1 : ((x.f7.length : Int) != 1) = false := bne_eq_false_iff_eq.mpr h1i
        have h1_2 : decide ((x.f7.length : Int) = 1) = true := decide_eq_true h1i
        obtain ⟨ad, hea, hv0, hv1, hv2⟩ := at_T84 HR10.out 0 z3_ z3_
        obtain ⟨ac, hec, hcw⟩ := Kd.at_int HRC.out x.f6 p0 q0
        subst hea
        subst hec
        rw [show ((0 : Int)).toNat = 0 from rfl, show 0 * 3 = 0 from rfl, Addr.add_zero'] at hv0 hv1 hv2
        have HST := mk_ (show smallB x.f7 [rd c x.f6] = (smallV (rd_T84 x.f7 0) && fitV (rd_T84 x.f7 0) (rd c x.f6)) by rw [small_sf (by rw [h1]; rfl)]; exact (sf_step (l := x.f7) (c := [rd c x.f6]) (i := 0) z3_ (by simp)).trans (by rw [List.drop_eq_nil_of_le (show [rd c x.f6].length ≤ 0 + 1 from Nat.le_refl _), sf_nil, Bool.and_true]; rfl))
        have qi : (0 < x.f7.length) = True := eq_true z3_
        have qj : (0 < (x.f7.length : Int)) = True := eq_true z3_
        have p1 := eq_true p0
        have q1 := eq_true q0
        have p2 : decide (0 ≤ x.f6) = true := decide_eq_true p0
        have q2 : decide (x.f6 < (c.length : Int)) = true := decide_eq_true q0
        have HPQ := mk_ (And.intro p0 q0)
        clear p0 q0 h1 h1i
        obtain ⟨b4, e4⟩ : ∃ b, smallV (rd_T84 x.f7 0) = b := ⟨_, rfl⟩
        obtain ⟨b5, e5⟩ : ∃ b, fitV (rd_T84 x.f7 0) (rd c x.f6) = b := ⟨_, rfl⟩
        have HF4 := mk_ (show raddleref01_Small.f (rd_T84 x.f7 0).f0 (rd_T84 x.f7 0).f1 (rd_T84 x.f7 0).f2 = some b4 by rw [rsmall_eq, ← e4]; rfl)
        have HF5 := mk_ (show raddleref01_Fits.f (rd_T84 x.f7 0).f0 (rd_T84 x.f7 0).f1 (rd_T84 x.f7 0).f2 (rd c x.f6) = some b5 by rw [rfits_eq, ← e5]; rfl)
        rw [e4, e5] at HST
        clear e4 e5
        try go_wp2
        refine Steps.start_n (n := 38) (S := fun w' => w'.heap[gb]? = some (.cells #[.int .i64 x.f0.f0, .int .i64 x.f0.f1, .slice A2 x.f1.length c2, .int .i64 x.f2.f0, .int .i64 x.f2.f1, .int .i64 x.f2.f2, .int .i64 x.f3, .int .i64 x.f4, .string x.f5, .int .i64 x.f6, .slice (some ad) x.f7.length c10, .slice A11 x.f8.length c11] 32 (0, 0)) ∧ w'.cell? ad = some (.int .i64 (rd_T84 x.f7 0).f0) ∧ w'.cell? ⟨ad.block, ad.off + 1, none⟩ = some (.int .i64 (rd_T84 x.f7 0).f1) ∧ w'.cell? ⟨ad.block, ad.off + 2, none⟩ = some (.string (rd_T84 x.f7 0).f2) ∧ w'.cell? (ac.add (x.f6).toNat) = some (.int .i64 (rd c x.f6)) ∧ True) (ds := []) (fun W => W.heap[gb]? = some (.cells #[.int .i64 x.f0.f0, .int .i64 x.f0.f1, .slice A2 x.f1.length c2, .int .i64 x.f2.f0, .int .i64 x.f2.f1, .int .i64 x.f2.f2, .int .i64 x.f3, .int .i64 x.f4, .string x.f5, .int .i64 x.f6, .slice (some ad) x.f7.length c10, .slice A11 x.f8.length c11] 32 (0, 0)) ∧ Below w.heap.size w W) z0_ rfl z0_ ⟨blk_drew BK.out, HB.out.drew⟩ (fun W hJ => ?_) (fun W0 hJ hS0 => ?_)
        · obtain ⟨bk0, hb0⟩ := hJ
          exact ⟨bk0, ((hb0.cell (World.block_lt_of_cell? w _ hv0)).trans hv0), ((hb0.cell (World.block_lt_of_cell? w _ hv1)).trans hv1), ((hb0.cell (World.block_lt_of_cell? w _ hv2)).trans hv2), ((hb0.cell (World.block_lt_of_cell? w _ hcw)).trans hcw), trivial⟩
        obtain ⟨bk0, hb0⟩ := hJ
        refine with_tabW pgtab15 pgbits15 (fun HT_ HW_ => ?_)
        refine Steps.nI_ 136 HT_.out (h := ?_)
        refine Steps.nT_ 136 HT_.out HW_.out hS0 (h := ?_)
        iterate 3 refine Steps.nI_ 136 HT_.out (h := ?_)
        refine one_ (i := 5) (N := some 141) (Steps.Pre 38 6) rfl rfl (one_of HT_.out z0_) z5_ (fun K hK => ?_)
        refine goes_ Try.func27 z0_ rfl #[.int .i64 x.f6, .int .i64 0, .int .i64 (wrap64 ((c.length : Int) - 1))] (Steps.want_ (k := 5) rfl z0_) rfl rfl z2_ ?_
        refine (raddleref01_in.calls x.f6 0 (wrap64 ((c.length : Int) - 1)) true _ HF3.out).mono ?_
        rintro e W1 ⟨rfl, hq⟩
        have bk1 := blk_below bk0 hq.below
        have hb1 := below_step hb0 hq.below
        refine ⟨_, rfl, ?_⟩
        refine hK.out _ _ ⟨bk1, ((hb1.cell (World.block_lt_of_cell? w _ hv0)).trans hv0), ((hb1.cell (World.block_lt_of_cell? w _ hv1)).trans hv1), ((hb1.cell (World.block_lt_of_cell? w _ hv2)).trans hv2), ((hb1.cell (World.block_lt_of_cell? w _ hcw)).trans hcw), trivial⟩ (fun hS1 => ?_)
        clear hK K hq hS0 bk0 hb0
        refine norm_ (a' := ?_) ?_ ?_
        rotate_left
        · show Act.put _ (some 141) _ = _
          simp only [Act.put, List.setIfInBounds_toArray, List.set_cons_zero, List.set_cons_succ, i64_w, i32_w]
          rfl
        iterate 2 refine Steps.nI_ 136 HT_.out (h := ?_)
        refine Steps.nT_ 136 HT_.out HW_.out hS1 (h := ?_)
        iterate 5 refine Steps.nI_ 136 HT_.out (h := ?_)
        refine Steps.nT_ 136 HT_.out HW_.out hS1 (h := ?_)
        refine Steps.nI_ 136 HT_.out (h := ?_)
        refine Steps.nT_ 136 HT_.out HW_.out hS1 (h := ?_)
        refine one_ (i := 17) (N := some 153) (Steps.Pre 38 18) rfl rfl (one_of HT_.out z0_) z5_ (fun K hK => ?_)
        refine goes_ Try.func80 z0_ rfl #[.agg #[.int .i64 (rd_T84 x.f7 0).f0, .int .i64 (rd_T84 x.f7 0).f1, .string (rd_T84 x.f7 0).f2]] (Steps.want_ (k := 17) rfl z0_) rfl rfl z2_ ?_
        refine (raddleref01_Small.calls _ _ _ b4 _ HF4.out).mono ?_
        rintro e W2 ⟨rfl, hq⟩
        have bk2 := blk_below bk1 hq
        have hb2 := below_step hb1 hq
        refine ⟨_, rfl, ?_⟩
        refine hK.out _ _ ⟨bk2, ((hb2.cell (World.block_lt_of_cell? w _ hv0)).trans hv0), ((hb2.cell (World.block_lt_of_cell? w _ hv1)).trans hv1), ((hb2.cell (World.block_lt_of_cell? w _ hv2)).trans hv2), ((hb2.cell (World.block_lt_of_cell? w _ hcw)).trans hcw), trivial⟩ (fun hS2 => ?_)
        clear hK K hq hS1 bk1 hb1
        refine norm_ (a' := ?_) ?_ ?_
        rotate_left
        · show Act.put _ (some 153) _ = _
          simp only [Act.put, List.setIfInBounds_toArray, List.set_cons_zero, List.set_cons_succ, i64_w, i32_w]
          rfl
        iterate 2 refine Steps.nI_ 136 HT_.out (h := ?_)
        cases b4
        · iterate 10 refine Steps.nR_ 136 HT_.out (h := ?_)
          iterate 2 refine Steps.nI_ 136 HT_.out (h := ?_)
          iterate 4 refine Steps.nR_ 136 HT_.out (h := ?_)
          refine Steps.nI_ 136 HT_.out (h := ?_)
          refine Steps.pI_ 37 (some 6) (Steps.Pre 38 38) (any_of HT_.out z0_) (h := ?_)
          refine done_ (done_of HT_.out z0_) ?_
          go_wp2
          go_ret
          rw [show res = false from by rw [HRS.out, HST.out, Bool.false_and, Bool.and_false]; rfl]
          exact ⟨rfl, hb2⟩
        refine Steps.nI_ 136 HT_.out (h := ?_)
        refine Steps.nT_ 136 HT_.out HW_.out hS2 (h := ?_)
        refine Steps.nI_ 136 HT_.out (h := ?_)
        refine Steps.nT_ 136 HT_.out HW_.out hS2 (h := ?_)
        iterate 2 refine Steps.nI_ 136 HT_.out (h := ?_)
        refine Steps.nT_ 136 HT_.out HW_.out hS2 (h := ?_)
        refine Steps.nI_ 136 HT_.out (h := ?_)
        refine Steps.nT_ 136 HT_.out HW_.out hS2 (h := ?_)
        refine one_ (i := 29) (N := some 165) (Steps.Pre 38 30) rfl rfl (one_of HT_.out z0_) z5_ (fun K hK => ?_)
        refine goes_ Try.func81 z0_ rfl #[.agg #[.int .i64 (rd_T84 x.f7 0).f0, .int .i64 (rd_T84 x.f7 0).f1, .string (rd_T84 x.f7 0).f2], .int .i64 (rd c x.f6)] (Steps.want_ (k := 29) rfl z0_) rfl rfl z2_ ?_
        refine (raddleref01_Fits.calls _ _ _ _ b5 _ HF5.out).mono ?_
        rintro e W3 ⟨rfl, hq⟩
        have bk3 := blk_below bk2 hq
        have hb3 := below_step hb2 hq
        refine ⟨_, rfl, ?_⟩
        refine hK.out _ _ ⟨bk3, ((hb3.cell (World.block_lt_of_cell? w _ hv0)).trans hv0), ((hb3.cell (World.block_lt_of_cell? w _ hv1)).trans hv1), ((hb3.cell (World.block_lt_of_cell? w _ hv2)).trans hv2), ((hb3.cell (World.block_lt_of_cell? w _ hcw)).trans hcw), trivial⟩ (fun hS3 => ?_)
        clear hK K hq hS2 bk2 hb2
        refine norm_ (a' := ?_) ?_ ?_
        rotate_left
        · show Act.put _ (some 165) _ = _
          simp only [Act.put, List.setIfInBounds_toArray, List.set_cons_zero, List.set_cons_succ, i64_w, i32_w]
          rfl
        iterate 2 refine Steps.nI_ 136 HT_.out (h := ?_)
        cases b5
        · iterate 4 refine Steps.nR_ 136 HT_.out (h := ?_)
          refine Steps.nI_ 136 HT_.out (h := ?_)
          refine Steps.pI_ 37 (some 6) (Steps.Pre 38 38) (any_of HT_.out z0_) (h := ?_)
          refine done_ (done_of HT_.out z0_) ?_
          go_wp2
          go_ret
          rw [show res = false from by rw [HRS.out, HST.out, Bool.and_false, Bool.and_false]; rfl]
          exact ⟨rfl, hb3⟩
        by_cases h3 : (x.f8.length : Int) = 0
        rotate_left
        · have HL := mk_ h3
          have h3_0 : ((x.f8.length : Int) == 0) = false := beq_eq_false_iff_ne.mpr h3
          have h3_1 : ((x.f8.length : Int) != 0) = true := bne_iff_ne.mpr h3
          have h3_2 : decide ((x.f8.length : Int) = 0) = false := decide_eq_false h3
          clear h3
          refine Steps.nI_ 136 HT_.out (h := ?_)
          refine Steps.nT_ 136 HT_.out HW_.out hS3 (h := ?_)
          iterate 3 refine Steps.nI_ 136 HT_.out (h := ?_)
          refine Steps.pI_ 37 (some 6) (Steps.Pre 38 38) (any_of HT_.out z0_) (h := ?_)
          refine done_ (done_of HT_.out z0_) ?_
          go_wp2
          go_ret
          rw [show res = false from by rw [HRS.out, decide_eq_false (show ¬ x.f8.length = 0 by have := HL.out; omega), Bool.and_false]]
          exact ⟨rfl, hb3⟩
        have HL := mk_ h3
        have h3_0 : ((x.f8.length : Int) == 0) = true := beq_iff_eq.mpr h3
        have h3_1 : ((x.f8.length : Int) != 0) = false := bne_eq_false_iff_eq.mpr h3
        have h3_2 : decide ((x.f8.length : Int) = 0) = true := decide_eq_true h3
        clear h3
        refine Steps.nI_ 136 HT_.out (h := ?_)
        refine Steps.nT_ 136 HT_.out HW_.out hS3 (h := ?_)
        iterate 3 refine Steps.nI_ 136 HT_.out (h := ?_)
        refine Steps.pI_ 37 (some 6) (Steps.Pre 38 38) (any_of HT_.out z0_) (h := ?_)
        refine done_ (done_of HT_.out z0_) ?_
        go_wp2
        go_ret
        rw [show res = true from by rw [HRS.out, HST.out, decide_eq_true HPQ.out, decide_eq_true (show x.f8.length = 0 by have := HL.out; omega)]; rfl]
        exact ⟨rfl, hb3⟩
    have HK2 := mk_ k2
    have k2_0 : (x.f3 == 2) = false := beq_eq_false_iff_ne.mpr k2
    have k2_1 : (x.f3 != 2) = true := bne_iff_ne.mpr k2
    have k2_2 : decide (x.f3 = 2) = false := decide_eq_false k2
    clear k2
    by_cases k3 : x.f3 = 3
    rotate_left
    · have hr : res = false := by rw [HRK.out]; unfold kindB; rw [if_neg HK1.out, if_neg HK2.out, if_neg k3]
      have k3_0 : (x.f3 == 3) = false := beq_eq_false_iff_ne.mpr k3
      have k3_1 : (x.f3 != 3) = true := bne_iff_ne.mpr k3
      have k3_2 : decide (x.f3 = 3) = false := decide_eq_false k3
      clear k3
      go_wp2
      go_ret
      rw [hr]
      exact ⟨rfl, HB.out⟩
    as_aux_lemma =>
      have HRS := mk_ (show res = (decide (1 ≤ x.f8.length ∧ x.f8.length ≤ 64) && hadG x.f1 none x.f8 && decide (x.f6 = 0) && decide (x.f7.length = 0)) by rw [HRK.out]; unfold kindB; rw [if_neg HK1.out, if_neg HK2.out, if_pos k3])
      clear HRK
      have k3_0 : (x.f3 == 3) = true := beq_iff_eq.mpr k3
      have k3_1 : (x.f3 != 3) = false := bne_eq_false_iff_eq.mpr k3
      have k3_2 : decide (x.f3 = 3) = true := decide_eq_true k3
      clear k3
      obtain ⟨b3, e3⟩ : ∃ b, decide (1 ≤ (x.f8.length : Int) ∧ (x.f8.length : Int) ≤ 64) = b := ⟨_, rfl⟩
      have HF3 := mk_ (show raddleref01_in.f (x.f8.length : Int) 1 64 = some b3 by rw [rin_eq, e3])
      have E3 : Aside0 (b3 = true ↔ 1 ≤ x.f8.length ∧ x.f8.length ≤ 64) := ⟨by rw [← e3, decide_eq_true_eq]; omega⟩
      clear e3
      cases b3
      · go_wp2_with (((with_reducible refine gate_callee (f := 27) rfl ?_); refine Go.Proofs.Ytjnjfogfpmeacaa.Short.gL (some 178) Try.func27 #[.int .i64 (x.f8.length : Int), .int .i64 1, .int .i64 64] (h := ?_); (with_reducible refine (raddleref01_in.calls (x.f8.length : Int) 1 64 false _ HF3.out).mono ?_); rintro e V0 ⟨rfl, hq⟩; refine ⟨_, rfl, ?_⟩; have n0_ := mk_ (blk_below BK.out hq.below); have n1_ := mk_ (below_step HB.out hq.below); clear BK HB hq; revert n0_ n1_; intro BK HB; have kb := blk_cell BK.out))
        go_ret
        rw [show res = false from by rw [HRS.out, decide_eq_false (fun h => absurd (E3.out.2 h) z5_)]; rfl]
        exact ⟨rfl, HB.out⟩
      by_cases h2 : x.f6 = 0
      rotate_left
      · have HL := mk_ h2
        have h2_0 : (x.f6 == 0) = false := beq_eq_false_iff_ne.mpr h2
        have h2_1 : (x.f6 != 0) = true := bne_iff_ne.mpr h2
        have h2_2 : decide (x.f6 = 0) = false := decide_eq_false h2
        clear h2
        go_wp2_with (((with_reducible refine gate_callee (f := 27) rfl ?_); refine Go.Proofs.Ytjnjfogfpmeacaa.Short.gL (some 178) Try.func27 #[.int .i64 (x.f8.length : Int), .int .i64 1, .int .i64 64] (h := ?_); (with_reducible refine (raddleref01_in.calls (x.f8.length : Int) 1 64 true _ HF3.out).mono ?_); rintro e V0 ⟨rfl, hq⟩; refine ⟨_, rfl, ?_⟩; have n0_ := mk_ (blk_below BK.out hq.below); have n1_ := mk_ (below_step HB.out hq.below); clear BK HB hq; revert n0_ n1_; intro BK HB; have kb := blk_cell BK.out))
        go_ret
        rw [show res = false from by rw [HRS.out, decide_eq_false HL.out, Bool.and_false]; rfl]
        exact ⟨rfl, HB.out⟩
      have H2 := mk_ h2
      have h2_0 : (x.f6 == 0) = true := beq_iff_eq.mpr h2
      have h2_1 : (x.f6 != 0) = false := bne_eq_false_iff_eq.mpr h2
      have h2_2 : decide (x.f6 = 0) = true := decide_eq_true h2
      clear h2
      by_cases h3 : 0 < (x.f7.length : Int)
      · have HL := mk_ h3
        have h30 : decide (0 < (x.f7.length : Int)) = true := decide_eq_true h3
        have h31 : decide (0 < x.f7.length) = true := decide_eq_true z3_
        clear h3
        go_wp2_with (((with_reducible refine gate_callee (f := 27) rfl ?_); refine Go.Proofs.Ytjnjfogfpmeacaa.Short.gL (some 178) Try.func27 #[.int .i64 (x.f8.length : Int), .int .i64 1, .int .i64 64] (h := ?_); (with_reducible refine (raddleref01_in.calls (x.f8.length : Int) 1 64 true _ HF3.out).mono ?_); rintro e V0 ⟨rfl, hq⟩; refine ⟨_, rfl, ?_⟩; have n0_ := mk_ (blk_below BK.out hq.below); have n1_ := mk_ (below_step HB.out hq.below); clear BK HB hq; revert n0_ n1_; intro BK HB; have kb := blk_cell BK.out))
        go_ret
        rw [show res = false from by rw [HRS.out, decide_eq_false (show ¬ x.f7.length = 0 by have := HL.out; omega), Bool.and_false]]
        exact ⟨rfl, HB.out⟩
      have h30 : decide (0 < (x.f7.length : Int)) = false := decide_eq_false h3
      have h31 : decide (0 < x.f7.length) = false := decide_eq_false z3_
      have HQ0 := mk_ (show res = hadG x.f1 (ahead? x.f8 0) (x.f8.drop 0) by rw [HRS.out, decide_eq_true H2.out, decide_eq_true (show x.f7.length = 0 by omega), decide_eq_true (E3.out.1 (by simp)), Bool.and_true, Bool.and_true, Bool.true_and]; rfl)
      clear HRS H2 h3
      go_wp2_with (((with_reducible refine gate_callee (f := 27) rfl ?_); refine Go.Proofs.Ytjnjfogfpmeacaa.Short.gL (some 178) Try.func27 #[.int .i64 (x.f8.length : Int), .int .i64 1, .int .i64 64] (h := ?_); (with_reducible refine (raddleref01_in.calls (x.f8.length : Int) 1 64 true _ HF3.out).mono ?_); rintro e V0 ⟨rfl, hq⟩; refine ⟨_, rfl, ?_⟩; have n0_ := mk_ (blk_below BK.out hq.below); have n1_ := mk_ (below_step HB.out hq.below); clear BK HB hq; revert n0_ n1_; intro BK HB; have kb := blk_cell BK.out))
      go_loopg [9] (x.f8.length + 1) (fun kq v9 W' => ∃ (i : Nat) (z : Int), v9 = .int .i64 z ∧ Aside0 (z = (i : Int) ∧ kq + i = x.f8.length + 1 ∧ i ≤ x.f8.length) ∧ Aside0 (res = hadG x.f1 (ahead? x.f8 i) (x.f8.drop i)) ∧ Aside0 (W'.heap[gb]? = some (.cells #[.int .i64 x.f0.f0, .int .i64 x.f0.f1, .slice A2 x.f1.length c2, .int .i64 x.f2.f0, .int .i64 x.f2.f1, .int .i64 x.f2.f2, .int .i64 x.f3, .int .i64 x.f4, .string x.f5, .int .i64 x.f6, .slice A10 x.f7.length c10, .slice A11 x.f8.length c11] 32 (0, 0))) ∧ Aside0 (Below w.heap.size w W'))
      case atStart => exact ⟨0, 0, rfl, ⟨by omega⟩, ⟨HQ0.out⟩, ⟨BK.out⟩, ⟨HB.out⟩⟩
      case round =>
        clear HQ0 BK HB kb hx0
        obtain ⟨i, z, rfl, HK, HQ, BK, HB⟩ := hrel
        have hz := HK.out.1
        obtain ⟨kk, rfl⟩ : ∃ kk, gk = kk + 1 := ⟨gk - 1, by have := HK.out; omega⟩
        have kb := blk_cell BK.out
        by_cases hi : z < (x.f8.length : Int)
        rotate_left
        · have hi0 : decide (z < (x.f8.length : Int)) = false := decide_eq_false hi
          have hr : res = true := by rw [HQ.out, List.drop_eq_nil_of_le (show x.f8.length ≤ i by omega)]; rfl
          clear hi HQ hz
          go_wp2
          go_ret
          rw [hr]
          exact ⟨rfl, HB.out⟩
        have hst := had_step (v := x.f1) (l := x.f8) (i := i) z3_
        rw [← hz] at hst
        have HST := mk_ hst
        clear hst
        obtain ⟨ad, hea, hv0, hv1⟩ := at_T25 HR11.out z z3_ hi
        have p0 : (0 ≤ z) = True := eq_true z3_
        have p1 : decide (0 ≤ z) = true := decide_eq_true z3_
        have q0 := eq_true hi
        have q1 : decide (z < (x.f8.length : Int)) = true := decide_eq_true hi
        have HI := mk_ hi
        obtain ⟨b4, e4⟩ : ∃ b, hasB x.f1 (rd_T25 x.f8 z) = b := ⟨_, rfl⟩
        have HF4 := mk_ (show raddleref01_Has.f x.f1 (rd_T25 x.f8 z).f0 (rd_T25 x.f8 z).f1 = some b4 by rw [rhas_eq _ _ (by have := HN.out.2.1.1; omega), ← e4])
        rw [e4] at HST
        clear e4
        by_cases hzz : i = 0
        · rw [if_pos hzz] at HST
          subst hea
          have z0 : decide (0 < z) = false := decide_eq_false z3_
          clear hi hz hzz
          try go_wp2
          refine Steps.start_n (n := 28) (S := fun w' => w'.heap[gb]? = some (.cells #[.int .i64 x.f0.f0, .int .i64 x.f0.f1, .slice A2 x.f1.length c2, .int .i64 x.f2.f0, .int .i64 x.f2.f1, .int .i64 x.f2.f2, .int .i64 x.f3, .int .i64 x.f4, .string x.f5, .int .i64 x.f6, .slice A10 x.f7.length c10, .slice (some ad) x.f8.length c11] 32 (0, 0)) ∧ w'.cell? (ad.add ((z).toNat * 2)) = some (.int .i64 (rd_T25 x.f8 z).f0) ∧ w'.cell? ⟨(ad.add ((z).toNat * 2)).block, (ad.add ((z).toNat * 2)).off + 1, none⟩ = some (.int .i64 (rd_T25 x.f8 z).f1) ∧ True) (ds := []) (fun W => W.heap[gb]? = some (.cells #[.int .i64 x.f0.f0, .int .i64 x.f0.f1, .slice A2 x.f1.length c2, .int .i64 x.f2.f0, .int .i64 x.f2.f1, .int .i64 x.f2.f2, .int .i64 x.f3, .int .i64 x.f4, .string x.f5, .int .i64 x.f6, .slice A10 x.f7.length c10, .slice (some ad) x.f8.length c11] 32 (0, 0)) ∧ Below w.heap.size w W) z0_ rfl z0_ ⟨blk_drew BK.out, HB.out.drew⟩ (fun W hJ => ?_) (fun W0 hJ hS0 => ?_)
          · obtain ⟨bk0, hb0⟩ := hJ
            exact ⟨bk0, ((hb0.cell (World.block_lt_of_cell? w _ hv0)).trans hv0), ((hb0.cell (World.block_lt_of_cell? w _ hv1)).trans hv1), trivial⟩
          obtain ⟨bk0, hb0⟩ := hJ
          refine with_tabW pgtab22 pgbits22 (fun HT_ HW_ => ?_)
          refine Steps.nI_ 198 HT_.out (h := ?_)
          refine Steps.nT_ 198 HT_.out HW_.out hS0 (h := ?_)
          refine Steps.nI_ 198 HT_.out (h := ?_)
          refine Steps.nT_ 198 HT_.out HW_.out hS0 (h := ?_)
          iterate 2 refine Steps.nI_ 198 HT_.out (h := ?_)
          refine Steps.nT_ 198 HT_.out HW_.out hS0 (h := ?_)
          refine one_ (i := 7) (N := some 205) (Steps.Pre 28 8) rfl rfl (one_of HT_.out z0_) z5_ (fun K hK => ?_)
          refine goes_ Try.func82 z0_ rfl #[.slice A2 x.f1.length c2, .agg #[.int .i64 (rd_T25 x.f8 z).f0, .int .i64 (rd_T25 x.f8 z).f1]] (Steps.want_ (k := 7) rfl z0_) rfl rfl z2_ ?_
          refine (raddleref01_Has.calls A2 c2 x.f1 _ _ b4 _ (C_below HR2.out hb0) HC2.out HF4.out).mono ?_
          rintro e W1 ⟨rfl, hq⟩
          have bk1 := blk_below bk0 hq
          have hb1 := below_step hb0 hq
          refine ⟨_, rfl, ?_⟩
          refine hK.out _ _ ⟨bk1, ((hb1.cell (World.block_lt_of_cell? w _ hv0)).trans hv0), ((hb1.cell (World.block_lt_of_cell? w _ hv1)).trans hv1), trivial⟩ (fun hS1 => ?_)
          clear hK K hq hS0 bk0 hb0
          refine norm_ (a' := ?_) ?_ ?_
          rotate_left
          · show Act.put _ (some 205) _ = _
            simp only [Act.put, List.setIfInBounds_toArray, List.set_cons_zero, List.set_cons_succ, i64_w, i32_w]
            rfl
          iterate 2 refine Steps.nI_ 198 HT_.out (h := ?_)
          cases b4
          · iterate 17 refine Steps.nR_ 198 HT_.out (h := ?_)
            refine Steps.nI_ 198 HT_.out (h := ?_)
            refine done_ (done_of HT_.out z0_) ?_
            go_wp2
            go_ret
            rw [show res = false from by rw [HQ.out, HST.out]; rfl]
            exact ⟨rfl, hb1⟩
          iterate 3 refine Steps.nI_ 198 HT_.out (h := ?_)
          iterate 13 refine Steps.nR_ 198 HT_.out (h := ?_)
          iterate 2 refine Steps.nI_ 198 HT_.out (h := ?_)
          refine done_ (done_of HT_.out z0_) ?_
          go_wp2
          go_roundg kk
          case measure => exact Nat.lt_succ_self _
          case rel => exact ⟨i + 1, _, rfl, ⟨by have := HK.out; have := HI.out; have := HN.out.2.1.2.2; rw [w64 z3_ z3_]; omega⟩, ⟨by rw [HQ.out, HST.out]; rfl⟩, ⟨bk1⟩, ⟨hb1⟩⟩
        rw [if_neg hzz] at HST
        obtain ⟨j, hj⟩ : ∃ j : Int, wrap64 (z - 1) = j := ⟨_, rfl⟩
        have hjw : IntKind.i64.wrap (z - 1) = j := (i64_w _).trans hj
        have hje : z - 1 = j := by rw [← hj, w64 z3_ (by have := HK.out; have := HN.out.2.1.2.2; omega)]
        rw [hje] at HST
        obtain ⟨ad2, heb, hu0, hu1⟩ := at_T25 HR11.out j z3_ z3_
        obtain rfl : ad = ad2 := by rw [hea] at heb; exact Option.some.inj heb
        clear heb
        subst hea
        have z0 : decide (0 < z) = true := decide_eq_true z3_
        have p2 : (0 ≤ j) = True := eq_true z3_
        have p3 : decide (0 ≤ j) = true := decide_eq_true z3_
        have q2 : (j < (x.f8.length : Int)) = True := eq_true z3_
        have q3 : decide (j < (x.f8.length : Int)) = true := decide_eq_true z3_
        obtain ⟨b5, e5⟩ : ∃ b, lessD (rd_T25 x.f8 j) (rd_T25 x.f8 z) = b := ⟨_, rfl⟩
        have HF5 := mk_ (show raddleref01_LessDot.f (rd_T25 x.f8 j).f0 (rd_T25 x.f8 j).f1 (rd_T25 x.f8 z).f0 (rd_T25 x.f8 z).f1 = some b5 by rw [rless_eq, ← e5])
        rw [e5] at HST
        clear e5 hi hz hzz hje
        try go_wp2
        refine Steps.start_n (n := 28) (S := fun w' => w'.heap[gb]? = some (.cells #[.int .i64 x.f0.f0, .int .i64 x.f0.f1, .slice A2 x.f1.length c2, .int .i64 x.f2.f0, .int .i64 x.f2.f1, .int .i64 x.f2.f2, .int .i64 x.f3, .int .i64 x.f4, .string x.f5, .int .i64 x.f6, .slice A10 x.f7.length c10, .slice (some ad) x.f8.length c11] 32 (0, 0)) ∧ w'.cell? (ad.add ((z).toNat * 2)) = some (.int .i64 (rd_T25 x.f8 z).f0) ∧ w'.cell? ⟨(ad.add ((z).toNat * 2)).block, (ad.add ((z).toNat * 2)).off + 1, none⟩ = some (.int .i64 (rd_T25 x.f8 z).f1) ∧ w'.cell? (ad.add ((j).toNat * 2)) = some (.int .i64 (rd_T25 x.f8 j).f0) ∧ w'.cell? ⟨(ad.add ((j).toNat * 2)).block, (ad.add ((j).toNat * 2)).off + 1, none⟩ = some (.int .i64 (rd_T25 x.f8 j).f1) ∧ True) (ds := []) (fun W => W.heap[gb]? = some (.cells #[.int .i64 x.f0.f0, .int .i64 x.f0.f1, .slice A2 x.f1.length c2, .int .i64 x.f2.f0, .int .i64 x.f2.f1, .int .i64 x.f2.f2, .int .i64 x.f3, .int .i64 x.f4, .string x.f5, .int .i64 x.f6, .slice A10 x.f7.length c10, .slice (some ad) x.f8.length c11] 32 (0, 0)) ∧ Below w.heap.size w W) z0_ rfl z0_ ⟨blk_drew BK.out, HB.out.drew⟩ (fun W hJ => ?_) (fun W0 hJ hS0 => ?_)
        · obtain ⟨bk0, hb0⟩ := hJ
          exact ⟨bk0, ((hb0.cell (World.block_lt_of_cell? w _ hv0)).trans hv0), ((hb0.cell (World.block_lt_of_cell? w _ hv1)).trans hv1), ((hb0.cell (World.block_lt_of_cell? w _ hu0)).trans hu0), ((hb0.cell (World.block_lt_of_cell? w _ hu1)).trans hu1), trivial⟩
        obtain ⟨bk0, hb0⟩ := hJ
        refine with_tabW pgtab22 pgbits22 (fun HT_ HW_ => ?_)
        refine Steps.nI_ 198 HT_.out (h := ?_)
        refine Steps.nT_ 198 HT_.out HW_.out hS0 (h := ?_)
        refine Steps.nI_ 198 HT_.out (h := ?_)
        refine Steps.nT_ 198 HT_.out HW_.out hS0 (h := ?_)
        iterate 2 refine Steps.nI_ 198 HT_.out (h := ?_)
        refine Steps.nT_ 198 HT_.out HW_.out hS0 (h := ?_)
        refine one_ (i := 7) (N := some 205) (Steps.Pre 28 8) rfl rfl (one_of HT_.out z0_) z5_ (fun K hK => ?_)
        refine goes_ Try.func82 z0_ rfl #[.slice A2 x.f1.length c2, .agg #[.int .i64 (rd_T25 x.f8 z).f0, .int .i64 (rd_T25 x.f8 z).f1]] (Steps.want_ (k := 7) rfl z0_) rfl rfl z2_ ?_
        refine (raddleref01_Has.calls A2 c2 x.f1 _ _ b4 _ (C_below HR2.out hb0) HC2.out HF4.out).mono ?_
        rintro e W1 ⟨rfl, hq⟩
        have bk1 := blk_below bk0 hq
        have hb1 := below_step hb0 hq
        refine ⟨_, rfl, ?_⟩
        refine hK.out _ _ ⟨bk1, ((hb1.cell (World.block_lt_of_cell? w _ hv0)).trans hv0), ((hb1.cell (World.block_lt_of_cell? w _ hv1)).trans hv1), ((hb1.cell (World.block_lt_of_cell? w _ hu0)).trans hu0), ((hb1.cell (World.block_lt_of_cell? w _ hu1)).trans hu1), trivial⟩ (fun hS1 => ?_)
        clear hK K hq hS0 bk0 hb0
        refine norm_ (a' := ?_) ?_ ?_
        rotate_left
        · show Act.put _ (some 205) _ = _
          simp only [Act.put, List.setIfInBounds_toArray, List.set_cons_zero, List.set_cons_succ, i64_w, i32_w]
          rfl
        iterate 2 refine Steps.nI_ 198 HT_.out (h := ?_)
        cases b4
        · iterate 17 refine Steps.nR_ 198 HT_.out (h := ?_)
          refine Steps.nI_ 198 HT_.out (h := ?_)
          refine done_ (done_of HT_.out z0_) ?_
          go_wp2
          go_ret
          rw [show res = false from by rw [HQ.out, HST.out]; rfl]
          exact ⟨rfl, hb1⟩
        iterate 4 refine Steps.nI_ 198 HT_.out (h := ?_)
        refine Steps.nT_ 198 HT_.out HW_.out hS1 (h := ?_)
        iterate 3 refine Steps.nI_ 198 HT_.out (h := ?_)
        refine Steps.nT_ 198 HT_.out HW_.out hS1 (h := ?_)
        refine Steps.nI_ 198 HT_.out (h := ?_)
        refine Steps.nT_ 198 HT_.out HW_.out hS1 (h := ?_)
        iterate 2 refine Steps.nI_ 198 HT_.out (h := ?_)
        refine Steps.nT_ 198 HT_.out HW_.out hS1 (h := ?_)
        refine one_ (i := 24) (N := some 222) (Steps.Pre 28 25) rfl rfl (one_of HT_.out z0_) z5_ (fun K hK => ?_)
        refine goes_ Try.func83 z0_ rfl #[.agg #[.int .i64 (rd_T25 x.f8 j).f0, .int .i64 (rd_T25 x.f8 j).f1], .agg #[.int .i64 (rd_T25 x.f8 z).f0, .int .i64 (rd_T25 x.f8 z).f1]] (Steps.want_ (k := 24) rfl z0_) rfl rfl z2_ ?_
        refine (raddleref01_LessDot.calls _ _ _ _ b5 _ HF5.out).mono ?_
        rintro e W2 ⟨rfl, hq⟩
        have bk2 := blk_below bk1 hq
        have hb2 := below_step hb1 hq
        refine ⟨_, rfl, ?_⟩
        refine hK.out _ _ ⟨bk2, ((hb2.cell (World.block_lt_of_cell? w _ hv0)).trans hv0), ((hb2.cell (World.block_lt_of_cell? w _ hv1)).trans hv1), ((hb2.cell (World.block_lt_of_cell? w _ hu0)).trans hu0), ((hb2.cell (World.block_lt_of_cell? w _ hu1)).trans hu1), trivial⟩ (fun hS2 => ?_)
        clear hK K hq hS1 bk1 hb1
        refine norm_ (a' := ?_) ?_ ?_
        rotate_left
        · show Act.put _ (some 222) _ = _
          simp only [Act.put, List.setIfInBounds_toArray, List.set_cons_zero, List.set_cons_succ, i64_w, i32_w]
          rfl
        cases b5
        · iterate 3 refine Steps.nI_ 198 HT_.out (h := ?_)
          refine done_ (done_of HT_.out z0_) ?_
          go_wp2
          go_ret
          rw [show res = false from by rw [HQ.out, HST.out]; rfl]
          exact ⟨rfl, hb2⟩
        iterate 3 refine Steps.nI_ 198 HT_.out (h := ?_)
        refine done_ (done_of HT_.out z0_) ?_
        go_wp2
        go_roundg kk
        case measure => exact Nat.lt_succ_self _
        case rel => exact ⟨i + 1, _, rfl, ⟨by have := HK.out; have := HI.out; have := HN.out.2.1.2.2; rw [w64 z3_ z3_]; omega⟩, ⟨by rw [HQ.out, HST.out]; rfl⟩, ⟨bk2⟩, ⟨hb2⟩⟩
end Go.Proofs.Ytjnjfogfpmeacaa.Ops
namespace Go.Proofs.Ytjnjfogfpmeacaa.PAll
open Go.RowKit PAll Ops Plain PrintWords PrintLast PrintMore ZipT PrintWords.Kd PrintMore.Kd
def opPlay (a0 : Int) (l1 : List Tb) (x : Ox) : Prop := (1 ≤ a0 ∧ a0 ≤ 5) ∧ (x.f1.length ≤ 1000 ∧ x.f7.length ≤ 1000 ∧ x.f8.length ≤ 1000) ∧ l1.length ≤ 1000 ∧ ∀ t ∈ l1, t.f0.length ≤ 1000
instance (a0 : Int) (l1 : List Tb) (x : Ox) : Decidable (opPlay a0 l1 x) := by unfold opPlay; infer_instance
def raddleref01_Op.f (a0 : Int) (l1 : List Tb) (a2_0 : Int) (a2_1 : Int) (l2_2 : List Int) (a2_3 : Int) (a2_4 : Int) (a2_5 : Int) (a2_6 : Int) (a2_7 : Int) (a2_8 : ByteArray) (a2_9 : Int) (l2_10 : List V) (l2_11 : List Dt) : Option Bool := if opPlay a0 l1 (⟨⟨a2_0, a2_1⟩, l2_2, ⟨a2_3, a2_4, a2_5⟩, a2_6, a2_7, a2_8, a2_9, l2_10, l2_11⟩ : Ox) then some (rightB a0 l1 (⟨⟨a2_0, a2_1⟩, l2_2, ⟨a2_3, a2_4, a2_5⟩, a2_6, a2_7, a2_8, a2_9, l2_10, l2_11⟩ : Ox)) else none
theorem raddleref01_Op.calls (a0 : Int) (A1 : Option Addr) (c1 : Nat) (l1 : List Tb) (a2_0 : Int) (a2_1 : Int) (A2_2 : Option Addr) (c2_2 : Nat) (l2_2 : List Int) (a2_3 : Int) (a2_4 : Int) (a2_5 : Int) (a2_6 : Int) (a2_7 : Int) (a2_8 : ByteArray) (a2_9 : Int) (A2_10 : Option Addr) (c2_10 : Nat) (l2_10 : List V) (A2_11 : Option Addr) (c2_11 : Nat) (l2_11 : List Dt) (r : Bool) (w : World) (hr1 : Kd.C k51 w A1 l1.length l1) (hc1 : l1.length ≤ c1) (hr2_2 : Kd.C (Kd.int .i64) w A2_2 l2_2.length l2_2) (hc2_2 : l2_2.length ≤ c2_2) (hr2_10 : Kd.C k84 w A2_10 l2_10.length l2_10) (hc2_10 : l2_10.length ≤ c2_10) (hr2_11 : Kd.C k25 w A2_11 l2_11.length l2_11) (hc2_11 : l2_11.length ≤ c2_11) (h : raddleref01_Op.f a0 l1 a2_0 a2_1 l2_2 a2_3 a2_4 a2_5 a2_6 a2_7 a2_8 a2_9 l2_10 l2_11 = some r) :
  Calls Try.prog 38 #[.int .i64 a0, .slice A1 l1.length c1, .agg #[.int .i64 a2_0, .int .i64 a2_1, .slice A2_2 l2_2.length c2_2, .int .i64 a2_3, .int .i64 a2_4, .int .i64 a2_5, .int .i64 a2_6, .int .i64 a2_7, .string a2_8, .int .i64 a2_9, .slice A2_10 l2_10.length c2_10, .slice A2_11 l2_11.length c2_11]] w fun e w' => e = .returned (.bool r) ∧ Below w.heap.size w w' := by
 unfold raddleref01_Op.f at h
 split at h
 ·
  rename_i hs
  obtain rfl := Option.some.inj h
  exact pgop_calls a0 l1 (⟨⟨a2_0, a2_1⟩, l2_2, ⟨a2_3, a2_4, a2_5⟩, a2_6, a2_7, a2_8, a2_9, l2_10, l2_11⟩ : Ox) A1 c1 A2_2 c2_2 A2_10 c2_10 A2_11 c2_11 w hr1 hc1 hr2_2 hc2_2 hr2_10 hc2_10 hr2_11 hc2_11 hs.1 hs.2.1 hs.2.2
 ·
  cases h
end Go.Proofs.Ytjnjfogfpmeacaa.PAll
end
section
namespace Go.Proofs.Ytjnjfogfpmeacaa.PAll
open Go.RowKit PrintWords PrintLast PrintMore ZipT PrintWords.Kd PrintMore.Kd
attribute [local go_sem] max2_int min2_int max_two min_two max_three min_three max_four min_four   -- for this text's walks alone
set_option linter.unusedVariables false
set_option linter.unusedSimpArgs false
def raddlelaw07_Check.f (k : Nat) (a0 : Int) (l1 : List (S51)) (a2_0 : Int) (a2_1 : Int) (l2_2 : List Int) (a2_3 : Int) (a2_4 : Int) (a2_5 : Int) (a2_6 : Int) (a2_7 : Int) (a2_8 : ByteArray) (a2_9 : Int) (l2_10 : List (S84)) (l2_11 : List (S25)) : Option (Int) := (raddleref01_Forms.f k l1).bind fun t628 => (if t628 = 0 then (if a0 < 1 then (some 1) else (if a0 > 5 then (some 1) else ((raddleref01_Op.f a0 l1 a2_0 a2_1 l2_2 a2_3 a2_4 a2_5 a2_6 a2_7 a2_8 a2_9 l2_10 l2_11).bind fun t629 => (if t629 = true then (some 0) else (some 1))))) else (some t628))
theorem raddlelaw07_Check.calls (k : Nat) (a0 : Int) (A1 : Option Addr) (c1 : Nat) (l1 : List (S51)) (a2_0 : Int) (a2_1 : Int) (A2_2 : Option Addr) (c2_2 : Nat) (l2_2 : List Int) (a2_3 : Int) (a2_4 : Int) (a2_5 : Int) (a2_6 : Int) (a2_7 : Int) (a2_8 : ByteArray) (a2_9 : Int) (A2_10 : Option Addr) (c2_10 : Nat) (l2_10 : List (S84)) (A2_11 : Option Addr) (c2_11 : Nat) (l2_11 : List (S25)) (r : Int) (w : World) (hr1 : Kd.C k51 w A1 l1.length l1) (hc1 : l1.length ≤ c1) (hr2_2 : Kd.C (Kd.int .i64) w A2_2 l2_2.length l2_2) (hc2_2 : l2_2.length ≤ c2_2) (hr2_10 : Kd.C k84 w A2_10 l2_10.length l2_10) (hc2_10 : l2_10.length ≤ c2_10) (hr2_11 : Kd.C k25 w A2_11 l2_11.length l2_11) (hc2_11 : l2_11.length ≤ c2_11) (h : raddlelaw07_Check.f k a0 l1 a2_0 a2_1 l2_2 a2_3 a2_4 a2_5 a2_6 a2_7 a2_8 a2_9 l2_10 l2_11 = some r) :
  Calls Try.prog 20 #[.int .i64 a0, .slice A1 l1.length c1, .agg #[.int .i64 a2_0, .int .i64 a2_1, .slice A2_2 l2_2.length c2_2, .int .i64 a2_3, .int .i64 a2_4, .int .i64 a2_5, .int .i64 a2_6, .int .i64 a2_7, .string a2_8, .int .i64 a2_9, .slice A2_10 l2_10.length c2_10, .slice A2_11 l2_11.length c2_11]] w fun e w' => e = .returned (.int .i64 r) ∧ Below w.heap.size w w' := by
 have hu32 := Try.underlying32
 have HR1 := mk_ hr1
 have HC1 := mk_ hc1
 clear hr1 hc1
 have HR2_2 := mk_ hr2_2
 have HC2_2 := mk_ hc2_2
 clear hr2_2 hc2_2
 have HR2_10 := mk_ hr2_10
 have HC2_10 := mk_ hc2_10
 clear hr2_10 hc2_10
 have HR2_11 := mk_ hr2_11
 have HC2_11 := mk_ hc2_11
 clear hr2_11 hc2_11
 have HB := mk_ (Below.refl w.heap.size w)
 have H : ((raddleref01_Forms.f k l1).bind fun t628 => (if t628 = 0 then (if a0 < 1 then (some 1) else (if a0 > 5 then (some 1) else ((raddleref01_Op.f a0 l1 a2_0 a2_1 l2_2 a2_3 a2_4 a2_5 a2_6 a2_7 a2_8 a2_9 l2_10 l2_11).bind fun t629 => (if t629 = true then (some 0) else (some 1))))) else (some t628))) = some r := h
 clear h
 obtain ⟨t628, A4, H⟩ := Option.bind_eq_some_iff.mp H
 replace A4 := mk_ A4
 by_cases c5 : t628 = 0
 rotate_left
 ·
  rw [if_neg c5] at H
  have c5b0 : (t628 == 0) = false := beq_eq_false_iff_ne.mpr c5
  have c5b1 : (t628 != 0) = true := bne_iff_ne.mpr c5
  obtain rfl := Option.some.inj H
  go_enter Try.func20, Try.ntmps20
  go_wp2_with (first | ((with_reducible refine gate_dst (N := 5) rfl ?_); refine box_event ?hg (N := 5) ?hd (cs := #[.int .i64 a2_0, .int .i64 a2_1, .slice A2_2 l2_2.length c2_2, .int .i64 a2_3, .int .i64 a2_4, .int .i64 a2_5, .int .i64 a2_6, .int .i64 a2_7, .string a2_8, .int .i64 a2_9, .slice A2_10 l2_10.length c2_10, .slice A2_11 l2_11.length c2_11]) (t := 32) ?hr ?_; (case hd => rfl); (case hg => rfl); (case hr => first | (go_simp; done) | (go_simp; rfl)); intro gb627 hg w18 hbox hb; have n0_ := mk_ (below_step (Short.hB HB) hb); have n1_ := mk_ (hbox); have n2_ := mk_ ((by rw [hg]; exact (below_size (Short.hB HB)) : w.heap.size ≤ gb627)); have n3_ := mk_ ((by rw [hg]; exact (below_size (Short.hB HB)) : w.heap.size ≤ gb627)); clear HB; revert n0_ n1_ n2_ n3_; intro HB BK627 GW627 GE627; clear hb hbox hg) | ((with_reducible refine gate_callee (f := 37) rfl ?_); refine Short.gL (some 9) Try.func37 #[.slice A1 l1.length c1] (h := ?_); (with_reducible refine (raddleref01_Forms.calls k _ _ l1 t628 _ ?side1 ?side2 A4.out).mono ?_); (case side1 => exact cX_ (C_below HR1.out HB.out)); (case side2 => exact HC1.out); rintro e w' ⟨rfl, ⟨nd, rfl⟩⟩; refine ⟨_, rfl, ?_⟩))
  go_ret
  exact ⟨q0, Short.hB HB⟩
 rw [if_pos c5] at H
 have c5b0 : (t628 == 0) = true := beq_iff_eq.mpr c5
 have c5b1 : (t628 != 0) = false := bne_eq_false_iff_eq.mpr c5
 clear c5
 by_cases c6 : a0 < 1
 ·
  rw [if_pos c6] at H
  have c6b0 : decide (a0 < 1) = true := decide_eq_true c6
  clear c6
  obtain rfl := Option.some.inj H
  go_enter Try.func20, Try.ntmps20
  go_wp2_with (first | ((with_reducible refine gate_dst (N := 5) rfl ?_); refine box_event ?hg (N := 5) ?hd (cs := #[.int .i64 a2_0, .int .i64 a2_1, .slice A2_2 l2_2.length c2_2, .int .i64 a2_3, .int .i64 a2_4, .int .i64 a2_5, .int .i64 a2_6, .int .i64 a2_7, .string a2_8, .int .i64 a2_9, .slice A2_10 l2_10.length c2_10, .slice A2_11 l2_11.length c2_11]) (t := 32) ?hr ?_; (case hd => rfl); (case hg => rfl); (case hr => first | (go_simp; done) | (go_simp; rfl)); intro gb627 hg w7 hbox hb; have n0_ := mk_ (below_step (Short.hB HB) hb); have n1_ := mk_ (hbox); have n2_ := mk_ ((by rw [hg]; exact (below_size (Short.hB HB)) : w.heap.size ≤ gb627)); have n3_ := mk_ ((by rw [hg]; exact (below_size (Short.hB HB)) : w.heap.size ≤ gb627)); clear HB; revert n0_ n1_ n2_ n3_; intro HB BK627 GW627 GE627; clear hb hbox hg) | ((with_reducible refine gate_callee (f := 37) rfl ?_); refine Short.gL (some 9) Try.func37 #[.slice A1 l1.length c1] (h := ?_); (with_reducible refine (raddleref01_Forms.calls k _ _ l1 t628 _ ?side1 ?side2 A4.out).mono ?_); (case side1 => exact cX_ (C_below HR1.out HB.out)); (case side2 => exact HC1.out); rintro e w' ⟨rfl, ⟨nd, rfl⟩⟩; refine ⟨_, rfl, ?_⟩))
  go_ret
  exact ⟨q0, Short.hB HB⟩
 rw [if_neg c6] at H
 have c6b0 : decide (a0 < 1) = false := decide_eq_false c6
 clear c6
 by_cases c8 : a0 > 5
 ·
  rw [if_pos c8] at H
  have c8b0 : decide (5 < a0) = true := decide_eq_true c8
  clear c8
  obtain rfl := Option.some.inj H
  go_enter Try.func20, Try.ntmps20
  go_wp2_with (first | ((with_reducible refine gate_dst (N := 5) rfl ?_); refine box_event ?hg (N := 5) ?hd (cs := #[.int .i64 a2_0, .int .i64 a2_1, .slice A2_2 l2_2.length c2_2, .int .i64 a2_3, .int .i64 a2_4, .int .i64 a2_5, .int .i64 a2_6, .int .i64 a2_7, .string a2_8, .int .i64 a2_9, .slice A2_10 l2_10.length c2_10, .slice A2_11 l2_11.length c2_11]) (t := 32) ?hr ?_; (case hd => rfl); (case hg => rfl); (case hr => first | (go_simp; done) | (go_simp; rfl)); intro gb627 hg w9 hbox hb; have n0_ := mk_ (below_step (Short.hB HB) hb); have n1_ := mk_ (hbox); have n2_ := mk_ ((by rw [hg]; exact (below_size (Short.hB HB)) : w.heap.size ≤ gb627)); have n3_ := mk_ ((by rw [hg]; exact (below_size (Short.hB HB)) : w.heap.size ≤ gb627)); clear HB; revert n0_ n1_ n2_ n3_; intro HB BK627 GW627 GE627; clear hb hbox hg) | ((with_reducible refine gate_callee (f := 37) rfl ?_); refine Short.gL (some 9) Try.func37 #[.slice A1 l1.length c1] (h := ?_); (with_reducible refine (raddleref01_Forms.calls k _ _ l1 t628 _ ?side1 ?side2 A4.out).mono ?_); (case side1 => exact cX_ (C_below HR1.out HB.out)); (case side2 => exact HC1.out); rintro e w' ⟨rfl, ⟨nd, rfl⟩⟩; refine ⟨_, rfl, ?_⟩))
  go_ret
  exact ⟨q0, Short.hB HB⟩
 rw [if_neg c8] at H
 have c8b0 : decide (5 < a0) = false := decide_eq_false c8
 clear c8
 obtain ⟨t629, A10, H⟩ := Option.bind_eq_some_iff.mp H
 replace A10 := mk_ A10
 by_cases c11 : t629 = true
 ·
  subst c11
  rw [if_pos rfl] at H
  obtain rfl := Option.some.inj H
  go_enter Try.func20, Try.ntmps20
  go_wp2_with (first | ((with_reducible refine gate_dst (N := 5) rfl ?_); refine box_event ?hg (N := 5) ?hd (cs := #[.int .i64 a2_0, .int .i64 a2_1, .slice A2_2 l2_2.length c2_2, .int .i64 a2_3, .int .i64 a2_4, .int .i64 a2_5, .int .i64 a2_6, .int .i64 a2_7, .string a2_8, .int .i64 a2_9, .slice A2_10 l2_10.length c2_10, .slice A2_11 l2_11.length c2_11]) (t := 32) ?hr ?_; (case hd => rfl); (case hg => rfl); (case hr => first | (go_simp; done) | (go_simp; rfl)); intro gb627 hg w12 hbox hb; have n0_ := mk_ (below_step (Short.hB HB) hb); have n1_ := mk_ (hbox); have n2_ := mk_ ((by rw [hg]; exact (below_size (Short.hB HB)) : w.heap.size ≤ gb627)); have n3_ := mk_ ((by rw [hg]; exact (below_size (Short.hB HB)) : w.heap.size ≤ gb627)); clear HB; revert n0_ n1_ n2_ n3_; intro HB BK627 GW627 GE627; clear hb hbox hg) | ((with_reducible refine gate_callee (f := 37) rfl ?_); refine Short.gL (some 9) Try.func37 #[.slice A1 l1.length c1] (h := ?_); (with_reducible refine (raddleref01_Forms.calls k _ _ l1 t628 _ ?side1 ?side2 A4.out).mono ?_); (case side1 => exact cX_ (C_below HR1.out HB.out)); (case side2 => exact HC1.out); rintro e w' ⟨rfl, ⟨nd, rfl⟩⟩; refine ⟨_, rfl, ?_⟩; have hcz_0 := blk_cell BK627.out; have hfz_0 := blk_frozen BK627.out) | (go_at_call 38; (with_reducible refine (raddleref01_Op.calls a0 _ _ l1 a2_0 a2_1 _ _ l2_2 a2_3 a2_4 a2_5 a2_6 a2_7 a2_8 a2_9 _ _ l2_10 _ _ l2_11 true _ ?side1 ?side2 ?side3 ?side4 ?side5 ?side6 ?side7 ?side8 A10.out).mono ?_); (case side1 => exact cX_ (C_below HR1.out (Short.hB HB))); (case side2 => exact HC1.out); (case side3 => exact cX_ (C_below HR2_2.out (Short.hB HB))); (case side4 => exact HC2_2.out); (case side5 => exact cX_ (C_below HR2_10.out (Short.hB HB))); (case side6 => exact HC2_10.out); (case side7 => exact cX_ (C_below HR2_11.out (Short.hB HB))); (case side8 => exact HC2_11.out); rintro e w14 ⟨rfl, hb⟩; have n0_ := mk_ (bB_ BK627 hb); have n1_ := mk_ (below_step (Short.hB HB) hb); clear BK627 HB; revert n0_ n1_; intro BK627 HB; (try clear hb); (try clear hb2); (try clear hk); (try clear hi)))
  go_ret
  exact ⟨q0, Short.hB HB⟩
 replace c11 := Bool.eq_false_iff.mpr c11
 subst c11
 rw [if_neg (show ¬ (false = true) by decide)] at H
 obtain rfl := Option.some.inj H
 go_enter Try.func20, Try.ntmps20
 go_wp2_with (first | ((with_reducible refine gate_dst (N := 5) rfl ?_); refine box_event ?hg (N := 5) ?hd (cs := #[.int .i64 a2_0, .int .i64 a2_1, .slice A2_2 l2_2.length c2_2, .int .i64 a2_3, .int .i64 a2_4, .int .i64 a2_5, .int .i64 a2_6, .int .i64 a2_7, .string a2_8, .int .i64 a2_9, .slice A2_10 l2_10.length c2_10, .slice A2_11 l2_11.length c2_11]) (t := 32) ?hr ?_; (case hd => rfl); (case hg => rfl); (case hr => first | (go_simp; done) | (go_simp; rfl)); intro gb627 hg w15 hbox hb; have n0_ := mk_ (below_step (Short.hB HB) hb); have n1_ := mk_ (hbox); have n2_ := mk_ ((by rw [hg]; exact (below_size (Short.hB HB)) : w.heap.size ≤ gb627)); have n3_ := mk_ ((by rw [hg]; exact (below_size (Short.hB HB)) : w.heap.size ≤ gb627)); clear HB; revert n0_ n1_ n2_ n3_; intro HB BK627 GW627 GE627; clear hb hbox hg) | ((with_reducible refine gate_callee (f := 37) rfl ?_); refine Short.gL (some 9) Try.func37 #[.slice A1 l1.length c1] (h := ?_); (with_reducible refine (raddleref01_Forms.calls k _ _ l1 t628 _ ?side1 ?side2 A4.out).mono ?_); (case side1 => exact cX_ (C_below HR1.out HB.out)); (case side2 => exact HC1.out); rintro e w' ⟨rfl, ⟨nd, rfl⟩⟩; refine ⟨_, rfl, ?_⟩; have hcz_0 := blk_cell BK627.out; have hfz_0 := blk_frozen BK627.out) | (go_at_call 38; (with_reducible refine (raddleref01_Op.calls a0 _ _ l1 a2_0 a2_1 _ _ l2_2 a2_3 a2_4 a2_5 a2_6 a2_7 a2_8 a2_9 _ _ l2_10 _ _ l2_11 false _ ?side1 ?side2 ?side3 ?side4 ?side5 ?side6 ?side7 ?side8 A10.out).mono ?_); (case side1 => exact cX_ (C_below HR1.out (Short.hB HB))); (case side2 => exact HC1.out); (case side3 => exact cX_ (C_below HR2_2.out (Short.hB HB))); (case side4 => exact HC2_2.out); (case side5 => exact cX_ (C_below HR2_10.out (Short.hB HB))); (case side6 => exact HC2_10.out); (case side7 => exact cX_ (C_below HR2_11.out (Short.hB HB))); (case side8 => exact HC2_11.out); rintro e w17 ⟨rfl, hb⟩; have n0_ := mk_ (bB_ BK627 hb); have n1_ := mk_ (below_step (Short.hB HB) hb); clear BK627 HB; revert n0_ n1_; intro BK627 HB; (try clear hb); (try clear hb2); (try clear hk); (try clear hi)))
 go_ret
 exact ⟨q0, Short.hB HB⟩
end Go.Proofs.Ytjnjfogfpmeacaa.PAll
end
