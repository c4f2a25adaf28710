-- Put together by a program of this session (wip/slice2.py) out of the seat's texts.
import Derived.Test.YtjnjfogfpmeacaaZOUp4
import Derived.Sort.Walk0
set_option maxHeartbeats 8000000
set_option maxRecDepth 100000
open Go.Proofs.YtjnjfogfpmeacaaW Go.Proofs.Ytjnjfogfpmeacaa
section
namespace Go.Proofs.Ytjnjfogfpmeacaa.Plain
open Go.RowKit PAll PrintWords PrintLast PrintMore ZipT PrintWords.Kd PrintMore.Kd
set_option linter.unusedVariables false
set_option linter.unusedSimpArgs false
theorem toList_nil (s : ByteArray) : s.toList = ([] : List UInt8) ↔ s.size = 0 := by
 rw [toList_data, show s.size = s.data.toList.length from by rw [Array.length_toList]; rfl]
 exact List.length_eq_zero_iff.symm
theorem toList_inj {s t : ByteArray} : s.toList = t.toList ↔ s = t := by
 rw [toList_data, toList_data]
 constructor
 ·
  intro h
  have : s.data = t.data := by rw [← Array.toList_inj]; exact h
  cases s; cases t; simp_all
 ·
  intro h; rw [h]
theorem size_zero {s : ByteArray} (h : s.size = 0) : s = ⟨#[]⟩ := by
 rw [← toList_inj, (toList_nil s).2 h]; exact ((toList_nil _).2 rfl).symm
def vOk (k i : Int) (s : ByteArray) : Prop :=
 (k = 1 ∧ i = 0 ∧ s.size = 0) ∨ (k = 2 ∧ (i = 0 ∨ i = 1) ∧ s.size = 0) ∨ (k = 3 ∧ (-1152921504606846976 ≤ i ∧ i ≤ 1152921504606846976) ∧ s.size = 0) ∨ (k = 4 ∧ i = 0 ∧ s.size ≤ 24)
instance (k i : Int) (s : ByteArray) : Decidable (vOk k i s) := by unfold vOk; infer_instance
theorem within_v (n m : Int) (h0 : 0 ≤ m) (h1 : m ≤ 9223372036854775807) : value_within.f n m = some (decide (-m ≤ n ∧ n ≤ m)) := by
 unfold value_within.f
 rw [w64 (x := -m) z4_ z4_]
 by_cases h : n ≥ -m
 ·
  rw [if_pos h]; congr 1; simp; omega
 rw [if_neg h]; congr 1; simp; omega
theorem check_eq (k i : Int) (s : ByteArray) : value_Check.f k i s = some (if vOk k i s then 0 else 1) := by
 unfold value_Check.f
 rw [within_v i 1152921504606846976 z4_ z4_]
 simp only [toList_nil, Option.bind_some, decide_eq_true_eq]
 by_cases ho : vOk k i s
 ·
  rw [if_pos ho]; unfold vOk at ho; repeat' split
  all_goals first | rfl | (exfalso; omega)
 rw [if_neg ho]; unfold vOk at ho; repeat' split
 all_goals first | rfl | (exfalso; omega)
theorem keepValue_eq (k1 i1 : Int) (s1 : ByteArray) (k2 i2 : Int) (s2 : ByteArray) : raddlekeep_Value.f k1 i1 s1 k2 i2 s2 = some (decide (k1 = k2 ∧ i1 = i2 ∧ s1 = s2)) := by
 unfold raddlekeep_Value.f
 by_cases h1 : k1 = k2
 rotate_left
 ·
  rw [if_neg h1]; simp [h1]
 rw [if_pos h1]
 by_cases h2 : i1 = i2
 rotate_left
 ·
  rw [if_neg h2]; simp [h2]
 rw [if_pos h2]; congr 1
 by_cases h3 : s1 = s2
 ·
  simp [h1, h2, h3]
 rw [decide_eq_false (by simp [h3]), beq_eq_false_iff_ne]; exact fun e => h3 (toList_inj.1 e)
def vFits (k i : Int) (s : ByteArray) (t : Int) : Prop := (2 ≤ t ∧ t ≤ 4) ∧ vOk k i s ∧ (k = t ∨ k = 1)
instance (k i : Int) (s : ByteArray) (t : Int) : Decidable (vFits k i s t) := by unfold vFits; infer_instance
theorem beq_one (k : Int) : (k == 1) = decide (k = 1) := by by_cases h : k = 1 <;> simp [h]
theorem fits_eq (k i : Int) (s : ByteArray) (t : Int) : value_Fits.f k i s t = some (decide (vFits k i s t)) := by
 unfold value_Fits.f vFits
 simp only [check_eq, Option.bind_some, beq_one]
 by_cases ho : vOk k i s
 ·
  simp only [ho, if_true, true_and]
  repeat' split
  all_goals first | rfl | (exfalso; omega) | (congr 1; rw [decide_eq_decide]; omega) | (congr 1; rw [eq_comm, decide_eq_true_eq]; omega) | (congr 1; rw [eq_comm, decide_eq_false_iff_not]; omega)
 simp only [ho, if_false, false_and, and_false]
 repeat' split
 all_goals first | rfl | (exfalso; omega) | (congr 1; rw [decide_eq_decide]; omega) | (congr 1; rw [eq_comm, decide_eq_true_eq]; omega) | (congr 1; rw [eq_comm, decide_eq_false_iff_not]; omega)
def vSmall (k i : Int) (s : ByteArray) : Prop := vOk k i s ∧ (k = 3 → -2147483648 ≤ i ∧ i ≤ 2147483648)
instance (k i : Int) (s : ByteArray) : Decidable (vSmall k i s) := by unfold vSmall; infer_instance
theorem small_eq (k i : Int) (s : ByteArray) : value_Small.f k i s = some (decide (vSmall k i s)) := by
 unfold value_Small.f vSmall
 simp only [check_eq, within_v i 2147483648 z4_ z4_, Option.bind_some]
 by_cases ho : vOk k i s
 rotate_left
 ·
  simp [ho]
 simp only [ho, if_true, true_and]
 by_cases h : k = 3 <;> simp [h]
def sVB (k i : Int) (s : ByteArray) : List Int := if k = 2 then [2, i] else if k = 3 then 3 :: intB i else if k = 4 then 4 :: (s.size : Int) :: bytesOf s else [1]
theorem vbytes_eq (fuel : Nat) (k i : Int) (s : ByteArray) (hk : 30 ≤ fuel) : value_Bytes.f fuel k i s = some (if vOk k i s then (sVB k i s, 0) else ([], 1)) := by
 unfold value_Bytes.f
 rw [check_eq, Option.bind_some]
 by_cases ho : vOk k i s
 rotate_left
 ·
  rw [if_neg ho, if_neg z5_, if_neg ho]
 rw [if_pos ho, if_pos rfl, Option.bind_some]
 have ho' := ho
 unfold vOk at ho'
 unfold sVB
 by_cases h2 : k = 2
 ·
  rw [if_pos h2, if_pos h2, if_pos (by simp), if_pos ho]
  subst h2
  have : i % 256 = i := by omega
  simp [this]
 rw [if_neg h2, if_neg h2]
 by_cases h3 : k = 3
 ·
  rw [if_pos h3, if_pos h3, putInt_eq _ _ _ (by simp) z4_, Option.bind_some, if_pos ho]
  subst h3
  unfold sPutInt
  rw [if_pos z4_]
  simp
 rw [if_neg h3, if_neg h3]
 by_cases h4 : k = 4
 ·
  rw [if_pos h4, if_pos h4, putText_eq _ _ (by simp), Option.bind_some, if_pos ho]
  subst h4
  unfold sPutText
  rw [if_pos z4_]
  simp
 have h1 : k = 1 := by omega
 rw [if_neg h4, if_neg h4, if_pos ho, h1]
 rfl
def bad (e : Int) : Int × Int × ByteArray × Int × Int := (0, 0, ⟨#[]⟩, 0, e)
def sVRead (l : List Int) (at_ : Int) : Int × Int × ByteArray × Int × Int :=
  if 0 ≤ at_ ∧ at_ ≤ l.length then
    (if at_ = l.length then bad 3
     else if rd l at_ = 1 then (1, 0, ⟨#[]⟩, at_ + 1, 0)
     else if rd l at_ = 2 then (if at_ + 1 < l.length ∧ rd l (at_ + 1) ≤ 1 then (2, rd l (at_ + 1), ⟨#[]⟩, at_ + 2, 0) else bad 3)
     else if rd l at_ = 3 then (if (sGetInt l (at_ + 1)).2.2 = 0 then (3, (sGetInt l (at_ + 1)).1, ⟨#[]⟩, (sGetInt l (at_ + 1)).2.1, 0) else bad 3)
     else if rd l at_ = 4 then (if (sGetText l (at_ + 1)).2.2 = 0 then (4, 0, (sGetText l (at_ + 1)).1, (sGetText l (at_ + 1)).2.1, 0) else bad 3)
     else bad 3)
  else bad 1
theorem sub_one {l : List Int} {i : Int} (h0 : 0 ≤ i) (h1 : i < l.length) : sub l i.toNat (i + 1).toNat = [rd l i] := by
 obtain ⟨j, rfl⟩ := Int.eq_ofNat_of_zero_le h0
 rw [Int.toNat_natCast, show ((j : Int) + 1).toNat = j + 1 from by omega, sub_cons z4_ z4_]
 have : sub l (j + 1) (j + 1) = [] := List.eq_nil_of_length_eq_zero (by rw [sub_length z4_]; omega)
 rw [this]
theorem sGet_one (l : List Int) (at_ : Int) : sGet l at_ 1 = if 0 ≤ at_ ∧ at_ ≤ l.length then (if at_ = l.length then (0, 0, 3) else (rd l at_, at_ + 1, 0)) else (0, 0, 1) := by
 unfold sGet
 by_cases h : 0 ≤ at_ ∧ at_ ≤ l.length
 rotate_left
 ·
  rw [if_neg z4_, if_neg h]
 rw [if_pos z4_, if_pos h]
 by_cases h2 : at_ = l.length
 ·
  rw [if_pos z4_, if_pos h2]
 rw [if_neg z4_, if_neg h2, sub_one z4_ z4_]
 simp [val]
theorem sGet_next (l : List Int) (at_ : Int) (h : 0 ≤ at_ ∧ at_ ≤ l.length) (h2 : ¬ at_ = l.length) : sGet l (at_ + 1) 1 = if at_ + 1 = l.length then (0, 0, 3) else (rd l (at_ + 1), at_ + 1 + 1, 0) := by
 rw [sGet_one, if_pos z4_]
theorem getInt_bd {l : List Int} {at_ : Int} (h : (sGetInt l at_).2.2 = 0) : -1152921504606846976 ≤ (sGetInt l at_).1 ∧ (sGetInt l at_).1 ≤ 1152921504606846976 ∨ ¬ Bytes l := by
 by_cases hb : Bytes l
 rotate_left
 ·
  exact .inr hb
 left
 have hv := val_nonneg (sub l (at_ + 1).toNat (at_ + 9).toNat) 0 z4_ (sub_bytes hb _ _)
 unfold sGetInt at h ⊢
 split at h
 ·
  rename_i h1
  rw [if_pos h1]
  split at h
  ·
   simp at h
  ·
   rename_i h2
   rw [if_neg h2]
   split <;> simp only <;> omega
 ·
  simp at h
theorem div_of {n p q : Int} (hp : 0 < p) (h0 : q * p ≤ n) (h1 : n < (q + 1) * p) : n / p = q := by
 have h2 : (q + 1) * p = q * p + p := by rw [Int.add_mul, Int.one_mul]
 exact ((Int.ediv_emod_unique (r := n - q * p) hp).2 ⟨by rw [Int.mul_comm p q]; omega, by omega, by omega⟩).1
theorem big_val (l : List Int) (hb : Bytes l) : big (val 0 l) l.length = l := by
 suffices ∀ a : Int, 0 ≤ a → big (val a l) l.length = l from this 0 z4_
 induction l with
 | nil => intro a _; rfl
 | cons b l ih =>
  intro a ha
  have hh := hb.head
  unfold Byte at hh
  have hv0 := val_ge l (a * 256 + b) z4_ hb.tail
  have hv1 := val_lt l (a * 256 + b) z4_ hb.tail
  rw [List.length_cons, big]
  show val (a * 256 + b) l / 256 ^ l.length % 256 :: big (val (a * 256 + b) l) l.length = _
  rw [div_of (pow_pos _) hv0 hv1, ih hb.tail _ z4_]
  congr 1
  omega
theorem getInt_sub {l : List Int} {at_ : Int} (hb : Bytes l) (h : (sGetInt l at_).2.2 = 0) : (sGetInt l at_).2.1 = at_ + 9 ∧ (0 ≤ at_ ∧ at_ + 9 ≤ l.length) ∧ intB (sGetInt l at_).1 = sub l at_.toNat (at_ + 9).toNat := by
 have hv := val_nonneg (sub l (at_ + 1).toNat (at_ + 9).toNat) 0 z4_ (sub_bytes hb _ _)
 have hr := hb.rd at_
 unfold Byte at hr
 unfold sGetInt at h ⊢
 by_cases h1 : 0 ≤ at_ ∧ at_ ≤ l.length
 rotate_left
 ·
  rw [if_neg h1] at h; simp at h
 rw [if_pos h1] at h ⊢
 by_cases h2 : l.length - at_ < 9 ∨ rd l at_ > 1 ∨ val 0 (sub l (at_ + 1).toNat (at_ + 9).toNat) > 1152921504606846976 ∨ (rd l at_ = 1 ∧ val 0 (sub l (at_ + 1).toNat (at_ + 9).toNat) = 0)
 ·
  rw [if_pos h2] at h; simp at h
 rw [if_neg h2]
 obtain ⟨i, rfl⟩ := Int.eq_ofNat_of_zero_le h1.1
 have hb8 : big (val 0 (sub l ((i : Int) + 1).toNat ((i : Int) + 9).toNat)) 8 = sub l ((i : Int) + 1).toNat ((i : Int) + 9).toNat := by
  have := big_val (sub l ((i : Int) + 1).toNat ((i : Int) + 9).toNat) (sub_bytes hb _ _)
  rw [sub_length z4_, show ((i : Int) + 9).toNat - ((i : Int) + 1).toNat = 8 from by omega] at this
  exact this
 have hc : sub l (i : Int).toNat ((i : Int) + 9).toNat = rd l (i : Int) :: sub l ((i : Int) + 1).toNat ((i : Int) + 9).toNat := by
  rw [Int.toNat_natCast, show ((i : Int) + 1).toNat = i + 1 from by omega, sub_cons z4_ z4_]
 rw [hc]
 by_cases h3 : rd l (i : Int) = 1
 ·
  rw [if_pos h3]
  refine ⟨rfl, by omega, ?_⟩
  unfold intB
  simp only
  rw [if_pos z4_, Int.neg_neg, hb8, h3]
 rw [if_neg h3]
 refine ⟨rfl, by omega, ?_⟩
 unfold intB
 simp only
 rw [if_neg z4_, hb8, show rd l (i : Int) = 0 from by omega]
theorem getText_sub {l : List Int} {at_ : Int} (hb : Bytes l) (h : (sGetText l at_).2.2 = 0) : (at_ + 1 ≤ (sGetText l at_).2.1 ∧ (sGetText l at_).2.1 ≤ l.length) ∧ 0 ≤ at_ ∧ ((sGetText l at_).1.size : Int) :: bytesOf (sGetText l at_).1 = sub l at_.toNat (sGetText l at_).2.1.toNat := by
 have hr := hb.rd at_
 unfold Byte at hr
 unfold sGetText at h ⊢
 by_cases h1 : 0 ≤ at_ ∧ at_ ≤ l.length
 rotate_left
 ·
  rw [if_neg h1] at h; simp at h
 rw [if_pos h1] at h ⊢
 by_cases h2 : at_ = l.length ∨ rd l at_ > 24 ∨ l.length - at_ - 1 < rd l at_
 ·
  rw [if_pos h2] at h; simp at h
 rw [if_neg h2]
 obtain ⟨i, rfl⟩ := Int.eq_ofNat_of_zero_le h1.1
 refine ⟨by simp only; omega, by omega, ?_⟩
 simp only
 rw [strOfNums_size, bytesOf_strOfNums (sub_bytes hb _ _), sub_length z4_, Int.toNat_natCast, show ((i : Int) + 1).toNat = i + 1 from by omega, sub_cons (i := i) z4_ z4_]
 congr 1
 omega
theorem getText_bd {l : List Int} {at_ : Int} (hb : Bytes l) (h : (sGetText l at_).2.2 = 0) : (sGetText l at_).1.size ≤ 24 := by
 have hr := hb.rd at_
 unfold Byte at hr
 unfold sGetText at h ⊢
 split at h
 ·
  rename_i h1
  rw [if_pos h1]
  split at h
  ·
   simp at h
  ·
   rename_i h2
   rw [if_neg h2]
   simp only
   rw [strOfNums_size, sub_length z4_]
   omega
 ·
  simp at h
theorem vread_eq (fuel : Nat) (l : List Int) (at_ : Int) (hb : Bytes l) (hl : l.length ≤ 1000000) (ha : at_ ≤ 9223372036854775807) (hk : 30 ≤ fuel) : value_Read.f fuel l at_ = some (sVRead l at_) := by
 unfold value_Read.f sVRead
 rw [get_eq _ _ _ _ hb hl ha z4_, Option.bind_some, sGet_one]
 by_cases h : 0 ≤ at_ ∧ at_ ≤ l.length
 rotate_left
 ·
  rw [if_neg h, if_neg h, if_neg z5_]; rfl
 rw [if_pos h, if_pos h]
 by_cases h2 : at_ = l.length
 ·
  rw [if_pos h2, if_pos h2, if_neg z5_]; rfl
 have hr := hb.rd at_
 unfold Byte at hr
 rw [if_neg h2, if_neg h2, if_pos rfl]
 simp only
 by_cases k2 : rd l at_ = 2
 ·
  rw [if_pos k2, if_neg z4_, if_pos k2, get_eq _ _ _ _ hb hl z4_ z4_, Option.bind_some, sGet_next _ _ h h2]
  have hr1 := hb.rd (at_ + 1)
  unfold Byte at hr1
  by_cases h3 : at_ + 1 = l.length
  ·
   rw [if_pos h3]
   simp only
   rw [if_neg (show ¬ ((3 : Int) = 0) by decide), if_neg z4_]; rfl
  rw [if_neg h3]
  simp only
  rw [if_pos trivial, check_eq, Option.bind_some, k2]
  by_cases h4 : rd l (at_ + 1) ≤ 1
  ·
   rw [if_pos (show vOk 2 (rd l (at_ + 1)) ⟨#[]⟩ from .inr (.inl ⟨rfl, by omega, rfl⟩)), if_pos rfl, if_pos z4_, show at_ + 1 + 1 = at_ + 2 from by omega]
  rw [if_neg (show ¬ vOk 2 (rd l (at_ + 1)) ⟨#[]⟩ from by unfold vOk; omega), if_neg z5_, if_neg z4_]; rfl
 rw [if_neg k2]
 by_cases k3 : rd l at_ = 3
 ·
  rw [if_pos k3, if_neg z4_, if_neg k2, if_pos k3, getInt_eq _ _ _ hb hl z4_ z4_, Option.bind_some, k3]
  by_cases h4 : (sGetInt l (at_ + 1)).2.2 = 0
  rotate_left
  ·
   rw [if_neg h4, if_neg h4]; rfl
  have := (getInt_bd h4).resolve_right (fun h => h hb)
  rw [if_pos h4, if_pos h4, check_eq, Option.bind_some, if_pos (show vOk 3 _ ⟨#[]⟩ from .inr (.inr (.inl ⟨rfl, this, rfl⟩))), if_pos rfl]
 rw [if_neg k3]
 by_cases k4 : rd l at_ = 4
 ·
  rw [if_pos k4, if_neg z4_, if_neg k2, if_neg k3, if_pos k4, getText_eq _ _ _ hb hl z4_ z4_, Option.bind_some, k4]
  by_cases h4 : (sGetText l (at_ + 1)).2.2 = 0
  rotate_left
  ·
   rw [if_neg h4, if_neg h4]; rfl
  have := getText_bd hb h4
  rw [if_pos h4, if_pos h4, check_eq, Option.bind_some, if_pos (show vOk 4 0 _ from .inr (.inr (.inr ⟨rfl, rfl, this⟩))), if_pos rfl]
 rw [if_neg k4, check_eq, Option.bind_some, if_neg k2, if_neg k3, if_neg k4]
 by_cases k1 : rd l at_ = 1
 ·
  rw [if_pos k1, k1, if_pos (show vOk 1 0 ⟨#[]⟩ from .inl ⟨rfl, rfl, rfl⟩), if_pos rfl]
 rw [if_neg k1, if_neg (by unfold vOk; omega)]; rfl
theorem len_one (a : List Int) (x : Int) : ((a ++ [x]).length : Int) = (a.length : Int) + 1 := by simp
theorem vread_put (a c : List Int) (k i : Int) (s : ByteArray) (ho : vOk k i s) : sVRead (a ++ sVB k i s ++ c) a.length = (k, i, s, (a.length : Int) + (sVB k i s).length, 0) := by
 unfold vOk at ho
 unfold sVRead
 by_cases h2 : k = 2
 ·
  subst h2
  have hs := size_zero (s := s) z4_
  have e : sVB 2 i s = [2, i] := rfl
  have hl : (a ++ sVB 2 i s ++ c).length = a.length + 2 + c.length := by rw [e]; simp; omega
  have r0 : rd (a ++ sVB 2 i s ++ c) (a.length : Int) = 2 := by rw [e, List.append_assoc]; exact rd_mid _ _ _ rfl
  have r1 : rd (a ++ sVB 2 i s ++ c) ((a.length : Int) + 1) = i := by
   have : a ++ sVB 2 i s ++ c = (a ++ [2]) ++ i :: c := by rw [e]; simp
   rw [this]; exact rd_mid _ _ _ (by simp)
  rw [if_pos z4_, if_neg z4_, r0, if_neg z5_, if_pos rfl, r1, if_pos z4_, hs]
  rfl
 by_cases h3 : k = 3
 ·
  subst h3
  have hs := size_zero (s := s) z4_
  have e : sVB 3 i s = 3 :: intB i := rfl
  have hl : (a ++ sVB 3 i s ++ c).length = a.length + 10 + c.length := by rw [e]; simp [intB_length]; omega
  have r0 : rd (a ++ sVB 3 i s ++ c) (a.length : Int) = 3 := by rw [e, List.append_assoc]; exact rd_mid _ _ _ rfl
  have g := getInt_put (a ++ [3]) c i z4_ z4_
  rw [show a ++ [3] ++ intB i ++ c = a ++ sVB 3 i s ++ c from by rw [e]; simp, len_one a 3] at g
  rw [if_pos z4_, if_neg z4_, r0, if_neg z5_, if_neg z5_, if_pos rfl, g, if_pos rfl, hs, show sVB 3 i ⟨#[]⟩ = 3 :: intB i from rfl, List.length_cons, intB_length]
  simp only [Prod.mk.injEq, true_and, and_true]
  omega
 by_cases h4 : k = 4
 ·
  subst h4
  have hi : i = 0 := by omega
  have e : sVB 4 i s = 4 :: (s.size : Int) :: bytesOf s := rfl
  have hl : (a ++ sVB 4 i s ++ c).length = a.length + 2 + s.size + c.length := by rw [e]; simp [bytesOf_length]; omega
  have r0 : rd (a ++ sVB 4 i s ++ c) (a.length : Int) = 4 := by rw [e, List.append_assoc]; exact rd_mid _ _ _ rfl
  have g := getText_put (a ++ [4]) c s z4_
  rw [show a ++ [4] ++ (s.size : Int) :: bytesOf s ++ c = a ++ sVB 4 i s ++ c from by rw [e]; simp, len_one a 4] at g
  rw [if_pos z4_, if_neg z4_, r0, if_neg z5_, if_neg z5_, if_neg z5_, if_pos rfl, g, if_pos rfl, hi, show sVB 4 0 s = 4 :: (s.size : Int) :: bytesOf s from rfl, List.length_cons, List.length_cons, bytesOf_length]
  simp only [Prod.mk.injEq, true_and, and_true]
  omega
 have h1 : k = 1 := by omega
 subst h1
 have hs := size_zero (s := s) z4_
 have hi : i = 0 := by omega
 have e : sVB 1 i s = [1] := rfl
 have hl : (a ++ sVB 1 i s ++ c).length = a.length + 1 + c.length := by rw [e]; simp; omega
 have r0 : rd (a ++ sVB 1 i s ++ c) (a.length : Int) = 1 := by rw [e, List.append_assoc]; exact rd_mid _ _ _ rfl
 rw [if_pos z4_, if_neg z4_, r0, if_pos rfl, hs, hi]
 rfl
theorem vread_sub {l : List Int} {at_ : Int} (hb : Bytes l) (h : (sVRead l at_).2.2.2.2 = 0) :
  vOk (sVRead l at_).1 (sVRead l at_).2.1 (sVRead l at_).2.2.1 ∧ 0 ≤ at_ ∧ at_ ≤ (sVRead l at_).2.2.2.1 ∧ (sVRead l at_).2.2.2.1 ≤ l.length ∧
  sVB (sVRead l at_).1 (sVRead l at_).2.1 (sVRead l at_).2.2.1 = sub l at_.toNat (sVRead l at_).2.2.2.1.toNat := by
 by_cases h1 : 0 ≤ at_ ∧ at_ ≤ l.length
 rotate_left
 ·
  unfold sVRead at h; rw [if_neg h1] at h; simp [bad] at h
 by_cases h2 : at_ = l.length
 ·
  unfold sVRead at h; rw [if_pos h1, if_pos h2] at h; simp [bad] at h
 have hr := hb.rd at_
 unfold Byte at hr
 obtain ⟨i, rfl⟩ := Int.eq_ofNat_of_zero_le h1.1
 have c1 : ∀ j, i < j → j ≤ l.length → sub l i j = rd l (i : Int) :: sub l (i + 1) j := fun j a b => sub_cons a b
 by_cases k1 : rd l (i : Int) = 1
 ·
  have e : sVRead l i = (1, 0, ⟨#[]⟩, (i : Int) + 1, 0) := by unfold sVRead; rw [if_pos h1, if_neg h2, if_pos k1]
  rw [e]
  refine ⟨.inl ⟨rfl, rfl, rfl⟩, by omega, by simp only; omega, by simp only; omega, ?_⟩
  simp only
  rw [show ((i : Int) + 1).toNat = i + 1 from by omega, Int.toNat_natCast, c1 _ z4_ z4_, k1]
  have : sub l (i + 1) (i + 1) = [] := List.eq_nil_of_length_eq_zero (by rw [sub_length z4_]; omega)
  rw [this]; rfl
 by_cases k2 : rd l (i : Int) = 2
 ·
  have hr1 := hb.rd ((i : Int) + 1)
  unfold Byte at hr1
  by_cases h3 : (i : Int) + 1 < l.length ∧ rd l ((i : Int) + 1) ≤ 1
  rotate_left
  ·
   unfold sVRead at h; rw [if_pos h1, if_neg h2, if_neg k1, if_pos k2, if_neg h3] at h; simp [bad] at h
  have e : sVRead l i = (2, rd l ((i : Int) + 1), ⟨#[]⟩, (i : Int) + 2, 0) := by unfold sVRead; rw [if_pos h1, if_neg h2, if_neg k1, if_pos k2, if_pos h3]
  rw [e]
  refine ⟨.inr (.inl ⟨rfl, by simp only; omega, rfl⟩), by omega, by simp only; omega, by simp only; omega, ?_⟩
  simp only
  rw [show ((i : Int) + 2).toNat = i + 2 from by omega, Int.toNat_natCast, c1 _ z4_ z4_, k2, sub_cons z4_ z4_]
  have : sub l (i + 1 + 1) (i + 2) = [] := List.eq_nil_of_length_eq_zero (by rw [sub_length z4_]; omega)
  rw [this]; rfl
 by_cases k3 : rd l (i : Int) = 3
 ·
  by_cases h3 : (sGetInt l ((i : Int) + 1)).2.2 = 0
  rotate_left
  ·
   unfold sVRead at h; rw [if_pos h1, if_neg h2, if_neg k1, if_neg k2, if_pos k3, if_neg h3] at h; simp [bad] at h
  have e : sVRead l i = (3, (sGetInt l ((i : Int) + 1)).1, ⟨#[]⟩, (sGetInt l ((i : Int) + 1)).2.1, 0) := by unfold sVRead; rw [if_pos h1, if_neg h2, if_neg k1, if_neg k2, if_pos k3, if_pos h3]
  have hbd := (getInt_bd h3).resolve_right (fun h => h hb)
  obtain ⟨g1, g2, g3⟩ := getInt_sub hb h3
  rw [e]
  refine ⟨.inr (.inr (.inl ⟨rfl, hbd, rfl⟩)), by omega, by simp only; omega, by simp only; omega, ?_⟩
  simp only
  rw [g1, show ((i : Int) + 1 + 9).toNat = i + 10 from by omega, Int.toNat_natCast, c1 _ z4_ z4_, k3]
  rw [show ((i : Int) + 1).toNat = i + 1 from by omega, show ((i : Int) + 1 + 9).toNat = i + 10 from by omega] at g3
  rw [← g3]; rfl
 by_cases k4 : rd l (i : Int) = 4
 rotate_left
 ·
  unfold sVRead at h; rw [if_pos h1, if_neg h2, if_neg k1, if_neg k2, if_neg k3, if_neg k4] at h; simp [bad] at h
 by_cases h3 : (sGetText l ((i : Int) + 1)).2.2 = 0
 rotate_left
 ·
  unfold sVRead at h; rw [if_pos h1, if_neg h2, if_neg k1, if_neg k2, if_neg k3, if_pos k4, if_neg h3] at h; simp [bad] at h
 have e : sVRead l i = (4, 0, (sGetText l ((i : Int) + 1)).1, (sGetText l ((i : Int) + 1)).2.1, 0) := by unfold sVRead; rw [if_pos h1, if_neg h2, if_neg k1, if_neg k2, if_neg k3, if_pos k4, if_pos h3]
 have hbd := getText_bd hb h3
 obtain ⟨g1, g2, g3⟩ := getText_sub hb h3
 rw [e]
 refine ⟨.inr (.inr (.inr ⟨rfl, rfl, hbd⟩)), by omega, by simp only; omega, by simp only; omega, ?_⟩
 simp only
 rw [show ((i : Int) + 1).toNat = i + 1 from by omega] at g3
 rw [Int.toNat_natCast, c1 _ z4_ z4_, k4, ← g3]; rfl
theorem sVB_bytes {k i : Int} {s : ByteArray} (ho : vOk k i s) : Bytes (sVB k i s) := by
 unfold vOk at ho
 unfold sVB
 repeat' split
 ·
  exact Bytes.cons ⟨by decide, by decide⟩ (Bytes.cons ⟨by omega, by omega⟩ Bytes.nil)
 ·
  exact Bytes.cons ⟨by decide, by decide⟩ (intB_bytes _)
 ·
  exact Bytes.cons ⟨by decide, by decide⟩ (Bytes.cons ⟨by omega, by omega⟩ (bytesOf_bytes _))
 ·
  exact Bytes.cons ⟨by decide, by decide⟩ Bytes.nil
theorem sVB_length {k i : Int} {s : ByteArray} (ho : vOk k i s) : (sVB k i s).length = if k = 2 then 2 else if k = 3 then 10 else if k = 4 then 2 + s.size else 1 := by
 unfold sVB
 repeat' split
 all_goals simp [intB_length, bytesOf_length]
 omega
end Go.Proofs.Ytjnjfogfpmeacaa.Plain
end
section
namespace Go.Proofs.Ytjnjfogfpmeacaa.Plain
open Go.RowKit PAll PrintWords PrintLast PrintMore ZipT PrintWords.Kd PrintMore.Kd
set_option linter.unusedVariables false
set_option linter.unusedSimpArgs false
def isLong (v : S84) : Bool := decide ((v.f2.size : Int) > 300)
theorem long_l0 (l : List S84) (hl : l.length ≤ 1000000) (m : List S84) : ∀ (k i : Nat), l.drop i = m → m.length < k → raddlelaw03_Long.l0 k l (i : Int) = some (m.any isLong) := by
 induction m with
 | nil =>
  intro k i h hk
  obtain ⟨k, rfl⟩ : ∃ j, k = j + 1 := ⟨k - 1, by simp at hk; omega⟩
  have := List.drop_eq_nil_iff.1 h
  simp only [raddlelaw03_Long.l0]
  rw [if_neg z4_]; rfl
 | cons v m ih =>
  intro k i h hk
  obtain ⟨k, rfl⟩ : ∃ j, k = j + 1 := ⟨k - 1, by simp at hk; omega⟩
  have hi : i < l.length := by
   rcases Nat.lt_or_ge i l.length with h1 | h1
   ·
    exact h1
   ·
    rw [List.drop_eq_nil_iff.2 h1] at h; cases h
  have hr : rd_T84 l (i : Int) = v := by
   show l.getD ((i : Int).toNat) _ = v
   rw [Int.toNat_natCast, List.getD_eq_getElem?_getD]
   have : l[i]? = (l.drop i)[0]? := by rw [List.getElem?_drop]; simp
   rw [this, h]; rfl
  have ht : l.drop (i + 1) = m := by rw [← List.drop_drop, h]; rfl
  have := ih k (i + 1) ht (by simp at hk; omega)
  simp only [raddlelaw03_Long.l0]
  rw [if_pos z4_, if_pos z4_, hr, w64 z4_ z4_, show ((i : Int) + 1) = ((i + 1 : Nat) : Int) from rfl, this]
  by_cases hv : (v.f2.size : Int) > 300
  ·
   rw [if_pos hv]; simp [isLong, hv]
  rw [if_neg hv]; simp [isLong, hv]
theorem long_eq (k : Nat) (l : List S84) (hl : l.length ≤ 1000000) (hk : l.length + 1 ≤ k) : raddlelaw03_Long.f k l = some (l.any isLong) := by
 unfold raddlelaw03_Long.f
 have := long_l0 l hl l k 0 rfl z4_
 simpa using this
end Go.Proofs.Ytjnjfogfpmeacaa.Plain
end
section
namespace Go.Proofs.Ytjnjfogfpmeacaa.PAll
open Go.RowKit PrintWords PrintLast PrintMore ZipT PrintWords.Kd PrintMore.Kd
attribute [local go_sem] max2_int min2_int max_two min_two max_three min_three max_four min_four   -- for this text's walks alone
set_option linter.unusedVariables false
set_option linter.unusedSimpArgs false
def raddlelaw07_Heavy.l0 : Nat → List (S32) → Int → Option (Bool)
 | 0, _, _ => none
 | k + 1, x0, x3 => if x3 < (x0.length : Int) then (if 0 ≤ x3 then (if (((rd_T32 x0 x3).f1).length : Int) > 30 then (some true) else (if (((rd_T32 x0 x3).f5).size : Int) > 100 then (some true) else ((raddlelaw04_Heavy.f k ((rd_T32 x0 x3).f7)).bind fun t517 => (if t517 = true then (some true) else (if (((rd_T32 x0 x3).f8).length : Int) > 100 then (some true) else (raddlelaw07_Heavy.l0 k x0 (wrap64 (x3 + 1)))))))) else (none)) else (some false)
def raddlelaw07_Heavy.f (k : Nat) (l0 : List (S32)) : Option (Bool) := if (l0.length : Int) > 300 then (some true) else (raddlelaw07_Heavy.l0 k l0 0)
theorem raddlelaw07_Heavy.calls (k : Nat) (A0 : Option Addr) (c0 : Nat) (l0 : List (S32)) (r : Bool) (w : World) (hr0 : Kd.C k32 w A0 l0.length l0) (hc0 : l0.length ≤ c0) (h : raddlelaw07_Heavy.f k l0 = some r) :
  Calls Try.prog 18 #[.slice A0 l0.length c0] w fun e w' => e = .returned (.bool r) ∧ Drawn0 w w' := by
 have HR0 := mk_ hr0
 have HC0 := mk_ hc0
 clear hr0 hc0
 have H : (if (l0.length : Int) > 300 then (some true) else (raddlelaw07_Heavy.l0 k l0 0)) = some r := h
 clear h
 by_cases c2 : (l0.length : Int) > 300
 ·
  rw [if_pos c2] at H
  have c2b0 : decide (300 < (l0.length : Int)) = true := decide_eq_true c2
  have c2b1 : decide (300 < l0.length) = true := decide_eq_true z4_
  clear c2
  obtain rfl := Option.some.inj H
  go_enter Try.func18, Try.ntmps18
  go_wp2
  go_ret
  exact ⟨z3_, by repeat (first | exact Drawn0.refl _ | apply Drawn0.step)⟩
 rw [if_neg c2] at H
 have c2b0 : decide (300 < (l0.length : Int)) = false := decide_eq_false c2
 have c2b1 : decide (300 < l0.length) = false := decide_eq_false z4_
 clear c2
 have H' := mk_ H
 clear H
 go_enter Try.func18, Try.ntmps18
 go_wp2
 go_loopg [3] k (fun kq v3 w' => ∃ (x3_1 : Int), v3 = .int .i64 x3_1 ∧ Aside0 (raddlelaw07_Heavy.l0 kq l0 x3_1 = some r) ∧ Aside0 (kq ≤ k) ∧ Drawn0 w w')
 case atStart => exact ⟨(0), z3_, H', ⟨Nat.le_refl _⟩, by repeat (first | exact Drawn0.refl _ | apply Drawn0.step)⟩
 case round =>
  clear H'
  try clear c1
  try clear c2
  try clear c2b0
  try clear c2b1
  try clear p2
  obtain ⟨x3_1, rfl, HA, HK1, ⟨m1, rfl⟩⟩ := hrel
  cases gk with
  | zero => exact absurd HA.out (by simp [raddlelaw07_Heavy.l0])
  | succ k1 =>
   have H := HA.out
   clear HA
   simp only [raddlelaw07_Heavy.l0] at H
   by_cases c3 : x3_1 < (l0.length : Int)
   rotate_left
   ·
    rw [if_neg c3] at H
    have c3b0 : decide (x3_1 < (l0.length : Int)) = false := decide_eq_false c3
    clear c3
    obtain rfl := Option.some.inj H
    go_wp2
    go_ret
    exact ⟨z3_, by repeat (first | exact Drawn0.refl _ | apply Drawn0.step)⟩
   rw [if_pos c3] at H
   have c3b0 : decide (x3_1 < (l0.length : Int)) = true := decide_eq_true c3
   clear c3
   by_cases c4 : 0 ≤ x3_1
   rotate_left
   ·
    rw [if_neg c4] at H
    exact absurd H (by simp)
   rw [if_pos c4] at H
   have c4b0 : decide (0 ≤ x3_1) = true := decide_eq_true c4
   clear c4
   by_cases c5 : (((rd_T32 l0 x3_1).f1).length : Int) > 30
   ·
    rw [if_pos c5] at H
    have c5b0 : decide (30 < (((rd_T32 l0 x3_1).f1).length : Int)) = true := decide_eq_true c5
    have c5b1 : decide (30 < ((rd_T32 l0 x3_1).f1).length) = true := decide_eq_true z4_
    clear c5
    obtain rfl := Option.some.inj H
    have p514 : 0 ≤ (x3_1 : Int) := of_decide_eq_true z1_
    have q514 : x3_1 < (l0.length : Int) := of_decide_eq_true z1_
    obtain ⟨ad514, A514_2, c514_2, A514_10, c514_10, A514_11, c514_11, e514, hx514_0, hx514_1, hx514_2, hx514_3, hx514_4, hx514_5, hx514_6, hx514_7, hx514_8, hx514_9, hx514_10, hx514_11, hl514_2, hi514_2, hl514_10, hi514_10, hl514_11, hi514_11⟩ := at_T32 HR0.out x3_1 p514 q514
    cases e514
    have HR514_2 := mk_ hi514_2
    have HC514_2 := mk_ hl514_2
    clear hi514_2 hl514_2
    have HR514_10 := mk_ hi514_10
    have HC514_10 := mk_ hl514_10
    clear hi514_10 hl514_10
    have HR514_11 := mk_ hi514_11
    have HC514_11 := mk_ hl514_11
    clear hi514_11 hl514_11
    replace p514 := eq_true p514
    replace q514 := eq_true q514
    go_wp2
    go_ret
    exact ⟨z3_, by repeat (first | exact Drawn0.refl _ | apply Drawn0.step)⟩
   rw [if_neg c5] at H
   have c5b0 : decide (30 < (((rd_T32 l0 x3_1).f1).length : Int)) = false := decide_eq_false c5
   have c5b1 : decide (30 < ((rd_T32 l0 x3_1).f1).length) = false := decide_eq_false z4_
   clear c5
   by_cases c6 : (((rd_T32 l0 x3_1).f5).size : Int) > 100
   ·
    rw [if_pos c6] at H
    have c6b0 : decide (100 < (((rd_T32 l0 x3_1).f5).size : Int)) = true := decide_eq_true c6
    have c6b1 : decide (100 < ((rd_T32 l0 x3_1).f5).size) = true := decide_eq_true z4_
    clear c6
    obtain rfl := Option.some.inj H
    have p514 : 0 ≤ (x3_1 : Int) := of_decide_eq_true z1_
    have q514 : x3_1 < (l0.length : Int) := of_decide_eq_true z1_
    obtain ⟨ad514, A514_2, c514_2, A514_10, c514_10, A514_11, c514_11, e514, hx514_0, hx514_1, hx514_2, hx514_3, hx514_4, hx514_5, hx514_6, hx514_7, hx514_8, hx514_9, hx514_10, hx514_11, hl514_2, hi514_2, hl514_10, hi514_10, hl514_11, hi514_11⟩ := at_T32 HR0.out x3_1 p514 q514
    cases e514
    have HR514_2 := mk_ hi514_2
    have HC514_2 := mk_ hl514_2
    clear hi514_2 hl514_2
    have HR514_10 := mk_ hi514_10
    have HC514_10 := mk_ hl514_10
    clear hi514_10 hl514_10
    have HR514_11 := mk_ hi514_11
    have HC514_11 := mk_ hl514_11
    clear hi514_11 hl514_11
    replace p514 := eq_true p514
    replace q514 := eq_true q514
    have p515 : 0 ≤ (x3_1 : Int) := of_decide_eq_true z1_
    have q515 : x3_1 < (l0.length : Int) := of_decide_eq_true z1_
    obtain ⟨ad515, A515_2, c515_2, A515_10, c515_10, A515_11, c515_11, e515, hx515_0, hx515_1, hx515_2, hx515_3, hx515_4, hx515_5, hx515_6, hx515_7, hx515_8, hx515_9, hx515_10, hx515_11, hl515_2, hi515_2, hl515_10, hi515_10, hl515_11, hi515_11⟩ := at_T32 HR0.out x3_1 p515 q515
    obtain rfl : ad514 = ad515 := (by injection e515)
    have HR515_2 := mk_ hi515_2
    have HC515_2 := mk_ hl515_2
    clear hi515_2 hl515_2
    have HR515_10 := mk_ hi515_10
    have HC515_10 := mk_ hl515_10
    clear hi515_10 hl515_10
    have HR515_11 := mk_ hi515_11
    have HC515_11 := mk_ hl515_11
    clear hi515_11 hl515_11
    replace p515 := eq_true p515
    replace q515 := eq_true q515
    have ea_ := Option.some.inj (hx514_2.symm.trans hx515_2)
    injection ea_ with ea_ en_ ec_
    subst ea_
    subst ec_
    clear en_
    have ea_ := Option.some.inj (hx514_10.symm.trans hx515_10)
    injection ea_ with ea_ en_ ec_
    subst ea_
    subst ec_
    clear en_
    have ea_ := Option.some.inj (hx514_11.symm.trans hx515_11)
    injection ea_ with ea_ en_ ec_
    subst ea_
    subst ec_
    clear en_
    go_wp2
    go_ret
    exact ⟨z3_, by repeat (first | exact Drawn0.refl _ | apply Drawn0.step)⟩
   rw [if_neg c6] at H
   have c6b0 : decide (100 < (((rd_T32 l0 x3_1).f5).size : Int)) = false := decide_eq_false c6
   have c6b1 : decide (100 < ((rd_T32 l0 x3_1).f5).size) = false := decide_eq_false z4_
   clear c6
   replace H := Option.bind_eq_some_iff.mp H
   obtain ⟨t517, A70, H⟩ := H
   replace H : (if t517 = true then (some true) else (if (((rd_T32 l0 x3_1).f8).length : Int) > 100 then (some true) else (raddlelaw07_Heavy.l0 k1 l0 (wrap64 (x3_1 + 1))))) = some r := H
   have A7 := mk_ A70
   clear A70
   by_cases c8 : t517 = true
   ·
    subst c8
    rw [if_pos rfl] at H
    obtain rfl := Option.some.inj H
    have p514 : 0 ≤ (x3_1 : Int) := of_decide_eq_true z1_
    have q514 : x3_1 < (l0.length : Int) := of_decide_eq_true z1_
    obtain ⟨ad514, A514_2, c514_2, A514_10, c514_10, A514_11, c514_11, e514, hx514_0, hx514_1, hx514_2, hx514_3, hx514_4, hx514_5, hx514_6, hx514_7, hx514_8, hx514_9, hx514_10, hx514_11, hl514_2, hi514_2, hl514_10, hi514_10, hl514_11, hi514_11⟩ := at_T32 HR0.out x3_1 p514 q514
    cases e514
    have HR514_2 := mk_ hi514_2
    have HC514_2 := mk_ hl514_2
    clear hi514_2 hl514_2
    have HR514_10 := mk_ hi514_10
    have HC514_10 := mk_ hl514_10
    clear hi514_10 hl514_10
    have HR514_11 := mk_ hi514_11
    have HC514_11 := mk_ hl514_11
    clear hi514_11 hl514_11
    replace p514 := eq_true p514
    replace q514 := eq_true q514
    have p515 : 0 ≤ (x3_1 : Int) := of_decide_eq_true z1_
    have q515 : x3_1 < (l0.length : Int) := of_decide_eq_true z1_
    obtain ⟨ad515, A515_2, c515_2, A515_10, c515_10, A515_11, c515_11, e515, hx515_0, hx515_1, hx515_2, hx515_3, hx515_4, hx515_5, hx515_6, hx515_7, hx515_8, hx515_9, hx515_10, hx515_11, hl515_2, hi515_2, hl515_10, hi515_10, hl515_11, hi515_11⟩ := at_T32 HR0.out x3_1 p515 q515
    obtain rfl : ad514 = ad515 := (by injection e515)
    have HR515_2 := mk_ hi515_2
    have HC515_2 := mk_ hl515_2
    clear hi515_2 hl515_2
    have HR515_10 := mk_ hi515_10
    have HC515_10 := mk_ hl515_10
    clear hi515_10 hl515_10
    have HR515_11 := mk_ hi515_11
    have HC515_11 := mk_ hl515_11
    clear hi515_11 hl515_11
    replace p515 := eq_true p515
    replace q515 := eq_true q515
    have ea_ := Option.some.inj (hx514_2.symm.trans hx515_2)
    injection ea_ with ea_ en_ ec_
    subst ea_
    subst ec_
    clear en_
    have ea_ := Option.some.inj (hx514_10.symm.trans hx515_10)
    injection ea_ with ea_ en_ ec_
    subst ea_
    subst ec_
    clear en_
    have ea_ := Option.some.inj (hx514_11.symm.trans hx515_11)
    injection ea_ with ea_ en_ ec_
    subst ea_
    subst ec_
    clear en_
    have p516 : 0 ≤ (x3_1 : Int) := of_decide_eq_true z1_
    have q516 : x3_1 < (l0.length : Int) := of_decide_eq_true z1_
    obtain ⟨ad516, A516_2, c516_2, A516_10, c516_10, A516_11, c516_11, e516, hx516_0, hx516_1, hx516_2, hx516_3, hx516_4, hx516_5, hx516_6, hx516_7, hx516_8, hx516_9, hx516_10, hx516_11, hl516_2, hi516_2, hl516_10, hi516_10, hl516_11, hi516_11⟩ := at_T32 HR0.out x3_1 p516 q516
    obtain rfl : ad514 = ad516 := (by injection e516)
    have HR516_2 := mk_ hi516_2
    have HC516_2 := mk_ hl516_2
    clear hi516_2 hl516_2
    have HR516_10 := mk_ hi516_10
    have HC516_10 := mk_ hl516_10
    clear hi516_10 hl516_10
    have HR516_11 := mk_ hi516_11
    have HC516_11 := mk_ hl516_11
    clear hi516_11 hl516_11
    replace p516 := eq_true p516
    replace q516 := eq_true q516
    have ea_ := Option.some.inj (hx514_2.symm.trans hx516_2)
    injection ea_ with ea_ en_ ec_
    subst ea_
    subst ec_
    clear en_
    have ea_ := Option.some.inj (hx514_10.symm.trans hx516_10)
    injection ea_ with ea_ en_ ec_
    subst ea_
    subst ec_
    clear en_
    have ea_ := Option.some.inj (hx514_11.symm.trans hx516_11)
    injection ea_ with ea_ en_ ec_
    subst ea_
    subst ec_
    clear en_
    go_wp2_with (first | (go_at_call 35; (with_reducible refine (raddlelaw04_Heavy.calls k1 _ _ ((rd_T32 l0 x3_1).f7) true _ ?side1 ?side2 A7.out).mono ?_); (case side1 => repeat (first | exact HR516_10.out | (with_reducible refine C_alloc ?_ _) | (with_reducible refine C_drewN ?_ _) | (with_reducible refine C_drew ?_))); (case side2 => exact HC516_10.out); rintro e w' ⟨rfl, ⟨nd, rfl⟩⟩))
    go_ret
    exact ⟨z3_, by repeat (first | exact Drawn0.refl _ | apply Drawn0.step)⟩
   replace c8 := Bool.eq_false_iff.mpr c8
   subst c8
   rw [if_neg (show ¬ (false = true) by decide)] at H
   by_cases c9 : (((rd_T32 l0 x3_1).f8).length : Int) > 100
   ·
    rw [if_pos c9] at H
    have c9b0 : decide (100 < (((rd_T32 l0 x3_1).f8).length : Int)) = true := decide_eq_true c9
    have c9b1 : decide (100 < ((rd_T32 l0 x3_1).f8).length) = true := decide_eq_true z4_
    clear c9
    obtain rfl := Option.some.inj H
    have p514 : 0 ≤ (x3_1 : Int) := of_decide_eq_true z1_
    have q514 : x3_1 < (l0.length : Int) := of_decide_eq_true z1_
    obtain ⟨ad514, A514_2, c514_2, A514_10, c514_10, A514_11, c514_11, e514, hx514_0, hx514_1, hx514_2, hx514_3, hx514_4, hx514_5, hx514_6, hx514_7, hx514_8, hx514_9, hx514_10, hx514_11, hl514_2, hi514_2, hl514_10, hi514_10, hl514_11, hi514_11⟩ := at_T32 HR0.out x3_1 p514 q514
    cases e514
    have HR514_2 := mk_ hi514_2
    have HC514_2 := mk_ hl514_2
    clear hi514_2 hl514_2
    have HR514_10 := mk_ hi514_10
    have HC514_10 := mk_ hl514_10
    clear hi514_10 hl514_10
    have HR514_11 := mk_ hi514_11
    have HC514_11 := mk_ hl514_11
    clear hi514_11 hl514_11
    replace p514 := eq_true p514
    replace q514 := eq_true q514
    have p515 : 0 ≤ (x3_1 : Int) := of_decide_eq_true z1_
    have q515 : x3_1 < (l0.length : Int) := of_decide_eq_true z1_
    obtain ⟨ad515, A515_2, c515_2, A515_10, c515_10, A515_11, c515_11, e515, hx515_0, hx515_1, hx515_2, hx515_3, hx515_4, hx515_5, hx515_6, hx515_7, hx515_8, hx515_9, hx515_10, hx515_11, hl515_2, hi515_2, hl515_10, hi515_10, hl515_11, hi515_11⟩ := at_T32 HR0.out x3_1 p515 q515
    obtain rfl : ad514 = ad515 := (by injection e515)
    have HR515_2 := mk_ hi515_2
    have HC515_2 := mk_ hl515_2
    clear hi515_2 hl515_2
    have HR515_10 := mk_ hi515_10
    have HC515_10 := mk_ hl515_10
    clear hi515_10 hl515_10
    have HR515_11 := mk_ hi515_11
    have HC515_11 := mk_ hl515_11
    clear hi515_11 hl515_11
    replace p515 := eq_true p515
    replace q515 := eq_true q515
    have ea_ := Option.some.inj (hx514_2.symm.trans hx515_2)
    injection ea_ with ea_ en_ ec_
    subst ea_
    subst ec_
    clear en_
    have ea_ := Option.some.inj (hx514_10.symm.trans hx515_10)
    injection ea_ with ea_ en_ ec_
    subst ea_
    subst ec_
    clear en_
    have ea_ := Option.some.inj (hx514_11.symm.trans hx515_11)
    injection ea_ with ea_ en_ ec_
    subst ea_
    subst ec_
    clear en_
    have p516 : 0 ≤ (x3_1 : Int) := of_decide_eq_true z1_
    have q516 : x3_1 < (l0.length : Int) := of_decide_eq_true z1_
    obtain ⟨ad516, A516_2, c516_2, A516_10, c516_10, A516_11, c516_11, e516, hx516_0, hx516_1, hx516_2, hx516_3, hx516_4, hx516_5, hx516_6, hx516_7, hx516_8, hx516_9, hx516_10, hx516_11, hl516_2, hi516_2, hl516_10, hi516_10, hl516_11, hi516_11⟩ := at_T32 HR0.out x3_1 p516 q516
    obtain rfl : ad514 = ad516 := (by injection e516)
    have HR516_2 := mk_ hi516_2
    have HC516_2 := mk_ hl516_2
    clear hi516_2 hl516_2
    have HR516_10 := mk_ hi516_10
    have HC516_10 := mk_ hl516_10
    clear hi516_10 hl516_10
    have HR516_11 := mk_ hi516_11
    have HC516_11 := mk_ hl516_11
    clear hi516_11 hl516_11
    replace p516 := eq_true p516
    replace q516 := eq_true q516
    have ea_ := Option.some.inj (hx514_2.symm.trans hx516_2)
    injection ea_ with ea_ en_ ec_
    subst ea_
    subst ec_
    clear en_
    have ea_ := Option.some.inj (hx514_10.symm.trans hx516_10)
    injection ea_ with ea_ en_ ec_
    subst ea_
    subst ec_
    clear en_
    have ea_ := Option.some.inj (hx514_11.symm.trans hx516_11)
    injection ea_ with ea_ en_ ec_
    subst ea_
    subst ec_
    clear en_
    go_wp2_with (first | (go_at_call 35; (with_reducible refine (raddlelaw04_Heavy.calls k1 _ _ ((rd_T32 l0 x3_1).f7) false _ ?side1 ?side2 A7.out).mono ?_); (case side1 => repeat (first | exact HR516_10.out | (with_reducible refine C_alloc ?_ _) | (with_reducible refine C_drewN ?_ _) | (with_reducible refine C_drew ?_))); (case side2 => exact HC516_10.out); rintro e w' ⟨rfl, ⟨nd, rfl⟩⟩; have p518 : 0 ≤ (x3_1 : Int) := of_decide_eq_true z1_; have q518 : x3_1 < (l0.length : Int) := of_decide_eq_true z1_; obtain ⟨ad518, A518_2, c518_2, A518_10, c518_10, A518_11, c518_11, e518, hx518_0, hx518_1, hx518_2, hx518_3, hx518_4, hx518_5, hx518_6, hx518_7, hx518_8, hx518_9, hx518_10, hx518_11, hl518_2, hi518_2, hl518_10, hi518_10, hl518_11, hi518_11⟩ := at_T32 HR0.out x3_1 p518 q518; obtain rfl : ad514 = ad518 := (by injection e518); have HR518_2 := mk_ hi518_2; have HC518_2 := mk_ hl518_2; clear hi518_2 hl518_2; have HR518_10 := mk_ hi518_10; have HC518_10 := mk_ hl518_10; clear hi518_10 hl518_10; have HR518_11 := mk_ hi518_11; have HC518_11 := mk_ hl518_11; clear hi518_11 hl518_11; replace p518 := eq_true p518; replace q518 := eq_true q518; have ea_ := Option.some.inj (hx514_2.symm.trans hx518_2); injection ea_ with ea_ en_ ec_; subst ea_; subst ec_; clear en_; have ea_ := Option.some.inj (hx514_10.symm.trans hx518_10); injection ea_ with ea_ en_ ec_; subst ea_; subst ec_; clear en_; have ea_ := Option.some.inj (hx514_11.symm.trans hx518_11); injection ea_ with ea_ en_ ec_; subst ea_; subst ec_; clear en_))
    go_ret
    exact ⟨z3_, by repeat (first | exact Drawn0.refl _ | apply Drawn0.step)⟩
   rw [if_neg c9] at H
   have c9b0 : decide (100 < (((rd_T32 l0 x3_1).f8).length : Int)) = false := decide_eq_false c9
   have c9b1 : decide (100 < ((rd_T32 l0 x3_1).f8).length) = false := decide_eq_false z4_
   clear c9
   have H' := mk_ H
   clear H
   have p514 : 0 ≤ (x3_1 : Int) := of_decide_eq_true z1_
   have q514 : x3_1 < (l0.length : Int) := of_decide_eq_true z1_
   obtain ⟨ad514, A514_2, c514_2, A514_10, c514_10, A514_11, c514_11, e514, hx514_0, hx514_1, hx514_2, hx514_3, hx514_4, hx514_5, hx514_6, hx514_7, hx514_8, hx514_9, hx514_10, hx514_11, hl514_2, hi514_2, hl514_10, hi514_10, hl514_11, hi514_11⟩ := at_T32 HR0.out x3_1 p514 q514
   cases e514
   have HR514_2 := mk_ hi514_2
   have HC514_2 := mk_ hl514_2
   clear hi514_2 hl514_2
   have HR514_10 := mk_ hi514_10
   have HC514_10 := mk_ hl514_10
   clear hi514_10 hl514_10
   have HR514_11 := mk_ hi514_11
   have HC514_11 := mk_ hl514_11
   clear hi514_11 hl514_11
   replace p514 := eq_true p514
   replace q514 := eq_true q514
   have p515 : 0 ≤ (x3_1 : Int) := of_decide_eq_true z1_
   have q515 : x3_1 < (l0.length : Int) := of_decide_eq_true z1_
   obtain ⟨ad515, A515_2, c515_2, A515_10, c515_10, A515_11, c515_11, e515, hx515_0, hx515_1, hx515_2, hx515_3, hx515_4, hx515_5, hx515_6, hx515_7, hx515_8, hx515_9, hx515_10, hx515_11, hl515_2, hi515_2, hl515_10, hi515_10, hl515_11, hi515_11⟩ := at_T32 HR0.out x3_1 p515 q515
   obtain rfl : ad514 = ad515 := (by injection e515)
   have HR515_2 := mk_ hi515_2
   have HC515_2 := mk_ hl515_2
   clear hi515_2 hl515_2
   have HR515_10 := mk_ hi515_10
   have HC515_10 := mk_ hl515_10
   clear hi515_10 hl515_10
   have HR515_11 := mk_ hi515_11
   have HC515_11 := mk_ hl515_11
   clear hi515_11 hl515_11
   replace p515 := eq_true p515
   replace q515 := eq_true q515
   have ea_ := Option.some.inj (hx514_2.symm.trans hx515_2)
   injection ea_ with ea_ en_ ec_
   subst ea_
   subst ec_
   clear en_
   have ea_ := Option.some.inj (hx514_10.symm.trans hx515_10)
   injection ea_ with ea_ en_ ec_
   subst ea_
   subst ec_
   clear en_
   have ea_ := Option.some.inj (hx514_11.symm.trans hx515_11)
   injection ea_ with ea_ en_ ec_
   subst ea_
   subst ec_
   clear en_
   have p516 : 0 ≤ (x3_1 : Int) := of_decide_eq_true z1_
   have q516 : x3_1 < (l0.length : Int) := of_decide_eq_true z1_
   obtain ⟨ad516, A516_2, c516_2, A516_10, c516_10, A516_11, c516_11, e516, hx516_0, hx516_1, hx516_2, hx516_3, hx516_4, hx516_5, hx516_6, hx516_7, hx516_8, hx516_9, hx516_10, hx516_11, hl516_2, hi516_2, hl516_10, hi516_10, hl516_11, hi516_11⟩ := at_T32 HR0.out x3_1 p516 q516
   obtain rfl : ad514 = ad516 := (by injection e516)
   have HR516_2 := mk_ hi516_2
   have HC516_2 := mk_ hl516_2
   clear hi516_2 hl516_2
   have HR516_10 := mk_ hi516_10
   have HC516_10 := mk_ hl516_10
   clear hi516_10 hl516_10
   have HR516_11 := mk_ hi516_11
   have HC516_11 := mk_ hl516_11
   clear hi516_11 hl516_11
   replace p516 := eq_true p516
   replace q516 := eq_true q516
   have ea_ := Option.some.inj (hx514_2.symm.trans hx516_2)
   injection ea_ with ea_ en_ ec_
   subst ea_
   subst ec_
   clear en_
   have ea_ := Option.some.inj (hx514_10.symm.trans hx516_10)
   injection ea_ with ea_ en_ ec_
   subst ea_
   subst ec_
   clear en_
   have ea_ := Option.some.inj (hx514_11.symm.trans hx516_11)
   injection ea_ with ea_ en_ ec_
   subst ea_
   subst ec_
   clear en_
   go_wp2_with (first | (go_at_call 35; (with_reducible refine (raddlelaw04_Heavy.calls k1 _ _ ((rd_T32 l0 x3_1).f7) false _ ?side1 ?side2 A7.out).mono ?_); (case side1 => repeat (first | exact HR516_10.out | (with_reducible refine C_alloc ?_ _) | (with_reducible refine C_drewN ?_ _) | (with_reducible refine C_drew ?_))); (case side2 => exact HC516_10.out); rintro e w' ⟨rfl, ⟨nd, rfl⟩⟩; have p518 : 0 ≤ (x3_1 : Int) := of_decide_eq_true z1_; have q518 : x3_1 < (l0.length : Int) := of_decide_eq_true z1_; obtain ⟨ad518, A518_2, c518_2, A518_10, c518_10, A518_11, c518_11, e518, hx518_0, hx518_1, hx518_2, hx518_3, hx518_4, hx518_5, hx518_6, hx518_7, hx518_8, hx518_9, hx518_10, hx518_11, hl518_2, hi518_2, hl518_10, hi518_10, hl518_11, hi518_11⟩ := at_T32 HR0.out x3_1 p518 q518; obtain rfl : ad514 = ad518 := (by injection e518); have HR518_2 := mk_ hi518_2; have HC518_2 := mk_ hl518_2; clear hi518_2 hl518_2; have HR518_10 := mk_ hi518_10; have HC518_10 := mk_ hl518_10; clear hi518_10 hl518_10; have HR518_11 := mk_ hi518_11; have HC518_11 := mk_ hl518_11; clear hi518_11 hl518_11; replace p518 := eq_true p518; replace q518 := eq_true q518; have ea_ := Option.some.inj (hx514_2.symm.trans hx518_2); injection ea_ with ea_ en_ ec_; subst ea_; subst ec_; clear en_; have ea_ := Option.some.inj (hx514_10.symm.trans hx518_10); injection ea_ with ea_ en_ ec_; subst ea_; subst ec_; clear en_; have ea_ := Option.some.inj (hx514_11.symm.trans hx518_11); injection ea_ with ea_ en_ ec_; subst ea_; subst ec_; clear en_))
   go_roundg k1
   case measure => have := HK1.out; omega
   case rel => exact ⟨(wrap64 (x3_1 + 1)), z3_, H', ⟨by have := HK1.out; omega⟩, by repeat (first | exact Drawn0.refl _ | apply Drawn0.step)⟩
end Go.Proofs.Ytjnjfogfpmeacaa.PAll
end
section
namespace Go.Proofs.Ytjnjfogfpmeacaa.Plain
open Go.RowKit PAll PrintWords PrintLast PrintMore ZipT PrintWords.Kd PrintMore.Kd
set_option linter.unusedVariables false
set_option linter.unusedSimpArgs false
abbrev V := S84
theorem dropL_lt {α : Type} {l : List α} {i : Nat} {v : α} {m : List α} (h : l.drop i = v :: m) : i < l.length := by
 rcases Nat.lt_or_ge i l.length with h1 | h1
 ·
  exact h1
 ·
  rw [List.drop_eq_nil_iff.2 h1] at h; cases h
theorem dropL_tail {α : Type} {l : List α} {i : Nat} {v : α} {m : List α} (h : l.drop i = v :: m) : l.drop (i + 1) = m := by
 rw [← List.drop_drop, h]; rfl
theorem dropL_end {α : Type} {l : List α} {i : Nat} (h : l.drop i = []) : l.length ≤ i := List.drop_eq_nil_iff.1 h
theorem rdT_drop {l : List V} {i : Nat} {v : V} {m : List V} (h : l.drop i = v :: m) : rd_T84 l (i : Int) = v := by
 show l.getD ((i : Int).toNat) _ = v
 rw [Int.toNat_natCast, List.getD_eq_getElem?_getD]
 have : l[i]? = (l.drop i)[0]? := by rw [List.getElem?_drop]; simp
 rw [this, h]; rfl
theorem rdI_drop {l : List Int} {i : Nat} {v : Int} {m : List Int} (h : l.drop i = v :: m) : rd l (i : Int) = v := rd_drop h
theorem V_ext {a b : V} (h0 : a.f0 = b.f0) (h1 : a.f1 = b.f1) (h2 : a.f2 = b.f2) : a = b := by cases a; cases b; simp_all
instance : DecidableEq V := fun a b => decidable_of_iff (a.f0 = b.f0 ∧ a.f1 = b.f1 ∧ a.f2 = b.f2) ⟨fun ⟨h0, h1, h2⟩ => V_ext h0 h1 h2, fun h => by subst h; exact ⟨rfl, rfl, rfl⟩⟩
def okV (v : V) : Prop := vOk v.f0 v.f1 v.f2
instance (v : V) : Decidable (okV v) := by unfold okV; infer_instance
def okR (l : List V) : Bool := l.all fun v => decide (okV v)
def rowE (l : List V) : Int := if l.length > 12 then 2 else if okR l = true then 0 else 1
theorem rowE_zero (l : List V) : rowE l = 0 ↔ l.length ≤ 12 ∧ ∀ v ∈ l, okV v := by
 unfold rowE okR
 by_cases h : l.length > 12
 ·
  rw [if_pos h]; constructor
  ·
   intro h; omega
  ·
   intro h; omega
 rw [if_neg h]
 by_cases h2 : (l.all fun v => decide (okV v)) = true
 rotate_left
 ·
  rw [if_neg h2]
  refine ⟨fun h => by omega, fun ⟨_, h3⟩ => absurd (List.all_eq_true.2 fun v hv => decide_eq_true (h3 v hv)) h2⟩
 rw [if_pos h2]
 refine ⟨fun _ => ⟨by omega, fun v hv => ?_⟩, fun _ => rfl⟩
 have := List.all_eq_true.1 h2 v hv
 exact of_decide_eq_true this
theorem wrong_eq (v : V) : row_wrong.f v.f0 v.f1 v.f2 = some (!decide (okV v)) := by
 unfold row_wrong.f okV
 rw [check_eq, Option.bind_some]
 by_cases h : vOk v.f0 v.f1 v.f2
 ·
  rw [if_pos h, decide_eq_true h]; rfl
 rw [if_neg h, decide_eq_false h]; rfl
theorem index_wrong (l : List V) (hl : l.length ≤ 1000000) (m : List V) : ∀ (k i : Nat), l.drop i = m → m.length < k →
  ∃ r, slices_IndexFunc_at_row_wrong.l0 k l (l.length : Int) (i : Int) = some r ∧ (r ≥ 0 ↔ m.all (fun v => decide (okV v)) = false) := by
 induction m with
 | nil =>
  intro k i h hk
  obtain ⟨k, rfl⟩ : ∃ j, k = j + 1 := ⟨k - 1, by omega⟩
  have := dropL_end h
  refine ⟨-1, ?_, by simp⟩
  simp only [slices_IndexFunc_at_row_wrong.l0]
  rw [if_neg z4_]
 | cons v m ih =>
  intro k i h hk
  obtain ⟨k, rfl⟩ : ∃ j, k = j + 1 := ⟨k - 1, by omega⟩
  have hi := dropL_lt h
  simp only [slices_IndexFunc_at_row_wrong.l0]
  rw [if_pos z4_, if_pos z4_, if_pos z4_, rdT_drop h, wrong_eq, Option.bind_some]
  by_cases ho : okV v
  rotate_left
  ·
   refine ⟨i, ?_, ?_⟩
   ·
    rw [decide_eq_false ho, if_pos z5_]
   ·
    simp [ho]
  obtain ⟨r, h1, h2⟩ := ih k (i + 1) (dropL_tail h) (by simp at hk; omega)
  refine ⟨r, ?_, ?_⟩
  ·
   rw [decide_eq_true ho, if_neg z5_, w64 z4_ z4_]; exact h1
  ·
   rw [h2]; simp [ho]
theorem rcheck_eq (k : Nat) (l : List V) (hl : l.length ≤ 1000000) (hk : l.length + 1 ≤ k) : row_Check.f k l = some (rowE l) := by
 unfold row_Check.f rowE
 by_cases h : (l.length : Int) > 12
 ·
  rw [if_pos h, if_pos z4_]
 obtain ⟨r, h1, h2⟩ := index_wrong l hl l k 0 rfl z4_
 rw [if_neg h, if_neg z4_]
 unfold slices_ContainsFunc_at_row_wrong.f slices_IndexFunc_at_row_wrong.f
 rw [show ((0 : Nat) : Int) = 0 from rfl] at h1
 rw [h1, Option.bind_some, Option.bind_some]
 unfold okR
 cases hz : (l.all fun v => decide (okV v))
 ·
  rw [hz] at h2; rw [decide_eq_true (h2.2 rfl)]; simp
 ·
  rw [hz] at h2; rw [decide_eq_false (fun h => by simpa using h2.1 h)]; simp
def vB (v : V) : List Int := sVB v.f0 v.f1 v.f2
def rowVs (l : List V) : List Int := l.flatMap vB
def rowB (l : List V) : List Int := (l.length : Int) :: rowVs l
theorem vB_len {v : V} (h : okV v) : 1 ≤ (vB v).length ∧ (vB v).length ≤ 26 := by
 unfold vB; rw [sVB_length h]; unfold okV vOk at h; repeat' split
 all_goals omega
theorem rowVs_len (l : List V) (h : ∀ v ∈ l, okV v) : (rowVs l).length ≤ l.length * 26 ∧ l.length ≤ (rowVs l).length := by
 induction l with
 | nil => simp [rowVs]
 | cons v l ih =>
  have h1 := vB_len (h v List.mem_cons_self)
  have h2 := ih fun x hx => h x (List.mem_cons_of_mem _ hx)
  simp only [rowVs, List.flatMap_cons, List.length_append, List.length_cons] at *
  omega
theorem rowVs_bytes (l : List V) (h : ∀ v ∈ l, okV v) : Bytes (rowVs l) := by
 induction l with
 | nil => exact Bytes.nil
 | cons v l ih =>
  simp only [rowVs, List.flatMap_cons]
  exact (sVB_bytes (h v List.mem_cons_self)).append (ih fun x hx => h x (List.mem_cons_of_mem _ hx))
theorem rowBytes_l0 (l : List V) (hl : l.length ≤ 1000) (ho : ∀ v ∈ l, okV v) (m : List V) : ∀ (k i : Nat) (out : List Int), l.drop i = m → out.length + m.length * 26 ≤ 1000000 → m.length + 40 ≤ k →
    row_Bytes.l0 k out l (l.length : Int) (i : Int) = some (out ++ rowVs m, 0) := by
  induction m with
  | nil =>
    intro k i out h hb hk
    obtain ⟨k, rfl⟩ : ∃ j, k = j + 1 := ⟨k - 1, by omega⟩
    have := dropL_end h
    simp only [row_Bytes.l0]
    rw [if_neg z4_]; simp [rowVs]
  | cons v m ih =>
    intro k i out h hb hk
    obtain ⟨k, rfl⟩ : ∃ j, k = j + 1 := ⟨k - 1, by omega⟩
    have hi := dropL_lt h
    have hv : okV v := ho v (by have : v ∈ l.drop i := by rw [h]; exact List.mem_cons_self
                                exact List.mem_of_mem_drop this)
    have hvl := vB_len hv
    simp only [List.length_cons] at hb hk
    simp only [row_Bytes.l0]
    rw [if_pos z4_, if_pos z4_, if_pos z4_, rdT_drop h, vbytes_eq _ _ _ _ z4_, if_pos (show vOk v.f0 v.f1 v.f2 from hv), Option.bind_some]
    simp only
    rw [if_pos (by show out.length + (vB v).length < _; omega), w64 z4_ z4_]
    have := ih k (i + 1) (out ++ vB v) (dropL_tail h) (by rw [List.length_append]; omega) z4_
    rw [show ((i : Int) + 1) = ((i + 1 : Nat) : Int) from rfl]
    refine Eq.trans this ?_
    simp [rowVs]
theorem rowBytes_eq (k : Nat) (l : List V) (hl : l.length ≤ 1000000) (hk : l.length + 60 ≤ k) : row_Bytes.f k l = some (if rowE l = 0 then (rowB l, 0) else ([], rowE l)) := by
 unfold row_Bytes.f
 rw [rcheck_eq k l hl z4_, Option.bind_some]
 by_cases h : rowE l = 0
 rotate_left
 ·
  rw [if_neg h, if_neg h]
 obtain ⟨h1, h2⟩ := (rowE_zero l).1 h
 have hz := rowBytes_l0 l z4_ h2 l k 0 [((l.length : Int)) % 256] rfl (by rw [List.length_singleton]; omega) z4_
 rw [show ((0 : Nat) : Int) = 0 from rfl] at hz
 rw [if_pos h, if_pos h, hz]
 have : (l.length : Int) % 256 = l.length := by omega
 rw [this]; rfl
def vals (l : List Int) : Nat → Int → List V → List V × Int × Int
 | 0, at_, acc => (acc, at_, 0)
 | n + 1, at_, acc => if (sVRead l at_).2.2.2.2 = 0 then vals l n (sVRead l at_).2.2.2.1 (acc ++ [⟨(sVRead l at_).1, (sVRead l at_).2.1, (sVRead l at_).2.2.1⟩]) else ([], 0, 3)
def sRowRead (l : List Int) (at_ : Int) : List V × Int × Int :=
 if 0 ≤ at_ ∧ at_ ≤ l.length then (if at_ = l.length ∨ rd l at_ > 12 then ([], 0, 3) else vals l (rd l at_).toNat (at_ + 1) []) else ([], 0, 1)
theorem rowRead_l0 (l : List Int) (hb : Bytes l) (hl : l.length ≤ 1000000) (many : Nat) (hm : many ≤ 12) (n : Nat) : ∀ (k : Nat) (at_ : Int) (acc : List V), n ≤ many → 0 ≤ at_ → at_ ≤ l.length → acc.length + n ≤ 100 → n + 40 ≤ k →
  row_Read.l0 k l acc at_ (many : Int) ((many - n : Nat) : Int) = some (vals l n at_ acc) := by
 induction n with
 | zero =>
  intro k at_ acc hn h0 h1 ha hk
  obtain ⟨k, rfl⟩ : ∃ j, k = j + 1 := ⟨k - 1, by omega⟩
  simp only [row_Read.l0]
  rw [if_neg z4_]; rfl
 | succ n ih =>
  intro k at_ acc hn h0 h1 ha hk
  obtain ⟨k, rfl⟩ : ∃ j, k = j + 1 := ⟨k - 1, by omega⟩
  simp only [row_Read.l0, vals]
  rw [if_pos z4_, vread_eq _ _ _ hb hl z4_ z4_, Option.bind_some]
  by_cases hz : (sVRead l at_).2.2.2.2 = 0
  rotate_left
  ·
   rw [if_neg hz, if_neg hz]
  obtain ⟨_, _, h3, h4, _⟩ := vread_sub hb hz
  rw [if_pos hz, if_pos hz, if_pos z4_, w64 z4_ z4_, show (((many - (n + 1) : Nat) : Int) + 1) = ((many - n : Nat) : Int) from by omega]
  exact ih k _ _ z4_ z4_ h4 (by rw [List.length_append, List.length_singleton]; omega) z4_
theorem rowRead_eq (k : Nat) (l : List Int) (at_ : Int) (hb : Bytes l) (hl : l.length ≤ 1000000) (ha : at_ ≤ 9223372036854775807) (hk : 80 ≤ k) : row_Read.f k l at_ = some (sRowRead l at_) := by
 unfold row_Read.f sRowRead
 rw [get_eq _ _ _ _ hb hl ha z4_, Option.bind_some, sGet_one]
 by_cases h : 0 ≤ at_ ∧ at_ ≤ l.length
 rotate_left
 ·
  rw [if_neg h, if_neg h, if_neg z5_]
 rw [if_pos h, if_pos h]
 have hr := hb.rd at_
 unfold Byte at hr
 by_cases h2 : at_ = l.length
 ·
  rw [if_pos h2, if_neg (show ¬ (((0, 0, 3) : Int × Int × Int).2.2 = 0) by decide), if_pos (Or.inl h2)]
 rw [if_neg h2]
 simp only
 rw [if_pos trivial]
 by_cases h3 : rd l at_ > 12
 ·
  rw [if_pos h3, if_pos (Or.inr h3)]
 rw [if_neg h3, if_neg z4_]
 have := rowRead_l0 l hb hl (rd l at_).toNat z4_ (rd l at_).toNat k (at_ + 1) [] z4_ z4_ z4_ (by simp; omega) z4_
 rw [Nat.sub_self, Int.toNat_of_nonneg hr.1] at this
 exact this
end Go.Proofs.Ytjnjfogfpmeacaa.Plain
end
section
namespace Go.Proofs.Ytjnjfogfpmeacaa.Plain
open Go.RowKit PAll PrintWords PrintLast PrintMore ZipT PrintWords.Kd PrintMore.Kd
set_option linter.unusedVariables false
set_option linter.unusedSimpArgs false
def fitsL : List V → List Int → Bool
 | [], [] => true
 | v :: l, t :: m => decide (vFits v.f0 v.f1 v.f2 t) && fitsL l m
 | _, _ => false
theorem fitsL_len {l : List V} {m : List Int} (h : fitsL l m = true) : l.length = m.length := by
 induction l generalizing m with
 | nil => cases m with
  | nil => rfl
  | cons t m => cases h
 | cons v l ih => cases m with
  | nil => cases h
  | cons t m => simp only [fitsL, Bool.and_eq_true] at h; simp [ih h.2]
theorem equal_l0 (a : List V) (b : List Int) (ha : a.length ≤ 1000000) (hl : a.length = b.length) (m : List V) : ∀ (k i : Nat), a.drop i = m → m.length < k →
  slices_EqualFunc_at_value_Fits.l0 k b a (a.length : Int) (i : Int) = some (fitsL m (b.drop i)) := by
 induction m with
 | nil =>
  intro k i h hk
  obtain ⟨k, rfl⟩ : ∃ j, k = j + 1 := ⟨k - 1, by omega⟩
  have h1 := dropL_end h
  simp only [slices_EqualFunc_at_value_Fits.l0]
  rw [if_neg z4_, List.drop_eq_nil_iff.2 z4_]; rfl
 | cons v m ih =>
  intro k i h hk
  obtain ⟨k, rfl⟩ : ∃ j, k = j + 1 := ⟨k - 1, by omega⟩
  have h1 := dropL_lt h
  simp only [slices_EqualFunc_at_value_Fits.l0]
  cases hd : b.drop i with
  | nil => have h2 := dropL_end hd; omega
  | cons t n =>
   rw [if_pos z4_, if_pos z4_, if_pos z4_, if_pos z4_, rdT_drop h, rdI_drop hd, fits_eq, Option.bind_some, w64 z4_ z4_]
   simp only [fitsL]
   by_cases hz : vFits v.f0 v.f1 v.f2 t
   rotate_left
   ·
    rw [decide_eq_false hz, if_neg z5_, Bool.false_and]
   rw [decide_eq_true hz, if_pos rfl, Bool.true_and, ← dropL_tail hd]
   exact ih k (i + 1) (dropL_tail h) (by simp at hk; omega)
theorem fitsL_ne {l : List V} {m : List Int} (h : l.length ≠ m.length) : fitsL l m = false := by
 cases hz : fitsL l m
 ·
  rfl
 ·
  exact absurd (fitsL_len hz) h
theorem rowFits_eq (k : Nat) (a : List V) (b : List Int) (ha : a.length ≤ 1000000) (hk : a.length + 1 ≤ k) : row_Fits.f k a b = some (fitsL a b) := by
 unfold row_Fits.f slices_EqualFunc_at_value_Fits.f
 by_cases hl : (a.length : Int) = b.length
 rotate_left
 ·
  rw [if_neg hl, fitsL_ne z4_]; rfl
 rw [if_pos hl]
 have := equal_l0 a b ha z4_ a k 0 rfl z4_
 rw [show ((0 : Nat) : Int) = 0 from rfl] at this
 rw [this]; rfl
theorem keepRow_l0 (a b : List V) (ha : a.length ≤ 1000000) (hl : a.length = b.length) (m : List V) : ∀ (k i : Nat), a.drop i = m → m.length < k →
  raddlekeep_Row.l0 k a b (i : Int) = some (decide (m = b.drop i)) := by
 induction m with
 | nil =>
  intro k i h hk
  obtain ⟨k, rfl⟩ : ∃ j, k = j + 1 := ⟨k - 1, by omega⟩
  have h1 := dropL_end h
  simp only [raddlekeep_Row.l0]
  rw [if_neg z4_, List.drop_eq_nil_iff.2 z4_]; simp
 | cons v m ih =>
  intro k i h hk
  obtain ⟨k, rfl⟩ : ∃ j, k = j + 1 := ⟨k - 1, by omega⟩
  have h1 := dropL_lt h
  simp only [raddlekeep_Row.l0]
  cases hd : b.drop i with
  | nil => have h2 := dropL_end hd; omega
  | cons t n =>
   rw [if_pos z4_, if_pos z4_, if_pos z4_, rdT_drop h, rdT_drop hd, keepValue_eq, Option.bind_some, w64 z4_ z4_]
   by_cases hz : v.f0 = t.f0 ∧ v.f1 = t.f1 ∧ v.f2 = t.f2
   rotate_left
   ·
    have hv : v ≠ t := fun e => hz (by subst e; exact ⟨rfl, rfl, rfl⟩)
    rw [decide_eq_false hz, if_neg z5_]
    simp [hv]
   have hv : v = t := V_ext hz.1 hz.2.1 hz.2.2
   have := ih k (i + 1) (dropL_tail h) (by simp at hk; omega)
   rw [decide_eq_true hz, if_pos rfl, show ((i : Int) + 1) = ((i + 1 : Nat) : Int) from rfl, this, dropL_tail hd, hv]
   simp
theorem keepRow_eq (k : Nat) (a b : List V) (ha : a.length ≤ 1000000) (hk : a.length + 1 ≤ k) : raddlekeep_Row.f k a b = some (decide (a = b)) := by
 unfold raddlekeep_Row.f
 by_cases hl : (a.length : Int) = b.length
 rotate_left
 ·
  rw [if_neg hl, decide_eq_false (fun e => hl (by rw [e]))]
 rw [if_pos hl]
 exact keepRow_l0 a b ha z4_ a k 0 rfl z4_
theorem keepInts_l0 (a b : List Int) (ha : a.length ≤ 1000000) (hl : a.length = b.length) (m : List Int) : ∀ (k i : Nat), a.drop i = m → m.length < k →
  raddlekeep_Ints.l0 k a b (i : Int) = some (decide (m = b.drop i)) := by
 induction m with
 | nil =>
  intro k i h hk
  obtain ⟨k, rfl⟩ : ∃ j, k = j + 1 := ⟨k - 1, by omega⟩
  have h1 := dropL_end h
  simp only [raddlekeep_Ints.l0]
  rw [if_neg z4_, List.drop_eq_nil_iff.2 z4_]; simp
 | cons v m ih =>
  intro k i h hk
  obtain ⟨k, rfl⟩ : ∃ j, k = j + 1 := ⟨k - 1, by omega⟩
  have h1 := dropL_lt h
  simp only [raddlekeep_Ints.l0]
  cases hd : b.drop i with
  | nil => have h2 := dropL_end hd; omega
  | cons t n =>
   rw [if_pos z4_, if_pos z4_, if_pos z4_, rdI_drop h, rdI_drop hd, w64 z4_ z4_]
   by_cases hz : v = t
   rotate_left
   ·
    rw [if_neg hz]
    simp [hz]
   have := ih k (i + 1) (dropL_tail h) (by simp at hk; omega)
   rw [if_pos hz, show ((i : Int) + 1) = ((i + 1 : Nat) : Int) from rfl, this, dropL_tail hd, hz]
   simp
theorem keepInts_eq (k : Nat) (a b : List Int) (ha : a.length ≤ 1000000) (hk : a.length + 1 ≤ k) : raddlekeep_Ints.f k a b = some (decide (a = b)) := by
 unfold raddlekeep_Ints.f
 by_cases hl : (a.length : Int) = b.length
 rotate_left
 ·
  rw [if_neg hl, decide_eq_false (fun e => hl (by rw [e]))]
 rw [if_pos hl]
 exact keepInts_l0 a b ha z4_ a k 0 rfl z4_
def heavy (l : List V) : Bool := decide ((l.length : Int) > 40) || l.any isLong
theorem heavy_eq (k : Nat) (l : List V) (hk : 60 ≤ k) : raddlelaw04_Heavy.f k l = some (heavy l) := by
 unfold raddlelaw04_Heavy.f heavy
 by_cases h : (l.length : Int) > 40
 ·
  rw [if_pos h, decide_eq_true h]; rfl
 rw [if_neg h, decide_eq_false h, long_eq _ _ z4_ z4_]; rfl
theorem heavy_len {l : List V} (h : ¬ heavy l = true) : l.length ≤ 40 := by
 unfold heavy at h
 simp at h
 omega
end Go.Proofs.Ytjnjfogfpmeacaa.Plain
end
section
namespace Go.Proofs.Ytjnjfogfpmeacaa.Plain
open Go.RowKit PAll PrintWords PrintLast PrintMore ZipT PrintWords.Kd PrintMore.Kd
set_option linter.unusedVariables false
set_option linter.unusedSimpArgs false
theorem rowB_bytes {l : List V} (h : rowE l = 0) : Bytes (rowB l) := by
 obtain ⟨h1, h2⟩ := (rowE_zero l).1 h
 exact Bytes.cons ⟨by omega, by omega⟩ (rowVs_bytes l h2)
theorem rowB_len {l : List V} (h : rowE l = 0) : (rowB l).length ≤ 400 := by
 obtain ⟨h1, h2⟩ := (rowE_zero l).1 h
 have := rowVs_len l h2
 simp only [rowB, List.length_cons]; omega
theorem vals_put (m : List V) : ∀ (pre c : List Int) (acc : List V), (∀ v ∈ m, okV v) → vals (pre ++ rowVs m ++ c) m.length pre.length acc = (acc ++ m, ((pre ++ rowVs m).length : Int), 0) := by
 induction m with
 | nil => intro pre c acc h; simp [vals, rowVs]
 | cons v m ih =>
  intro pre c acc h
  have hv := h v List.mem_cons_self
  have e : pre ++ rowVs (v :: m) ++ c = pre ++ sVB v.f0 v.f1 v.f2 ++ (rowVs m ++ c) := by simp [rowVs, vB]
  have g := vread_put pre (rowVs m ++ c) v.f0 v.f1 v.f2 hv
  rw [← e] at g
  simp only [List.length_cons, vals]
  rw [g, if_pos rfl]
  have e2 : pre ++ rowVs (v :: m) ++ c = (pre ++ vB v) ++ rowVs m ++ c := by simp [rowVs]
  have := ih (pre ++ vB v) c (acc ++ [v]) (fun x hx => h x (List.mem_cons_of_mem _ hx))
  rw [← e2, List.length_append] at this
  simp only
  show vals _ m.length ((pre.length : Int) + ((vB v).length : Int)) (acc ++ [v]) = _
  rw [show ((pre.length : Int) + ((vB v).length : Int)) = ((pre.length + (vB v).length : Nat) : Int) from rfl, this]
  simp [rowVs]
end Go.Proofs.Ytjnjfogfpmeacaa.Plain
end
section
namespace Go.Proofs.Ytjnjfogfpmeacaa.Plain
open Go.RowKit PAll PrintWords PrintLast PrintMore ZipT PrintWords.Kd PrintMore.Kd
set_option linter.unusedVariables false
set_option linter.unusedSimpArgs false
theorem sub_sub (l : List Int) (a b c : Nat) (h1 : a ≤ b) (h2 : b ≤ c) (h3 : c ≤ l.length) : sub l a b ++ sub l b c = sub l a c := by
 unfold sub
 have e : l.take b = (l.take c).take b := by rw [List.take_take, Nat.min_eq_left h2]
 rw [e]
 generalize l.take c = x
 rw [List.drop_take]
 have : x.drop b = (x.drop a).drop (b - a) := by rw [List.drop_drop]; congr 1; omega
 rw [this, List.take_append_drop]
theorem vals_sub (l : List Int) (hb : Bytes l) (n : Nat) : ∀ (at_ : Int) (acc : List V), 0 ≤ at_ → at_ ≤ l.length → (vals l n at_ acc).2.2 = 0 →
  ∃ m : List V, (vals l n at_ acc).1 = acc ++ m ∧ m.length = n ∧ (∀ v ∈ m, okV v) ∧ at_ ≤ (vals l n at_ acc).2.1 ∧ (vals l n at_ acc).2.1 ≤ l.length ∧ rowVs m = sub l at_.toNat (vals l n at_ acc).2.1.toNat := by
 induction n with
 | zero =>
  intro at_ acc h0 h1 h
  refine ⟨[], by simp [vals], rfl, by simp, Int.le_refl _, h1, ?_⟩
  symm; apply List.eq_nil_of_length_eq_zero
  simp only [vals]
  rw [sub_length z4_]; omega
 | succ n ih =>
  intro at_ acc h0 h1 h
  simp only [vals] at h ⊢
  by_cases hz : (sVRead l at_).2.2.2.2 = 0
  rotate_left
  ·
   rw [if_neg hz] at h; simp at h
  rw [if_pos hz] at h ⊢
  obtain ⟨ho, g0, g1, g2, g3⟩ := vread_sub hb hz
  obtain ⟨m, e1, e2, e3, e4, e5, e6⟩ := ih (sVRead l at_).2.2.2.1 (acc ++ [⟨(sVRead l at_).1, (sVRead l at_).2.1, (sVRead l at_).2.2.1⟩]) z4_ g2 h
  refine ⟨⟨(sVRead l at_).1, (sVRead l at_).2.1, (sVRead l at_).2.2.1⟩ :: m, by rw [e1]; simp, by simp [e2], ?_, by omega, e5, ?_⟩
  ·
   intro v hv
   rcases List.mem_cons.1 hv with rfl | hv
   ·
    exact ho
   ·
    exact e3 v hv
  ·
   have hs : rowVs ((⟨(sVRead l at_).1, (sVRead l at_).2.1, (sVRead l at_).2.2.1⟩ : V) :: m) = sVB (sVRead l at_).1 (sVRead l at_).2.1 (sVRead l at_).2.2.1 ++ rowVs m := by simp [rowVs, vB]
   rw [hs, g3, e6]
   exact sub_sub l _ _ _ z4_ z4_ z4_
end Go.Proofs.Ytjnjfogfpmeacaa.Plain
end
section
namespace Go.Proofs.Ytjnjfogfpmeacaa.Ops
open Go.RowKit PAll Plain PrintWords ZipT PrintWords.Kd PrintMore.Kd
set_option linter.unusedVariables false
set_option linter.unusedSimpArgs false
abbrev Ox := S32
abbrev Dt := S25
abbrev St := S28
abbrev Wr := List Int × Bool
def wAdd (s : Wr) (r : List Int × Int) : Wr := (s.1 ++ r.1, s.2 || decide (r.2 ≠ 0))
def wNum (n size : Int) (s : Wr) : Wr := wAdd s (sPut [] n size)
def wText (t : ByteArray) (s : Wr) : Wr := wAdd s (sPutText [] t)
def wOr (b : Bool) (s : Wr) : Wr := (s.1, s.2 || b)
def wAll {α : Type} (f : α → Wr → Wr) : List α → Wr → Wr
 | [], s => s
 | x :: l, s => wAll f l (f x s)
def wNums (l : List Int) (s : Wr) : Wr := wAll (fun n => wNum n 4) l (wNum l.length 1 (wOr (decide (l.length > 5)) s))
def wStamp (t : St) (s : Wr) : Wr := wNum t.f2 1 (wNum t.f1 3 (wNum t.f0 6 s))
def wDot (d : Dt) (s : Wr) : Wr := wNum d.f1 4 (wNum d.f0 1 s)
def wRow (l : List V) (s : Wr) : Wr := wAdd s (if rowE l = 0 then (rowB l, 0) else ([], rowE l))
def wHead (x : Ox) (s : Wr) : Wr := wNum x.f6 1 (wText x.f5 (wNum x.f4 1 (wStamp x.f2 (wNums x.f1 (wDot x.f0 (wNum x.f3 1 s))))))
def wOp (x : Ox) (s : Wr) : Wr := wAll wDot x.f8 (wNum x.f8.length 1 (wOr (decide (x.f8.length > 64)) (wRow x.f7 (wHead x s))))
def sOpBytes (x : Ox) : List Int × Int := if (wOp x ([], false)).2 = true then ([], 1) else ((wOp x ([], false)).1, 0)
abbrev Rr := Int × Bool
def rOf {α : Type} (z : α) (g : α × Int × Int) (r : Rr) : α × Rr := if r.2 = true ∨ g.2.2 ≠ 0 then (z, (r.1, true)) else (g.1, (g.2.1, false))
def rNum (size : Int) (l : List Int) (r : Rr) : Int × Rr := rOf 0 (sGet l r.1 size) r
def rText (l : List Int) (r : Rr) : ByteArray × Rr := rOf ⟨#[]⟩ (sGetText l r.1) r
def rRow (l : List Int) (r : Rr) : List V × Rr := rOf [] (sRowRead l r.1) r
def rMany (size most : Int) (l : List Int) (r : Rr) : Int × Rr := if (rNum size l r).1 > most then (0, ((rNum size l r).2.1, true)) else rNum size l r
def rTimes {α : Type} (f : List Int → Rr → α × Rr) (l : List Int) : Nat → List α → Rr → List α × Rr
 | 0, acc, r => (acc, r)
 | n + 1, acc, r => rTimes f l n (acc ++ [(f l r).1]) (f l r).2
def rNums (l : List Int) (r : Rr) : List Int × Rr := rTimes (rNum 4) l (rMany 1 5 l r).1.toNat [] (rMany 1 5 l r).2
def rStamp (l : List Int) (r : Rr) : St × Rr :=
 (⟨(rNum 6 l r).1, (rNum 3 l (rNum 6 l r).2).1, (rNum 1 l (rNum 3 l (rNum 6 l r).2).2).1⟩, (rNum 1 l (rNum 3 l (rNum 6 l r).2).2).2)
def rDot (l : List Int) (r : Rr) : Dt × Rr := (⟨(rNum 1 l r).1, (rNum 4 l (rNum 1 l r).2).1⟩, (rNum 4 l (rNum 1 l r).2).2)
def rDots (l : List Int) (r : Rr) : List Dt × Rr := rTimes rDot l (rMany 1 64 l r).1.toNat [] (rMany 1 64 l r).2
def zOp : Ox := ⟨⟨0, 0⟩, [], ⟨0, 0, 0⟩, 0, 0, ⟨#[]⟩, 0, [], []⟩
def rHead (l : List Int) (r : Rr) : Ox × Rr :=
 let a := rNum 1 l r
 let b := rDot l a.2
 let c := rNums l b.2
 let d := rStamp l c.2
 let e := rNum 1 l d.2
 let f := rText l e.2
 let g := rNum 1 l f.2
 (⟨b.1, c.1, d.1, a.1, e.1, f.1, g.1, [], []⟩, g.2)
def rOp (l : List Int) (r : Rr) : Ox × Rr :=
 if (rRow l (rHead l r).2).2.2 = true then (zOp, (rRow l (rHead l r).2).2)
 else ({ (rHead l r).1 with f7 := (rRow l (rHead l r).2).1, f8 := (rDots l (rRow l (rHead l r).2).2).1 }, (rDots l (rRow l (rHead l r).2).2).2)
def sOpRead (l : List Int) (at_ : Int) : Ox × Int × Int :=
 if at_ < 0 ∨ at_ > l.length then (zOp, 0, 1)
 else if (rOp l (at_, false)).2.2 = true then (zOp, 0, 3) else ((rOp l (at_, false)).1, (rOp l (at_, false)).2.1, 0)
end Go.Proofs.Ytjnjfogfpmeacaa.Ops
end
section
namespace Go.Proofs.Ytjnjfogfpmeacaa.Ops
open Go.RowKit PAll Plain PrintWords ZipT PrintWords.Kd PrintMore.Kd
set_option linter.unusedVariables false
set_option linter.unusedSimpArgs false
section
variable {α β : Type}
structure Writes (f : α → Wr → Wr) (enc : α → List Int) (fit : α → Prop) : Prop where
 ok : ∀ x s, fit x → f x s = (s.1 ++ enc x, s.2)
 no : ∀ x s, ¬ fit x → (f x s).2 = true
 stay : ∀ x s, s.2 = true → (f x s).2 = true
theorem Writes.comp {γ : Type} {f : α → Wr → Wr} {g : β → Wr → Wr} {e : α → List Int} {e' : β → List Int} {p : α → Prop} {p' : β → Prop} (hf : Writes f e p) (hg : Writes g e' p') (a : γ → α) (b : γ → β) :
  Writes (fun x s => g (b x) (f (a x) s)) (fun x => e (a x) ++ e' (b x)) (fun x => p (a x) ∧ p' (b x)) where
 ok := fun x s h => by rw [hf.ok _ _ h.1, hg.ok _ _ h.2, List.append_assoc]
 no := fun x s h => by
  by_cases h1 : p (a x)
  ·
   exact hg.no _ _ (fun e => h ⟨h1, e⟩)
  ·
   exact hg.stay _ _ (hf.no _ _ h1)
 stay := fun x s h => hg.stay _ _ (hf.stay _ _ h)
theorem Writes.all {f : α → Wr → Wr} {e : α → List Int} {p : α → Prop} (hf : Writes f e p) : Writes (wAll f) (fun l => l.flatMap e) (fun l => ∀ x ∈ l, p x) where
 ok := fun l => by
  induction l with
  | nil => intro s _; simp [wAll]
  | cons x l ih =>
   intro s h
   rw [wAll, hf.ok _ _ (h x List.mem_cons_self), ih _ (fun y hy => h y (List.mem_cons_of_mem _ hy)), List.flatMap_cons, List.append_assoc]
 no := fun l => by
  induction l with
  | nil => intro s h; exact absurd (fun x hx => by cases hx) h
  | cons x l ih =>
   intro s h
   rw [wAll]
   by_cases h1 : ∀ y ∈ l, p y
   ·
    have h2 : ¬ p x := fun e => h (fun y hy => by rcases List.mem_cons.1 hy with rfl | hy; exact e; exact h1 y hy)
    have : ∀ (l : List α) (s : Wr), s.2 = true → (wAll f l s).2 = true := fun l => by
     induction l with
     | nil => intro s h; exact h
     | cons y l ih => intro s h; rw [wAll]; exact ih _ (hf.stay _ _ h)
    exact this l _ (hf.no _ _ h2)
   ·
    exact ih _ h1
 stay := fun l => by
  induction l with
  | nil => intro s h; exact h
  | cons y l ih => intro s h; rw [wAll]; exact ih _ (hf.stay _ _ h)
theorem Writes.or (c : α → Prop) [DecidablePred c] : Writes (fun x => wOr (decide (c x))) (fun _ => []) (fun x => ¬ c x) where
 ok := fun x s h => by unfold wOr; rw [decide_eq_false h]; simp
 no := fun x s h => by unfold wOr; rw [decide_eq_true (Classical.not_not.1 h)]; simp
 stay := fun x s h => by unfold wOr; rw [h]; rfl
theorem Writes.congr {f : α → Wr → Wr} {e e' : α → List Int} {p p' : α → Prop} (hf : Writes f e p) (he : ∀ x, p x → e x = e' x) (hp : ∀ x, p x ↔ p' x) : Writes f e' p' where
 ok := fun x s h => by rw [hf.ok _ _ ((hp x).2 h), he x ((hp x).2 h)]
 no := fun x s h => hf.no _ _ (fun e => h ((hp x).1 e))
 stay := hf.stay
def fitN (s : Nat) (n : Int) : Prop := 0 ≤ n ∧ n < 256 ^ s
instance (s : Nat) (n : Int) : Decidable (fitN s n) := by unfold fitN; infer_instance
theorem Writes.num (s : Nat) (h1 : 1 ≤ s) (h7 : s ≤ 7) : Writes (fun n => wNum n (s : Int)) (fun n => big n s) (fitN s) where
 ok := fun n t h => by
  unfold wNum wAdd sPut
  rw [if_pos ⟨by omega, by omega, h.1, by rw [Int.toNat_natCast]; exact h.2⟩, Int.toNat_natCast]
  simp
 no := fun n t h => by
  unfold wNum wAdd sPut
  rw [if_neg (fun e => h ⟨e.2.2.1, by have := e.2.2.2; rwa [Int.toNat_natCast] at this⟩)]
  simp
 stay := fun n t h => by unfold wNum wAdd; rw [h]; rfl
def encT (t : ByteArray) : List Int := (t.size : Int) :: bytesOf t
theorem Writes.text : Writes wText encT (fun t => t.size ≤ 24) where
 ok := fun t s h => by unfold wText wAdd sPutText; rw [if_pos h]; simp [encT]
 no := fun t s h => by unfold wText wAdd sPutText; rw [if_neg h]; simp
 stay := fun t s h => by unfold wText wAdd; rw [h]; rfl
theorem Writes.row : Writes wRow rowB (fun l => rowE l = 0) where
 ok := fun l s h => by unfold wRow wAdd; rw [if_pos h]; simp
 no := fun l s h => by unfold wRow wAdd; rw [if_neg h]; simp [h]
 stay := fun l s h => by unfold wRow wAdd; rw [h]; rfl
structure Reads (f : List Int → Rr → α × Rr) (enc : α → List Int) (fit : α → Prop) : Prop where
 bad : ∀ (l : List Int) (r : Rr), r.2 = true → (f l r).2.2 = true
 place : ∀ (l : List Int) (r : Rr), Bytes l → 0 ≤ r.1 → r.1 ≤ l.length → 0 ≤ (f l r).2.1 ∧ (f l r).2.1 ≤ l.length
 got : ∀ (l : List Int) (r : Rr), Bytes l → 0 ≤ r.1 → r.1 ≤ l.length → (f l r).2.2 = false → fit (f l r).1 ∧ r.1 ≤ (f l r).2.1 ∧ enc (f l r).1 = sub l r.1.toNat (f l r).2.1.toNat
 put : ∀ (a c : List Int) (x : α), fit x → f (a ++ enc x ++ c) (a.length, false) = (x, ((a.length : Int) + (enc x).length, false))
theorem Reads.good {f : List Int → Rr → α × Rr} {e : α → List Int} {p : α → Prop} (hf : Reads f e p) {l : List Int} {r : Rr} (h : (f l r).2.2 = false) : r.2 = false := by
 cases hr : r.2
 ·
  rfl
 ·
  rw [hf.bad l r hr] at h; cases h
theorem Reads.comp {f : List Int → Rr → α × Rr} {g : List Int → Rr → β × Rr} {e : α → List Int} {e' : β → List Int} {p : α → Prop} {p' : β → Prop} (hf : Reads f e p) (hg : Reads g e' p') :
  Reads (fun l r => (((f l r).1, (g l (f l r).2).1), (g l (f l r).2).2)) (fun x => e x.1 ++ e' x.2) (fun x => p x.1 ∧ p' x.2) where
 bad := fun l r h => hg.bad _ _ (hf.bad _ _ h)
 place := fun l r hb h0 h1 => by
  obtain ⟨a, b⟩ := hf.place l r hb h0 h1
  exact hg.place l _ hb a b
 got := fun l r hb h0 h1 h => by
  have h : (g l (f l r).2).2.2 = false := h
  have hz := hg.good h
  obtain ⟨a, b⟩ := hf.place l r hb h0 h1
  obtain ⟨f1, f2, f3⟩ := hf.got l r hb h0 h1 hz
  obtain ⟨g1, g2, g3⟩ := hg.got l _ hb a b h
  obtain ⟨c, d⟩ := hg.place l _ hb a b
  refine ⟨⟨f1, g1⟩, Int.le_trans f2 g2, ?_⟩
  show e _ ++ e' _ = _
  rw [f3, g3]
  exact sub_sub l _ _ _ z4_ z4_ z4_
 put := fun a c x h => by
  have h1 := hf.put a (e' x.2 ++ c) x.1 h.1
  have h2 := hg.put (a ++ e x.1) c x.2 h.2
  have e1 : a ++ (e x.1 ++ e' x.2) ++ c = a ++ e x.1 ++ (e' x.2 ++ c) := by simp
  have e2 : a ++ (e x.1 ++ e' x.2) ++ c = a ++ e x.1 ++ e' x.2 ++ c := by simp
  have e3 : ((a.length : Int) + (e x.1).length) = ((a ++ e x.1).length : Int) := by simp
  have h1' : f (a ++ (e x.1 ++ e' x.2) ++ c) (a.length, false) = (x.1, (((a ++ e x.1).length : Int), false)) := by rw [e1, h1, e3]
  have h2' : g (a ++ (e x.1 ++ e' x.2) ++ c) ((a ++ e x.1).length, false) = (x.2, (((a ++ e x.1).length : Int) + (e' x.2).length, false)) := by rw [e2, h2]
  show ((( f _ _).1, (g _ (f _ _).2).1), (g _ (f _ _).2).2) = _
  rw [h1', h2']
  simp only [List.length_append]
  have : ((a.length + (e x.1).length : Nat) : Int) + (e' x.2).length = (a.length : Int) + ((e x.1).length + (e' x.2).length : Nat) := by omega
  rw [this]
theorem Reads.map {f : List Int → Rr → α × Rr} {e : α → List Int} {p : α → Prop} (hf : Reads f e p) (mk : α → β) (un : β → α) (h1 : ∀ x, un (mk x) = x) (h2 : ∀ y, mk (un y) = y) :
  Reads (fun l r => (mk (f l r).1, (f l r).2)) (fun y => e (un y)) (fun y => p (un y)) where
 bad := fun l r h => hf.bad _ _ h
 place := fun l r hb h0 h1 => hf.place l r hb h0 h1
 got := fun l r hb ha hc h => by
  have := hf.got l r hb ha hc h
  show p (un (mk _)) ∧ _ ∧ e (un (mk _)) = _
  rw [h1]; exact this
 put := fun a c y h => by
  show (mk (f _ _).1, (f _ _).2) = _
  rw [hf.put a c (un y) h, h2]
theorem Reads.congr {f f' : List Int → Rr → α × Rr} {e e' : α → List Int} {p p' : α → Prop} (hf : Reads f e p) (hF : ∀ l r, f' l r = f l r) (he : ∀ x, p x → e x = e' x) (hp : ∀ x, p x ↔ p' x) : Reads f' e' p' where
 bad := fun l r h => by rw [hF]; exact hf.bad _ _ h
 place := fun l r hb h0 h1 => by rw [hF]; exact hf.place l r hb h0 h1
 got := fun l r hb ha hc h => by
  rw [hF] at h ⊢
  obtain ⟨a, b, c⟩ := hf.got l r hb ha hc h
  exact ⟨(hp _).1 a, b, by rw [← he _ a]; exact c⟩
 put := fun a c x h => by
  have h' := (hp x).2 h
  rw [hF, ← he x h']; exact hf.put a c x h'
theorem Reads.of {z : α} {g : List Int → Int → α × Int × Int} {e : α → List Int} {p : α → Prop}
  (hs : ∀ l at_, Bytes l → (g l at_).2.2 = 0 → 0 ≤ at_ ∧ p (g l at_).1 ∧ at_ ≤ (g l at_).2.1 ∧ (g l at_).2.1 ≤ l.length ∧ e (g l at_).1 = sub l at_.toNat (g l at_).2.1.toNat)
  (hp : ∀ a c x, p x → g (a ++ e x ++ c) a.length = (x, (a.length : Int) + (e x).length, 0)) : Reads (fun l r => rOf z (g l r.1) r) e p where
 bad := fun l r h => by unfold rOf; rw [if_pos (.inl h)]
 place := fun l r hb h0 h1 => by
  unfold rOf
  by_cases h : r.2 = true ∨ (g l r.1).2.2 ≠ 0
  ·
   rw [if_pos h]; exact ⟨h0, h1⟩
  ·
   rw [if_neg h]
   obtain ⟨a, _, b, c, _⟩ := hs l r.1 hb (Classical.not_not.1 (fun e => h (.inr e)))
   exact ⟨Int.le_trans h0 b, c⟩
 got := fun l r hb h0 h1 h => by
  unfold rOf at h ⊢
  by_cases hc : r.2 = true ∨ (g l r.1).2.2 ≠ 0
  ·
   rw [if_pos hc] at h; cases h
  ·
   rw [if_neg hc]
   obtain ⟨a, b, c, d, e⟩ := hs l r.1 hb (Classical.not_not.1 (fun e => hc (.inr e)))
   exact ⟨b, c, e⟩
 put := fun a c x h => by
  show rOf z (g _ (a.length : Int)) _ = _
  unfold rOf
  rw [hp a c x h, if_neg (by rintro (e | e); cases e; exact e rfl)]
theorem Reads.num (s : Nat) (h1 : 1 ≤ s) (h7 : s ≤ 7) : Reads (rNum (s : Int)) (fun n => big n s) (fitN s) :=
 Reads.of (z := (0 : Int)) (g := fun l at_ => sGet l at_ (s : Int)) (e := fun n => big n s) (p := fitN s)
  (fun l at_ hb h => by
   unfold sGet at h ⊢
   by_cases c : 1 ≤ (s : Int) ∧ (s : Int) ≤ 7 ∧ 0 ≤ at_ ∧ at_ ≤ l.length
   ·
    rw [if_pos c] at h ⊢
    by_cases d : (l.length : Int) - at_ < (s : Int)
    ·
     rw [if_pos d] at h; simp at h
    ·
     rw [if_neg d]
     have hl : (sub l at_.toNat (at_ + (s : Int)).toNat).length = s := by rw [sub_length z4_]; omega
     have hbs := sub_bytes hb at_.toNat (at_ + (s : Int)).toNat
     refine ⟨c.2.2.1, ⟨val_nonneg _ 0 z4_ hbs, ?_⟩, by show at_ ≤ at_ + _; omega, by show at_ + (s : Int) ≤ _; omega, ?_⟩
     ·
      have := val_lt _ 0 z4_ hbs
      rw [hl] at this
      simpa using this
     ·
      have := big_val _ hbs
      rw [hl] at this
      exact this
   ·
    rw [if_neg c] at h; simp at h)
  (fun a c x h => by
   have := get_put a c x s h1 h7 h.1 h.2
   show sGet _ _ _ = _
   rw [this, big_length])
theorem Reads.text : Reads rText encT (fun t => t.size ≤ 24) :=
 Reads.of (z := (⟨#[]⟩ : ByteArray)) (g := fun l at_ => sGetText l at_) (e := encT) (p := fun t => t.size ≤ 24)
  (fun l at_ hb h => by
   obtain ⟨⟨a, b⟩, c, d⟩ := getText_sub hb h
   exact ⟨c, getText_bd hb h, by show at_ ≤ (sGetText l at_).2.1; omega, b, d⟩)
  (fun a c x h => by
   have := getText_put a c x h
   show sGetText (a ++ encT x ++ c) _ = _
   unfold encT
   rw [this]
   simp [bytesOf_length]; omega)
theorem times_acc (f : List Int → Rr → α × Rr) (l : List Int) (n : Nat) : ∀ (acc : List α) (r : Rr), rTimes f l n acc r = (acc ++ (rTimes f l n [] r).1, (rTimes f l n [] r).2) := by
 induction n with
 | zero => intro acc r; simp [rTimes]
 | succ n ih =>
  intro acc r
  rw [rTimes, rTimes, ih, ih ([] ++ [(f l r).1])]
  simp
theorem times_succ (f : List Int → Rr → α × Rr) (l : List Int) (n : Nat) (r : Rr) : rTimes f l (n + 1) [] r = ((f l r).1 :: (rTimes f l n [] (f l r).2).1, (rTimes f l n [] (f l r).2).2) := by
 rw [rTimes, times_acc]; simp
theorem Reads.times {f : List Int → Rr → α × Rr} {e : α → List Int} {p : α → Prop} (hf : Reads f e p) (n : Nat) :
  Reads (fun l r => rTimes f l n [] r) (fun xs => xs.flatMap e) (fun xs => xs.length = n ∧ ∀ x ∈ xs, p x) := by
 induction n with
 | zero =>
  exact {
   bad := fun l r h => h
   place := fun l r hb h0 h1 => ⟨h0, h1⟩
   got := fun l r hb h0 h1 h => ⟨⟨rfl, fun x hx => by cases hx⟩, Int.le_refl _, by show ([] : List Int) = _; unfold sub; simp [rTimes]⟩
   put := fun a c x h => by
    obtain rfl : x = [] := List.length_eq_zero_iff.1 h.1
    simp [rTimes] }
 | succ n ih =>
  have hc := hf.comp ih
  exact {
   bad := fun l r h => by show (rTimes f l (n + 1) [] r).2.2 = true; rw [times_succ]; exact hc.bad l r h
   place := fun l r hb h0 h1 => by show 0 ≤ (rTimes f l (n + 1) [] r).2.1 ∧ (rTimes f l (n + 1) [] r).2.1 ≤ _; rw [times_succ]; exact hc.place l r hb h0 h1
   got := fun l r hb h0 h1 h => by
    have h : (rTimes f l (n + 1) [] r).2.2 = false := h
    show ((rTimes f l (n + 1) [] r).1.length = n + 1 ∧ ∀ x ∈ (rTimes f l (n + 1) [] r).1, p x) ∧ r.1 ≤ (rTimes f l (n + 1) [] r).2.1 ∧ (rTimes f l (n + 1) [] r).1.flatMap e = sub l r.1.toNat (rTimes f l (n + 1) [] r).2.1.toNat
    rw [times_succ] at h ⊢
    obtain ⟨⟨a, b, c⟩, d, g⟩ := hc.got l r hb h0 h1 h
    refine ⟨⟨by rw [List.length_cons]; exact congrArg (· + 1) b, fun x hx => ?_⟩, d, by rw [List.flatMap_cons]; exact g⟩
    rcases List.mem_cons.1 hx with rfl | hx
    ·
     exact a
    ·
     exact c x hx
   put := fun a c x h => by
    cases x with
    | nil => simp at h
    | cons y ys =>
     have := hc.put a c (y, ys) ⟨h.2 y List.mem_cons_self, by show ys.length = n; have := h.1; rw [List.length_cons] at this; omega, fun x hx => h.2 x (List.mem_cons_of_mem _ hx)⟩
     show rTimes f _ (n + 1) [] _ = _
     rw [List.flatMap_cons, times_succ]
     have h1 := congrArg (fun z => z.1.1) this
     have h2 := congrArg (fun z => z.1.2) this
     have h3 := congrArg (fun z => z.2) this
     exact Prod.ext (by show (_ :: _ : List α) = _; exact _root_.congr (congrArg List.cons h1) h2) h3 }
theorem rMany_bad {size most : Int} {l : List Int} {r : Rr} (h : r.2 = true) : (rMany size most l r).2.2 = true := by
 unfold rMany
 split
 ·
  rfl
 ·
  unfold rNum rOf; rw [if_pos (.inl h)]
theorem Reads.many {f : List Int → Rr → α × Rr} {e : α → List Int} {p : α → Prop} (hf : Reads f e p) (s : Nat) (h1 : 1 ≤ s) (h7 : s ≤ 7) (most : Nat) (hm : (most : Int) < 256 ^ s) :
  Reads (fun l r => rTimes f l (rMany (s : Int) most l r).1.toNat [] (rMany (s : Int) most l r).2) (fun xs => big xs.length s ++ xs.flatMap e) (fun xs => xs.length ≤ most ∧ ∀ x ∈ xs, p x) where
 bad := fun l r h => (hf.times _).bad l _ (rMany_bad h)
 place := fun l r hb h0 h1' => by
  obtain ⟨a, b⟩ := (Reads.num s h1 h7).place l r hb h0 h1'
  refine (hf.times _).place l _ hb ?_ ?_ <;> · unfold rMany; split <;> assumption
 got := fun l r hb h0 h1' h => by
  have hN := Reads.num s h1 h7
  have hT := hf.times (rMany (s : Int) most l r).1.toNat
  have h : (rTimes f l (rMany (s : Int) most l r).1.toNat [] (rMany (s : Int) most l r).2).2.2 = false := h
  have hz := hT.good h
  have hle : ¬ (rNum (s : Int) l r).1 > most := fun e => by unfold rMany at hz; rw [if_pos e] at hz; cases hz
  have hM : rMany (s : Int) most l r = rNum (s : Int) l r := if_neg hle
  rw [hM] at h hz hT ⊢
  obtain ⟨a, b⟩ := hN.place l r hb h0 h1'
  obtain ⟨c1, c2, c3⟩ := hN.got l r hb h0 h1' hz
  obtain ⟨d1, d2, d3⟩ := hT.got l _ hb a b h
  obtain ⟨e1, e2⟩ := hT.place l _ hb a b
  have h0' : 0 ≤ (rNum (s : Int) l r).1 := c1.1
  refine ⟨⟨by show List.length _ ≤ most; rw [d1.1]; omega, d1.2⟩, Int.le_trans c2 d2, ?_⟩
  show big (List.length _ : Int) s ++ List.flatMap e _ = _
  rw [d1.1, show (((rNum (s : Int) l r).1.toNat : Nat) : Int) = (rNum (s : Int) l r).1 by omega, d3]
  rw [c3]
  exact sub_sub l _ _ _ z4_ z4_ z4_
 put := fun a c xs h => by
  have hN := (Reads.num s h1 h7).put a (xs.flatMap e ++ c) (xs.length : Int) ⟨by omega, by have := h.1; omega⟩
  have e1 : a ++ (big xs.length s ++ xs.flatMap e) ++ c = a ++ big xs.length s ++ (xs.flatMap e ++ c) := by simp
  have e2 : a ++ (big xs.length s ++ xs.flatMap e) ++ c = (a ++ big xs.length s) ++ xs.flatMap e ++ c := by simp
  have hM : rMany (s : Int) most (a ++ (big xs.length s ++ xs.flatMap e) ++ c) (a.length, false) = ((xs.length : Int), ((a.length : Int) + s, false)) := by
   unfold rMany
   rw [e1, hN, if_neg (by show ¬ (xs.length : Int) > most; have := h.1; omega), big_length]
  show rTimes f _ (rMany _ _ _ _).1.toNat [] (rMany _ _ _ _).2 = _
  rw [hM]
  show rTimes f _ ((xs.length : Int).toNat) [] _ = _
  rw [Int.toNat_natCast]
  have hT := (hf.times xs.length).put (a ++ big xs.length s) c xs ⟨rfl, h.2⟩
  rw [← e2] at hT
  rw [show ((a.length : Int) + s, false) = (((a ++ big xs.length s).length : Int), false) by simp [big_length]]
  refine Eq.trans hT ?_
  simp [big_length]; omega
end
end Go.Proofs.Ytjnjfogfpmeacaa.Ops
end
section
namespace Go.Proofs.Ytjnjfogfpmeacaa.Ops
open Go.RowKit PAll Plain PrintWords ZipT PrintWords.Kd PrintMore.Kd
set_option linter.unusedVariables false
set_option linter.unusedSimpArgs false
theorem row_got {l : List Int} {at_ : Int} (hb : Bytes l) (h : (sRowRead l at_).2.2 = 0) :
  rowE (sRowRead l at_).1 = 0 ∧ 0 ≤ at_ ∧ at_ ≤ (sRowRead l at_).2.1 ∧ (sRowRead l at_).2.1 ≤ l.length ∧ rowB (sRowRead l at_).1 = sub l at_.toNat (sRowRead l at_).2.1.toNat := by
 unfold sRowRead at h ⊢
 by_cases h1 : 0 ≤ at_ ∧ at_ ≤ l.length
 rotate_left
 ·
  rw [if_neg h1] at h; simp at h
 rw [if_pos h1] at h ⊢
 by_cases h2 : at_ = l.length ∨ rd l at_ > 12
 ·
  rw [if_pos h2] at h; simp at h
 rw [if_neg h2] at h ⊢
 have hr := hb.rd at_
 unfold Byte at hr
 obtain ⟨m, e1, e2, e3, e4, e5, e6⟩ := vals_sub l hb (rd l at_).toNat (at_ + 1) [] z4_ z4_ h
 rw [List.nil_append] at e1
 rw [e1]
 refine ⟨(rowE_zero m).2 ⟨by omega, e3⟩, h1.1, by omega, e5, ?_⟩
 unfold rowB
 rw [e6]
 obtain ⟨i, rfl⟩ := Int.eq_ofNat_of_zero_le h1.1
 rw [Int.toNat_natCast, show ((i : Int) + 1).toNat = i + 1 from by omega, sub_cons (i := i) z4_ z4_]
 congr 1
 omega
theorem row_at (a c : List Int) (l : List V) (h : rowE l = 0) : sRowRead (a ++ rowB l ++ c) a.length = (l, (a.length : Int) + (rowB l).length, 0) := by
 obtain ⟨h1, h2⟩ := (rowE_zero l).1 h
 have e : a ++ rowB l ++ c = a ++ (l.length : Int) :: (rowVs l ++ c) := by simp [rowB]
 have e2 : a ++ rowB l ++ c = (a ++ [(l.length : Int)]) ++ rowVs l ++ c := by simp [rowB]
 have hl : (a ++ rowB l ++ c).length = a.length + 1 + (rowVs l).length + c.length := by simp [rowB]; omega
 have hr : rd (a ++ rowB l ++ c) (a.length : Int) = l.length := by rw [e]; exact rd_mid _ _ _ rfl
 unfold sRowRead
 rw [if_pos z4_, hr, if_neg z4_, Int.toNat_natCast]
 have := vals_put l (a ++ [(l.length : Int)]) c [] h2
 rw [← e2] at this
 rw [show ((a.length : Int) + 1) = ((a ++ [(l.length : Int)]).length : Int) by simp, this]
 simp [rowB]
theorem Reads.row : Reads rRow rowB (fun l => rowE l = 0) :=
 Reads.of (z := ([] : List V)) (g := fun l at_ => sRowRead l at_) (e := rowB) (p := fun l => rowE l = 0)
  (fun l at_ hb h => by
   obtain ⟨a, b, c, d, e⟩ := row_got hb h
   exact ⟨b, a, c, d, e⟩)
  (fun a c x h => row_at a c x h)
def dotB (d : Dt) : List Int := big d.f0 1 ++ big d.f1 4
def dotFit (d : Dt) : Prop := fitN 1 d.f0 ∧ fitN 4 d.f1
instance (d : Dt) : Decidable (dotFit d) := by unfold dotFit; infer_instance
def stampB (t : St) : List Int := big t.f0 6 ++ big t.f1 3 ++ big t.f2 1
def stampFit (t : St) : Prop := (fitN 6 t.f0 ∧ fitN 3 t.f1) ∧ fitN 1 t.f2
instance (d : St) : Decidable (stampFit d) := by unfold stampFit; infer_instance
def numsB (l : List Int) : List Int := big l.length 1 ++ l.flatMap fun n => big n 4
def numsFit (l : List Int) : Prop := l.length ≤ 5 ∧ ∀ n ∈ l, fitN 4 n
instance (l : List Int) : Decidable (numsFit l) := by unfold numsFit; infer_instance
def dotsB (l : List Dt) : List Int := big l.length 1 ++ l.flatMap dotB
def dotsFit (l : List Dt) : Prop := l.length ≤ 64 ∧ ∀ d ∈ l, dotFit d
instance (l : List Dt) : Decidable (dotsFit l) := by unfold dotsFit; infer_instance
def opB (x : Ox) : List Int := big x.f3 1 ++ dotB x.f0 ++ numsB x.f1 ++ stampB x.f2 ++ big x.f4 1 ++ encT x.f5 ++ big x.f6 1 ++ rowB x.f7 ++ dotsB x.f8
def opFit (x : Ox) : Prop := (((((((fitN 1 x.f3 ∧ dotFit x.f0) ∧ numsFit x.f1) ∧ stampFit x.f2) ∧ fitN 1 x.f4) ∧ x.f5.size ≤ 24) ∧ fitN 1 x.f6) ∧ rowE x.f7 = 0) ∧ dotsFit x.f8
instance (x : Ox) : Decidable (opFit x) := by unfold opFit; infer_instance
theorem Writes.dot : Writes wDot dotB dotFit := (Writes.num 1 z5_ z5_).comp (Writes.num 4 z5_ z5_) (fun d : Dt => d.f0) (fun d => d.f1)
theorem Writes.stamp : Writes wStamp stampB stampFit :=
 ((Writes.num 6 z5_ z5_).comp (Writes.num 3 z5_ z5_) (fun d : St => d.f0) (fun d => d.f1)).comp (Writes.num 1 z5_ z5_) id (fun d : St => d.f2)
theorem Writes.nums : Writes wNums numsB numsFit :=
 (((Writes.or (fun l : List Int => l.length > 5)).comp (Writes.num 1 z5_ z5_) id (fun l : List Int => (l.length : Int))).comp (Writes.all (Writes.num 4 z5_ z5_)) id id).congr
  (fun l _ => by simp [numsB]) (fun l => ⟨fun h => ⟨by have := h.1.1; simp at this; exact this, h.2⟩, fun h => ⟨⟨by have := h.1; simp; omega, by have := h.1; exact ⟨by omega, by show (l.length : Int) < 256 ^ 1; omega⟩⟩, h.2⟩⟩)
theorem Writes.dots : Writes (fun l s => wAll wDot l (wNum l.length 1 (wOr (decide (l.length > 64)) s))) dotsB dotsFit :=
 (((Writes.or (fun l : List Dt => l.length > 64)).comp (Writes.num 1 z5_ z5_) id (fun l : List Dt => (l.length : Int))).comp (Writes.all Writes.dot) id id).congr
  (fun l _ => by simp [dotsB]) (fun l => ⟨fun h => ⟨by have := h.1.1; simp at this; exact this, h.2⟩, fun h => ⟨⟨by have := h.1; simp; omega, by have := h.1; exact ⟨by omega, by show (l.length : Int) < 256 ^ 1; omega⟩⟩, h.2⟩⟩)
theorem Writes.op : Writes wOp opB opFit :=
 (((((((((Writes.num 1 z5_ z5_).comp Writes.dot (fun x : Ox => x.f3) (fun x : Ox => x.f0)).comp Writes.nums id (fun x : Ox => x.f1)).comp Writes.stamp id (fun x : Ox => x.f2)).comp (Writes.num 1 z5_ z5_) id (fun x : Ox => x.f4)).comp Writes.text id (fun x : Ox => x.f5)).comp (Writes.num 1 z5_ z5_) id (fun x : Ox => x.f6)).comp Writes.row id (fun x : Ox => x.f7)).comp Writes.dots id (fun x : Ox => x.f8))
theorem opBytes_eq (x : Ox) : sOpBytes x = if opFit x then (opB x, 0) else ([], 1) := by
 unfold sOpBytes
 by_cases h : opFit x
 ·
  rw [if_pos h, Writes.op.ok x _ h]; simp
 rw [if_neg h, Writes.op.no x _ h, if_pos rfl]
theorem Reads.dot : Reads rDot dotB dotFit :=
 ((Reads.num 1 z5_ z5_).comp (Reads.num 4 z5_ z5_)).map (fun p => (⟨p.1, p.2⟩ : Dt)) (fun d => (d.f0, d.f1)) (fun _ => rfl) (fun _ => rfl)
theorem Reads.stamp : Reads rStamp stampB stampFit :=
 (((Reads.num 6 z5_ z5_).comp (Reads.num 3 z5_ z5_)).comp (Reads.num 1 z5_ z5_)).map (fun p => (⟨p.1.1, p.1.2, p.2⟩ : St)) (fun d => ((d.f0, d.f1), d.f2)) (fun _ => rfl) (fun _ => rfl)
theorem Reads.nums : Reads rNums numsB numsFit := (Reads.num 4 z5_ z5_).many 1 z5_ z5_ 5 z5_
theorem Reads.dots : Reads rDots dotsB dotsFit := Reads.dot.many 1 z5_ z5_ 64 z5_
theorem Reads.head : Reads (fun l r => (((rHead l r).1.f3, (rHead l r).1.f0, (rHead l r).1.f1, (rHead l r).1.f2, (rHead l r).1.f4, (rHead l r).1.f5, (rHead l r).1.f6), (rHead l r).2))
  (fun p => big p.1 1 ++ dotB p.2.1 ++ numsB p.2.2.1 ++ stampB p.2.2.2.1 ++ big p.2.2.2.2.1 1 ++ encT p.2.2.2.2.2.1 ++ big p.2.2.2.2.2.2 1)
  (fun p => ((((((fitN 1 p.1 ∧ dotFit p.2.1) ∧ numsFit p.2.2.1) ∧ stampFit p.2.2.2.1) ∧ fitN 1 p.2.2.2.2.1) ∧ p.2.2.2.2.2.1.size ≤ 24) ∧ fitN 1 p.2.2.2.2.2.2)) :=
 (((((((Reads.num 1 z5_ z5_).comp Reads.dot).comp Reads.nums).comp Reads.stamp).comp (Reads.num 1 z5_ z5_)).comp Reads.text).comp (Reads.num 1 z5_ z5_)).map
  (fun p => (p.1.1.1.1.1.1, p.1.1.1.1.1.2, p.1.1.1.1.2, p.1.1.1.2, p.1.1.2, p.1.2, p.2)) (fun p => ((((((p.1, p.2.1), p.2.2.1), p.2.2.2.1), p.2.2.2.2.1), p.2.2.2.2.2.1), p.2.2.2.2.2.2)) (fun _ => rfl) (fun _ => rfl)
def rOpC (l : List Int) (r : Rr) : Ox × Rr :=
 ({ (rHead l r).1 with f7 := (rRow l (rHead l r).2).1, f8 := (rDots l (rRow l (rHead l r).2).2).1 }, (rDots l (rRow l (rHead l r).2).2).2)
theorem Reads.opC : Reads rOpC opB opFit :=
 ((Reads.head.comp Reads.row).comp Reads.dots).map
  (fun p => (⟨p.1.1.2.1, p.1.1.2.2.1, p.1.1.2.2.2.1, p.1.1.1, p.1.1.2.2.2.2.1, p.1.1.2.2.2.2.2.1, p.1.1.2.2.2.2.2.2, p.1.2, p.2⟩ : Ox)) (fun x => (((x.f3, x.f0, x.f1, x.f2, x.f4, x.f5, x.f6), x.f7), x.f8)) (fun _ => rfl) (fun _ => rfl)
theorem rOp_good {l : List Int} {r : Rr} (h : (rRow l (rHead l r).2).2.2 = false) : rOp l r = rOpC l r := by
 unfold rOp; rw [if_neg (by rw [h]; decide)]; rfl
theorem rOp_bad {l : List Int} {r : Rr} (h : (rRow l (rHead l r).2).2.2 = true) : rOp l r = (zOp, (rRow l (rHead l r).2).2) := by
 unfold rOp; rw [if_pos h]
theorem rOpC_good {l : List Int} {r : Rr} (h : (rOpC l r).2.2 = false) : (rRow l (rHead l r).2).2.2 = false := Reads.dots.good h
theorem Reads.op : Reads rOp opB opFit where
 bad := fun l r h => by
  cases hr : (rRow l (rHead l r).2).2.2
  ·
   rw [rOp_good hr]; exact Reads.opC.bad l r h
  ·
   rw [rOp_bad hr]; exact hr
 place := fun l r hb h0 h1 => by
  cases hr : (rRow l (rHead l r).2).2.2
  ·
   rw [rOp_good hr]; exact Reads.opC.place l r hb h0 h1
  ·
   rw [rOp_bad hr]
   obtain ⟨a, b⟩ := Reads.head.place l r hb h0 h1
   exact Reads.row.place l _ hb a b
 got := fun l r hb h0 h1 h => by
  cases hr : (rRow l (rHead l r).2).2.2
  ·
   rw [rOp_good hr] at h ⊢; exact Reads.opC.got l r hb h0 h1 h
  ·
   rw [rOp_bad hr] at h; exact absurd (hr.symm.trans h) z5_
 put := fun a c x h => by
  have := Reads.opC.put a c x h
  rw [rOp_good (rOpC_good (by rw [this])), this]
theorem opRead_put (a c : List Int) (x : Ox) (h : opFit x) : sOpRead (a ++ opB x ++ c) a.length = (x, (a.length : Int) + (opB x).length, 0) := by
 unfold sOpRead
 rw [if_neg (by simp; omega), Reads.op.put a c x h, if_neg (by simp)]
theorem opRead_got {l : List Int} {at_ : Int} (hb : Bytes l) (h : (sOpRead l at_).2.2 = 0) :
  opFit (sOpRead l at_).1 ∧ 0 ≤ at_ ∧ at_ ≤ (sOpRead l at_).2.1 ∧ (sOpRead l at_).2.1 ≤ l.length ∧ opB (sOpRead l at_).1 = sub l at_.toNat (sOpRead l at_).2.1.toNat := by
 unfold sOpRead at h ⊢
 by_cases c : at_ < 0 ∨ at_ > l.length
 ·
  rw [if_pos c] at h; simp at h
 rw [if_neg c] at h ⊢
 cases d : (rOp l (at_, false)).2.2
 ·
  rw [if_neg z5_]
  obtain ⟨e1, e2, e3⟩ := Reads.op.got l (at_, false) hb (by show 0 ≤ at_; omega) (by show at_ ≤ _; omega) d
  obtain ⟨e4, e5⟩ := Reads.op.place l (at_, false) hb (by show 0 ≤ at_; omega) (by show at_ ≤ _; omega)
  exact ⟨e1, by omega, e2, e5, e3⟩
 ·
  rw [d, if_pos rfl] at h; simp at h
theorem opRead_none {l : List Int} {at_ : Int} (h : (sOpRead l at_).2.2 ≠ 0) : (sOpRead l at_).1 = zOp ∧ (sOpRead l at_).2.1 = 0 := by
 unfold sOpRead at h ⊢
 split
 ·
  exact ⟨rfl, rfl⟩
 ·
  rename_i c
  rw [if_neg c] at h
  split
  ·
   exact ⟨rfl, rfl⟩
  ·
   rename_i d; rw [if_neg d] at h; exact absurd rfl h
theorem opB_len (x : Ox) (h : opFit x) : 22 ≤ (opB x).length ∧ (opB x).length ≤ 1000 := by
 obtain ⟨⟨⟨⟨⟨⟨⟨⟨k, d⟩, n⟩, t⟩, b⟩, y⟩, c⟩, v⟩, z⟩ := h
 have hr := rowB_len v
 have hr1 : 1 ≤ (rowB x.f7).length := by simp [rowB]
 have h1 : (x.f1.flatMap fun n => big n 4).length = 4 * x.f1.length := by
  have : ∀ l : List Int, (l.flatMap fun n => big n 4).length = 4 * l.length := fun l => by
   induction l with
   | nil => rfl
   | cons a l ih => rw [List.flatMap_cons, List.length_append, ih, big_length, List.length_cons]; omega
  exact this _
 have h2 : (x.f8.flatMap dotB).length = 5 * x.f8.length := by
  have : ∀ l : List Dt, (l.flatMap dotB).length = 5 * l.length := fun l => by
   induction l with
   | nil => rfl
   | cons a l ih => rw [List.flatMap_cons, List.length_append, ih, List.length_cons]; simp [dotB, big_length]; omega
  exact this _
 have := n.1
 have := z.1
 simp only [opB, dotB, numsB, stampB, dotsB, encT, List.length_append, big_length, h1, h2, List.length_cons, bytesOf_length]
 omega
theorem opB_inj {x y : Ox} (hx : opFit x) (hy : opFit y) : opB x = opB y ↔ x = y := by
 constructor
 ·
  intro h
  have h1 := opRead_put [] [] x hx
  have h2 := opRead_put [] [] y hy
  rw [h, h2] at h1
  exact (congrArg Prod.fst h1).symm
 ·
  intro h; rw [h]
theorem opB_cut {x : Ox} (hx : opFit x) (hb : Bytes (opB x)) (n : Nat) (hn : n < (opB x).length) : sOpRead ((opB x).take n) 0 = (zOp, 0, 3) := by
 have hz : (sOpRead ((opB x).take n) 0).2.2 ≠ 0 := fun h => by
  obtain ⟨a, _, b, c, d⟩ := opRead_got (hb.take n) h
  have hl : ((opB x).take n).length = n := by rw [List.length_take]; omega
  have hs := sub_length (l := (opB x).take n) (a := (0 : Int).toNat) (b := (sOpRead ((opB x).take n) 0).2.1.toNat) z4_
  generalize hq : (sOpRead ((opB x).take n) 0).2.1.toNat = q at d hs
  generalize (sOpRead ((opB x).take n) 0).1 = y at a d
  have hy := opRead_put [] ((opB x).drop q) y a
  have hqn : q ≤ n := by omega
  have he : opB y = (opB x).take q := by
   rw [d]; unfold sub
   rw [List.take_take, Nat.min_eq_left hqn]; rfl
  rw [List.nil_append, he, List.take_append_drop] at hy
  have hx' := opRead_put [] [] x hx
  rw [List.nil_append, List.append_nil] at hx'
  have e := hy.symm.trans hx'
  have e1 := congrArg (fun z => z.2.1) e
  simp only [List.length_nil, List.length_take] at e1
  omega
 have := opRead_none hz
 unfold sOpRead at hz this ⊢
 rw [if_neg z4_] at hz this ⊢
 split
 ·
  rfl
 ·
  rename_i c; rw [if_neg c] at hz; exact absurd rfl hz
end Go.Proofs.Ytjnjfogfpmeacaa.Ops
end
section
namespace Go.Proofs.Ytjnjfogfpmeacaa.Ops
open Go.RowKit PAll Plain PrintWords PrintLast PrintMore Go.Proofs.Ytjnjfogfpmeacaa.Sep ZipT PrintWords.Kd PrintMore.Kd
set_option linter.unusedVariables false
set_option linter.unusedSimpArgs false
def WrP (g : Nat) (s : Wr) : Part := Part.ex fun v : Value => Part.all [Blk g (.cells #[v, .bool s.2] 72 (0, 0)), Row (Kd.int .u8) 5 v s.1]
section
variable {w : World} {g : Nat} {s : Wr} {F : List Part}
theorem WrP.open (h : Sp w (WrP g s :: F)) : ∃ v, Sp w (Blk g (.cells #[v, .bool s.2] 72 (0, 0)) :: Row (Kd.int .u8) 5 v s.1 :: F) := by
 obtain ⟨v, h⟩ := h.ofEx
 exact ⟨v, h.ofAll⟩
theorem WrP.shut {v : Value} {bs : List Int} {bad : Bool} (h : Sp w (Blk g (.cells #[v, .bool bad] 72 (0, 0)) :: Row (Kd.int .u8) 5 v bs :: F)) : Sp w (WrP g (bs, bad) :: F) :=
 Sp.toEx (f := fun v : Value => Part.all [Blk g (.cells #[v, .bool bad] 72 (0, 0)), Row (Kd.int .u8) 5 v bs]) v (Sp.toAll (ps := [_, _]) h)
theorem sPut_len (n size : Int) : (sPut [] n size).1.length ≤ 7 := by
 unfold sPut
 split
 ·
  rename_i h; simp [big_length]; omega
 ·
  simp
theorem wNum_len (n size : Int) (s : Wr) : (wNum n size s).1.length ≤ s.1.length + 7 := by
 have := sPut_len n size
 unfold wNum wAdd; simp only [List.length_append]; omega
theorem wadd_calls (bs : List Int) (bad : Bool) (A : Option Addr) (c : Nat) (b : List Int) (e : Int) (hS : Sp w (WrP g (bs, bad) :: Row (Kd.int .u8) 5 (.slice A b.length c) b :: F)) (hl : bs.length + b.length ≤ 1000000000) :
  Calls Try.prog 71 #[.pointer (some ⟨g, 0, none⟩), .slice A b.length c, .int .i64 e] w fun r w' => (∃ v, r = .returned v) ∧ Sp w' (WrP g (wAdd (bs, bad) (b, e)) :: F) := by
 obtain ⟨v, hS⟩ := WrP.open hS
 obtain ⟨A0, c0, rfl, hc0, _⟩ := hS.tail.row
 have h0 : w.cell? ⟨g, 0, none⟩ = some (.slice A0 bs.length c0) := blk_cell hS.blk 0
 have h1 : w.cell? ⟨g, 1, none⟩ = some (.bool bad) := blk_cell hS.blk 1
 have f0 := blk_frozen hS.blk 0
 have f1 := blk_frozen hS.blk 1
 have key : ∀ nb : Bool, Aside0 (Sp (w.setCell ⟨g, 1, none⟩ (.bool nb)) (Blk g (.cells #[.slice A0 bs.length c0, .bool nb] 72 (0, 0)) :: Row (Kd.int .u8) 5 (.slice A0 bs.length c0) bs :: Row (Kd.int .u8) 5 (.slice A b.length c) b :: F)) := fun nb => ⟨hS.store 1 (.bool nb)⟩
 have HL := mk_ hl
 clear hS hl hc0
 cases bad with
 | true =>
  have HS1 := key true
  have HC1 := mk_ (HS1.out.s2.row.elim fun _ h => h.elim fun _ h => (show Kd.C (Kd.int .u8) _ A b.length b by have e_ := h.1; injection e_ with e1 e2 e3; rw [e1]; exact h.2.2))
  have k0 := blk_cell HS1.out.blk 0
  have kf := blk_frozen HS1.out.blk 0
  clear key
  go_enter Try.func71, Try.ntmps71
  go_wp2_with ((with_reducible refine gate_builtin (b := .append) (xs := #[.tmp 21, .tmp 22]) rfl ?_); at_builtin; refine Sp.appendRow (Kd.int .u8) rfl (.tmp 21) (.tmp 22) 22 5 (.int .u8 0) 1 rfl Try.underlying22 z0_ rfl z5_ z4_ (.slice A0 bs.length c0) bs b A b.length c rfl rfl (fun _ _ h => h) HS1.out.s1 HC1.out (by have := HL.out; omega) ?_; intro v1 w1 h1; obtain ⟨A1, c1, rfl, _, _⟩ := h1.row; have k1 := blk_cell h1.s1.blk 0; have kg := blk_frozen h1.s1.blk 0; have HS2 := mk_ h1; clear h1)
  go_end0
  refine ⟨⟨_, rfl⟩, ?_⟩
  have h2 := HS2.out.s1.store 0 (.slice A1 (bs ++ b).length c1)
  have h3 := (WrP.shut (bs := bs ++ b) (bad := true) h2).s1.tail
  have e1 : wAdd (bs, true) (b, e) = (bs ++ b, true) := by unfold wAdd; simp
  first | rw [e1] | (rw [he] at e1; rw [e1])
  rw [List.length_append] at h3
  exact h3
 | false =>
  by_cases he : e = 0
  ·
   have hb0 : (e == 0) = true := beq_iff_eq.2 he
   have hb1 : (e != 0) = false := bne_eq_false_iff_eq.2 he
   have hb2 : decide (e = 0) = true := decide_eq_true he
   have HS1 := key false
   have HC1 := mk_ (HS1.out.s2.row.elim fun _ h => h.elim fun _ h => (show Kd.C (Kd.int .u8) _ A b.length b by have e_ := h.1; injection e_ with e1 e2 e3; rw [e1]; exact h.2.2))
   have k0 := blk_cell HS1.out.blk 0
   have kf := blk_frozen HS1.out.blk 0
   clear key
   go_enter Try.func71, Try.ntmps71
   go_wp2_with ((with_reducible refine gate_builtin (b := .append) (xs := #[.tmp 21, .tmp 22]) rfl ?_); at_builtin; refine Sp.appendRow (Kd.int .u8) rfl (.tmp 21) (.tmp 22) 22 5 (.int .u8 0) 1 rfl Try.underlying22 z0_ rfl z5_ z4_ (.slice A0 bs.length c0) bs b A b.length c rfl rfl (fun _ _ h => h) HS1.out.s1 HC1.out (by have := HL.out; omega) ?_; intro v1 w1 h1; obtain ⟨A1, c1, rfl, _, _⟩ := h1.row; have k1 := blk_cell h1.s1.blk 0; have kg := blk_frozen h1.s1.blk 0; have HS2 := mk_ h1; clear h1)
   go_end0
   refine ⟨⟨_, rfl⟩, ?_⟩
   have h2 := HS2.out.s1.store 0 (.slice A1 (bs ++ b).length c1)
   have h3 := (WrP.shut (bs := bs ++ b) (bad := false) h2).s1.tail
   have e1 : wAdd (bs, false) (b, e) = (bs ++ b, false) := by unfold wAdd; simp [he]
   first | rw [e1] | (rw [he] at e1; rw [e1])
   rw [List.length_append] at h3
   exact h3
  have hb0 : (e == 0) = false := beq_eq_false_iff_ne.2 he
  have hb1 : (e != 0) = true := bne_iff_ne.2 he
  have hb2 : decide (e = 0) = false := decide_eq_false he
  have HS1 := key true
  have HC1 := mk_ (HS1.out.s2.row.elim fun _ h => h.elim fun _ h => (show Kd.C (Kd.int .u8) _ A b.length b by have e_ := h.1; injection e_ with e1 e2 e3; rw [e1]; exact h.2.2))
  have k0 := blk_cell HS1.out.blk 0
  have kf := blk_frozen HS1.out.blk 0
  clear key
  go_enter Try.func71, Try.ntmps71
  go_wp2_with ((with_reducible refine gate_builtin (b := .append) (xs := #[.tmp 21, .tmp 22]) rfl ?_); at_builtin; refine Sp.appendRow (Kd.int .u8) rfl (.tmp 21) (.tmp 22) 22 5 (.int .u8 0) 1 rfl Try.underlying22 z0_ rfl z5_ z4_ (.slice A0 bs.length c0) bs b A b.length c rfl rfl (fun _ _ h => h) HS1.out.s1 HC1.out (by have := HL.out; omega) ?_; intro v1 w1 h1; obtain ⟨A1, c1, rfl, _, _⟩ := h1.row; have k1 := blk_cell h1.s1.blk 0; have kg := blk_frozen h1.s1.blk 0; have HS2 := mk_ h1; clear h1)
  go_end0
  refine ⟨⟨_, rfl⟩, ?_⟩
  have h2 := HS2.out.s1.store 0 (.slice A1 (bs ++ b).length c1)
  have h3 := (WrP.shut (bs := bs ++ b) (bad := true) h2).s1.tail
  have e1 : wAdd (bs, false) (b, e) = (bs ++ b, true) := by unfold wAdd; simp [he]
  first | rw [e1] | (rw [he] at e1; rw [e1])
  rw [List.length_append] at h3
  exact h3
theorem wnum_calls (s : Wr) (n size : Int) (hS : Sp w (WrP g s :: F)) (hl : s.1.length ≤ 900000000) :
  Calls Try.prog 66 #[.pointer (some ⟨g, 0, none⟩), .int .i64 n, .int .i64 size] w fun r w' => (∃ v, r = .returned v) ∧ Sp w' (WrP g (wNum n size s) :: F) := by
 have HS := mk_ hS
 have HL := mk_ hl
 have HP := mk_ (put_eq 10 [] n size (by simp) (Nat.le_refl _))
 clear hS hl
 go_enter Try.func66, Try.ntmps66
 go_wp2_with (first
  | (go_at_call 98; refine (PAll.wire_Put.calls 10 none 0 [] n size (sPut [] n size).1 (sPut [] n size).2 _ (C_nil _ _) (Nat.le_refl _) HP.out).mono ?_; rintro e V ⟨u, rfl, hr, hq⟩; obtain ⟨Au, cu, rfl⟩ := R_slice hr; have HS1 := mk_ (Sp.made HS.out hq hr); clear hr hq)
  | (go_at_call 71; refine (wadd_calls s.1 s.2 Au cu (sPut [] n size).1 (sPut [] n size).2 HS1.out.s1 (by have := HL.out; have := sPut_len n size; omega)).mono ?_; rintro e V2 ⟨⟨u, rfl⟩, h2⟩; have HS2 := mk_ h2; clear h2))
 go_end0
 exact ⟨⟨_, rfl⟩, HS2.out⟩
theorem sPutText_len (t : ByteArray) : (sPutText [] t).1.length ≤ 25 := by
 unfold sPutText
 split
 ·
  rename_i h; simp [bytesOf_length]; omega
 ·
  simp
theorem wText_len (t : ByteArray) (s : Wr) : (wText t s).1.length ≤ s.1.length + 25 := by
 have := sPutText_len t
 unfold wText wAdd; simp only [List.length_append]; omega
theorem wtext_calls (s : Wr) (t : ByteArray) (hS : Sp w (WrP g s :: F)) (hl : s.1.length ≤ 900000000) :
  Calls Try.prog 70 #[.pointer (some ⟨g, 0, none⟩), .string t] w fun r w' => (∃ v, r = .returned v) ∧ Sp w' (WrP g (wText t s) :: F) := by
 have HS := mk_ hS
 have HL := mk_ hl
 have HP := mk_ (putText_eq [] t (by simp))
 clear hS hl
 go_enter Try.func70, Try.ntmps70
 go_wp2_with (first
  | (go_at_call 89; refine (PAll.wire_PutText.calls none 0 [] t (sPutText [] t).1 (sPutText [] t).2 _ (C_nil _ _) (Nat.le_refl _) HP.out).mono ?_; rintro e V ⟨u, rfl, hr, hq⟩; obtain ⟨Au, cu, rfl⟩ := R_slice hr; have HS1 := mk_ (Sp.made HS.out hq hr); clear hr hq)
  | (go_at_call 71; refine (wadd_calls s.1 s.2 Au cu (sPutText [] t).1 (sPutText [] t).2 HS1.out.s1 (by have := HL.out; have := sPutText_len t; omega)).mono ?_; rintro e V2 ⟨⟨u, rfl⟩, h2⟩; have HS2 := mk_ h2; clear h2))
 go_end0
 exact ⟨⟨_, rfl⟩, HS2.out⟩
theorem wdot_calls (s : Wr) (d : Dt) (hS : Sp w (WrP g s :: F)) (hl : s.1.length ≤ 800000000) :
  Calls Try.prog 67 #[.pointer (some ⟨g, 0, none⟩), .agg #[.int .i64 d.f0, .int .i64 d.f1]] w fun r w' => (∃ v, r = .returned v) ∧ Sp w' (WrP g (wDot d s) :: F) := by
 have HB := mk_ ((hS.box (.cells #[.int .i64 d.f0, .int .i64 d.f1] 25 (0, 0))).s1)
 have HL := mk_ hl
 clear hS hl
 go_enter Try.func67, Try.ntmps67
 go_wp2_with (first
  | (go_at_call 66; (with_reducible show Calls _ _ #[_, .int .i64 d.f0, .int .i64 1] _ _); refine (wnum_calls (s) d.f0 1 HB.out (by have := HL.out; omega)).mono ?_; rintro e V0 ⟨⟨u, rfl⟩, h1⟩; have k1 := blk_cell h1.s1.blk 1; have HS1 := mk_ h1; clear h1)
  | (go_at_call 66; (with_reducible show Calls _ _ #[_, .int .i64 d.f1, .int .i64 4] _ _); refine (wnum_calls (wNum d.f0 1 (s)) d.f1 4 HS1.out (by have := HL.out; have := wNum_len d.f0 1 (s); omega)).mono ?_; rintro e V1 ⟨⟨u, rfl⟩, h1⟩; have HS2 := mk_ h1; clear h1))
 go_end0
 exact ⟨⟨_, rfl⟩, HS2.out.s1.tail⟩
theorem wstamp_calls (s : Wr) (d : St) (hS : Sp w (WrP g s :: F)) (hl : s.1.length ≤ 800000000) :
  Calls Try.prog 69 #[.pointer (some ⟨g, 0, none⟩), .agg #[.int .i64 d.f0, .int .i64 d.f1, .int .i64 d.f2]] w fun r w' => (∃ v, r = .returned v) ∧ Sp w' (WrP g (wStamp d s) :: F) := by
 have HB := mk_ ((hS.box (.cells #[.int .i64 d.f0, .int .i64 d.f1, .int .i64 d.f2] 28 (0, 0))).s1)
 have HL := mk_ hl
 clear hS hl
 go_enter Try.func69, Try.ntmps69
 go_wp2_with (first
  | (go_at_call 66; (with_reducible show Calls _ _ #[_, .int .i64 d.f0, .int .i64 6] _ _); refine (wnum_calls (s) d.f0 6 HB.out (by have := HL.out; omega)).mono ?_; rintro e V0 ⟨⟨u, rfl⟩, h1⟩; have k1 := blk_cell h1.s1.blk 1; have HS1 := mk_ h1; clear h1)
  | (go_at_call 66; (with_reducible show Calls _ _ #[_, .int .i64 d.f1, .int .i64 3] _ _); refine (wnum_calls (wNum d.f0 6 (s)) d.f1 3 HS1.out (by have := HL.out; have := wNum_len d.f0 6 (s); omega)).mono ?_; rintro e V1 ⟨⟨u, rfl⟩, h1⟩; have k2 := blk_cell h1.s1.blk 2; have HS2 := mk_ h1; clear h1)
  | (go_at_call 66; (with_reducible show Calls _ _ #[_, .int .i64 d.f2, .int .i64 1] _ _); refine (wnum_calls (wNum d.f1 3 (wNum d.f0 6 (s))) d.f2 1 HS2.out (by have := HL.out; have := wNum_len d.f0 6 (s); have := wNum_len d.f1 3 (wNum d.f0 6 (s)); omega)).mono ?_; rintro e V2 ⟨⟨u, rfl⟩, h1⟩; have HS3 := mk_ h1; clear h1))
 go_end0
 exact ⟨⟨_, rfl⟩, HS3.out.s1.tail⟩
theorem wDot_len (d : Dt) (s : Wr) : (wDot d s).1.length ≤ s.1.length + 14 := by
 have h1 := wNum_len d.f0 1 s
 have h2 := wNum_len d.f1 4 (wNum d.f0 1 s)
 unfold wDot; omega
theorem wStamp_len (d : St) (s : Wr) : (wStamp d s).1.length ≤ s.1.length + 21 := by
 have h1 := wNum_len d.f0 6 s
 have h2 := wNum_len d.f1 3 (wNum d.f0 6 s)
 have h3 := wNum_len d.f2 1 (wNum d.f1 3 (wNum d.f0 6 s))
 unfold wStamp; omega
theorem wAll_snoc {α : Type} (f : α → Wr → Wr) : ∀ (l : List α) (x : α) (s : Wr), wAll f (l ++ [x]) s = f x (wAll f l s)
 | [], x, s => rfl
 | y :: l, x, s => by rw [List.cons_append, wAll, wAll, wAll_snoc f l x]
theorem wAll_len {α : Type} {f : α → Wr → Wr} {m : Nat} (hf : ∀ x s, (f x s).1.length ≤ s.1.length + m) : ∀ (l : List α) (s : Wr), (wAll f l s).1.length ≤ s.1.length + m * l.length
 | [], s => by simp [wAll]
 | y :: l, s => by
  have h1 := wAll_len hf l (f y s)
  have h2 := hf y s
  rw [wAll, List.length_cons, Nat.mul_succ]; omega
theorem take_snoc {α : Type} {l : List α} {i : Nat} (h : i < l.length) : l.take (i + 1) = l.take i ++ [l[i]] := by rw [List.take_add_one, List.getElem?_eq_getElem h]; rfl
theorem rd_get {l : List Int} {i : Nat} (h : i < l.length) : rd l (i : Int) = l[i] := by
 show l.getD (i : Int).toNat 0 = _
 rw [Int.toNat_natCast, List.getD_eq_getElem?_getD, List.getElem?_eq_getElem h]; rfl
theorem wnums_calls {w0 : World} (A : Option Addr) (c : Nat) (l : List Int) (hC : Kd.C (Kd.int .i64) w0 A l.length l) (hlc : l.length ≤ c) (hll : l.length ≤ 1000) (s : Wr) (hS : Sp w (WrP g s :: Old w0 :: F)) (hl : s.1.length ≤ 700000000) :
  Calls Try.prog 68 #[.pointer (some ⟨g, 0, none⟩), .slice A l.length c] w fun r w' => (∃ v, r = .returned v) ∧ Sp w' (WrP g (wNums l s) :: Old w0 :: F) := by
 obtain ⟨bs, bad⟩ := s
 have HC := mk_ hC
 have HLL := mk_ hll
 have HL := mk_ (show bs.length ≤ 700000000 from hl)
 obtain ⟨v, hS⟩ := WrP.open hS
 have h1 : w.cell? ⟨g, 1, none⟩ = some (.bool bad) := blk_cell hS.blk 1
 have f1 := blk_frozen hS.blk 1
 have key : ∀ nb : Bool, Aside0 (Sp (w.setCell ⟨g, 1, none⟩ (.bool nb)) (WrP g (bs, nb) :: Old w0 :: F)) := fun nb => ⟨WrP.shut (hS.store 1 (.bool nb))⟩
 clear hS hC hlc hll hl
 cases bad with
 | true =>
  have hcase : True := trivial
  have HS1 := key true
  have hn0 : wOr (decide (l.length > 5)) (bs, true) = (bs, true) := by unfold wOr; simp [hcase]
  clear key
  go_enter Try.func68, Try.ntmps68
  go_wp2_with (go_at_call 66; refine (wnum_calls (bs, true) (l.length : Int) 1 HS1.out (by have := HL.out; show bs.length ≤ _; omega)).mono ?_; rintro e V ⟨⟨u, rfl⟩, h1⟩; have HS2 := mk_ h1; clear h1)
  go_loopg [24] (l.length + 1) (fun kq v24 W' => ∃ (i : Nat), v24 = .int .i64 (i : Int) ∧ Aside0 (Sp W' (WrP g (wAll (fun n => wNum n 4) (l.take i) (wNum (l.length : Int) 1 (bs, true))) :: Old w0 :: F)) ∧ Aside0 (kq + i = l.length + 1 ∧ i ≤ l.length))
  case atStart => exact ⟨0, rfl, ⟨HS2.out⟩, ⟨by omega⟩⟩
  case round =>
   obtain ⟨i, rfl, HA, HK⟩ := hrel
   obtain ⟨k1, rfl⟩ : ∃ k1, gk = k1 + 1 := ⟨gk - 1, by have := HK.out; omega⟩
   by_cases hi : i < l.length
   rotate_left
   ·
    have hie : i = l.length := by have := HK.out; omega
    subst hie
    have hb2' : decide ((l.length : Int) < (l.length : Int)) = false := decide_eq_false z4_
    have hb3' : decide (l.length < l.length) = false := decide_eq_false z4_
    clear hi
    go_wp2
    go_end0
    refine ⟨⟨_, rfl⟩, ?_⟩
    have h := HA.out
    rw [List.take_length] at h
    unfold wNums
    rw [hn0]
    exact h
   have hx := Kd.at_int (C_below HC.out HA.out.s1.old) (i : Int) z4_ z4_
   obtain ⟨ad, hA, hx⟩ := hx
   cases hA
   rw [rd_get hi, Int.toNat_natCast] at hx
   have hb0 : (0 ≤ (i : Int)) = True := eq_true z4_
   have hb1 : ((i : Int) < (l.length : Int)) = True := eq_true z4_
   have hb2 : decide ((i : Int) < (l.length : Int)) = true := decide_eq_true z4_
   have hb3 : decide (i < l.length) = true := decide_eq_true hi
   have HI2 := mk_ hi
   have HT := mk_ (take_snoc hi)
   generalize hlx : l[i] = x at *
   clear hi hlx
   go_wp2_with (go_at_call 66; refine (wnum_calls _ x 4 HA.out (by have := HL.out; have h1 := wAll_len (f := fun n => wNum n 4) (m := 7) (fun x s => wNum_len x 4 s) (l.take i) (wNum (l.length : Int) 1 (bs, true)); have h2 := wNum_len (l.length : Int) 1 (bs, true); have h3 := HLL.out; have h4 := List.length_take_le i l; have h6 := HI2.out; have h5 : (bs, true).1.length = bs.length := rfl; omega)).mono ?_; rintro e V2 ⟨⟨u, rfl⟩, h1⟩; have HS3 := mk_ h1; clear h1)
   go_roundg k1
   case measure => exact Nat.lt_succ_self _
   case rel => exact ⟨i + 1, by rw [w64 z4_ (by have := HI2.out; have := HLL.out; omega)]; rfl, ⟨by rw [HT.out, wAll_snoc]; exact HS3.out⟩, ⟨by have := HK.out; omega, by have := HI2.out; omega⟩⟩
 | false =>
  by_cases hcase : l.length > 5
  ·
   have hd1 : decide ((5 : Int) < (l.length : Int)) = true := decide_eq_true z4_
   have hd2 : decide (5 < l.length) = true := decide_eq_true hcase
   have HS1 := key true
   have hn0 : wOr (decide (l.length > 5)) (bs, false) = (bs, true) := by unfold wOr; simp [hcase]
   clear key
   go_enter Try.func68, Try.ntmps68
   go_wp2_with (go_at_call 66; refine (wnum_calls (bs, true) (l.length : Int) 1 HS1.out (by have := HL.out; show bs.length ≤ _; omega)).mono ?_; rintro e V ⟨⟨u, rfl⟩, h1⟩; have HS2 := mk_ h1; clear h1)
   go_loopg [24] (l.length + 1) (fun kq v24 W' => ∃ (i : Nat), v24 = .int .i64 (i : Int) ∧ Aside0 (Sp W' (WrP g (wAll (fun n => wNum n 4) (l.take i) (wNum (l.length : Int) 1 (bs, true))) :: Old w0 :: F)) ∧ Aside0 (kq + i = l.length + 1 ∧ i ≤ l.length))
   case atStart => exact ⟨0, rfl, ⟨HS2.out⟩, ⟨by omega⟩⟩
   case round =>
    obtain ⟨i, rfl, HA, HK⟩ := hrel
    obtain ⟨k1, rfl⟩ : ∃ k1, gk = k1 + 1 := ⟨gk - 1, by have := HK.out; omega⟩
    by_cases hi : i < l.length
    rotate_left
    ·
     have hie : i = l.length := by have := HK.out; omega
     subst hie
     have hb2' : decide ((l.length : Int) < (l.length : Int)) = false := decide_eq_false z4_
     have hb3' : decide (l.length < l.length) = false := decide_eq_false z4_
     clear hi
     go_wp2
     go_end0
     refine ⟨⟨_, rfl⟩, ?_⟩
     have h := HA.out
     rw [List.take_length] at h
     unfold wNums
     rw [hn0]
     exact h
    have hx := Kd.at_int (C_below HC.out HA.out.s1.old) (i : Int) z4_ z4_
    obtain ⟨ad, hA, hx⟩ := hx
    cases hA
    rw [rd_get hi, Int.toNat_natCast] at hx
    have hb0 : (0 ≤ (i : Int)) = True := eq_true z4_
    have hb1 : ((i : Int) < (l.length : Int)) = True := eq_true z4_
    have hb2 : decide ((i : Int) < (l.length : Int)) = true := decide_eq_true z4_
    have hb3 : decide (i < l.length) = true := decide_eq_true hi
    have HI2 := mk_ hi
    have HT := mk_ (take_snoc hi)
    generalize hlx : l[i] = x at *
    clear hi hlx
    go_wp2_with (go_at_call 66; refine (wnum_calls _ x 4 HA.out (by have := HL.out; have h1 := wAll_len (f := fun n => wNum n 4) (m := 7) (fun x s => wNum_len x 4 s) (l.take i) (wNum (l.length : Int) 1 (bs, true)); have h2 := wNum_len (l.length : Int) 1 (bs, true); have h3 := HLL.out; have h4 := List.length_take_le i l; have h6 := HI2.out; have h5 : (bs, true).1.length = bs.length := rfl; omega)).mono ?_; rintro e V2 ⟨⟨u, rfl⟩, h1⟩; have HS3 := mk_ h1; clear h1)
    go_roundg k1
    case measure => exact Nat.lt_succ_self _
    case rel => exact ⟨i + 1, by rw [w64 z4_ (by have := HI2.out; have := HLL.out; omega)]; rfl, ⟨by rw [HT.out, wAll_snoc]; exact HS3.out⟩, ⟨by have := HK.out; omega, by have := HI2.out; omega⟩⟩
  have hd1 : decide ((5 : Int) < (l.length : Int)) = false := decide_eq_false z4_
  have hd2 : decide (5 < l.length) = false := decide_eq_false hcase
  have HS1 := key false
  have hn0 : wOr (decide (l.length > 5)) (bs, false) = (bs, false) := by unfold wOr; simp [hcase]
  clear key
  go_enter Try.func68, Try.ntmps68
  go_wp2_with (go_at_call 66; refine (wnum_calls (bs, false) (l.length : Int) 1 HS1.out (by have := HL.out; show bs.length ≤ _; omega)).mono ?_; rintro e V ⟨⟨u, rfl⟩, h1⟩; have HS2 := mk_ h1; clear h1)
  go_loopg [24] (l.length + 1) (fun kq v24 W' => ∃ (i : Nat), v24 = .int .i64 (i : Int) ∧ Aside0 (Sp W' (WrP g (wAll (fun n => wNum n 4) (l.take i) (wNum (l.length : Int) 1 (bs, false))) :: Old w0 :: F)) ∧ Aside0 (kq + i = l.length + 1 ∧ i ≤ l.length))
  case atStart => exact ⟨0, rfl, ⟨HS2.out⟩, ⟨by omega⟩⟩
  case round =>
   obtain ⟨i, rfl, HA, HK⟩ := hrel
   obtain ⟨k1, rfl⟩ : ∃ k1, gk = k1 + 1 := ⟨gk - 1, by have := HK.out; omega⟩
   by_cases hi : i < l.length
   rotate_left
   ·
    have hie : i = l.length := by have := HK.out; omega
    subst hie
    have hb2' : decide ((l.length : Int) < (l.length : Int)) = false := decide_eq_false z4_
    have hb3' : decide (l.length < l.length) = false := decide_eq_false z4_
    clear hi
    go_wp2
    go_end0
    refine ⟨⟨_, rfl⟩, ?_⟩
    have h := HA.out
    rw [List.take_length] at h
    unfold wNums
    rw [hn0]
    exact h
   have hx := Kd.at_int (C_below HC.out HA.out.s1.old) (i : Int) z4_ z4_
   obtain ⟨ad, hA, hx⟩ := hx
   cases hA
   rw [rd_get hi, Int.toNat_natCast] at hx
   have hb0 : (0 ≤ (i : Int)) = True := eq_true z4_
   have hb1 : ((i : Int) < (l.length : Int)) = True := eq_true z4_
   have hb2 : decide ((i : Int) < (l.length : Int)) = true := decide_eq_true z4_
   have hb3 : decide (i < l.length) = true := decide_eq_true hi
   have HI2 := mk_ hi
   have HT := mk_ (take_snoc hi)
   generalize hlx : l[i] = x at *
   clear hi hlx
   go_wp2_with (go_at_call 66; refine (wnum_calls _ x 4 HA.out (by have := HL.out; have h1 := wAll_len (f := fun n => wNum n 4) (m := 7) (fun x s => wNum_len x 4 s) (l.take i) (wNum (l.length : Int) 1 (bs, false)); have h2 := wNum_len (l.length : Int) 1 (bs, false); have h3 := HLL.out; have h4 := List.length_take_le i l; have h6 := HI2.out; have h5 : (bs, false).1.length = bs.length := rfl; omega)).mono ?_; rintro e V2 ⟨⟨u, rfl⟩, h1⟩; have HS3 := mk_ h1; clear h1)
   go_roundg k1
   case measure => exact Nat.lt_succ_self _
   case rel => exact ⟨i + 1, by rw [w64 z4_ (by have := HI2.out; have := HLL.out; omega)]; rfl, ⟨by rw [HT.out, wAll_snoc]; exact HS3.out⟩, ⟨by have := HK.out; omega, by have := HI2.out; omega⟩⟩
end
end Go.Proofs.Ytjnjfogfpmeacaa.Ops
end
section
namespace Go.Proofs.Ytjnjfogfpmeacaa.Ops
open Go.RowKit PAll Plain PrintWords PrintLast PrintMore Go.Proofs.Ytjnjfogfpmeacaa.Sep ZipT PrintWords.Kd PrintMore.Kd
set_option linter.unusedVariables false
set_option linter.unusedSimpArgs false
def RdP (g : Nat) (A : Option Addr) (n c : Nat) (r : Rr) : Part := Blk g (.cells #[.slice A n c, .int .i64 r.1, .bool r.2] 61 (0, 0))
section
variable {w w0 : World} {g : Nat} {A : Option Addr} {c : Nat} {l : List Int} {F : List Part}
theorem rnum_calls (hC0 : Kd.C (Kd.int .u8) w0 A l.length l) (hlc : l.length ≤ c) (hb : Bytes l) (hl : l.length ≤ 1000000) (r : Rr) (size : Int) (hp : 0 ≤ r.1 ∧ r.1 ≤ l.length) (hS : Sp w (RdP g A l.length c r :: Old w0 :: F)) :
  Calls Try.prog 52 #[.pointer (some ⟨g, 0, none⟩), .int .i64 size] w fun e w' => e = .returned (.int .i64 (rNum size l r).1) ∧ Sp w' (RdP g A l.length c (rNum size l r).2 :: Old w0 :: F) := by
 have HC := mk_ (C_below hC0 hS.s1.old)
 have HLC := mk_ hlc
 have hg := get_eq 20 l r.1 size hb hl z4_ (Nat.le_refl _)
 have hu : rNum size l r = rOf (0 : Int) (sGet l r.1 size) r := rfl
 rw [hu]
 obtain ⟨at_, bad⟩ := r
 dsimp only at hg hp hu ⊢
 generalize hgg : sGet l at_ size = gg at hg hu ⊢
 obtain ⟨v_, nx_, e_⟩ := gg
 have HG := mk_ (show PAll.wire_Get.f 20 l at_ size = some (v_, nx_, e_) from hg)
 have h0 : w.cell? ⟨g, 0, none⟩ = some (.slice A l.length c) := blk_cell hS.blk 0
 have h1 : w.cell? ⟨g, 1, none⟩ = some (.int .i64 at_) := blk_cell hS.blk 1
 have h2 : w.cell? ⟨g, 2, none⟩ = some (.bool bad) := blk_cell hS.blk 2
 have f1 := blk_frozen hS.blk 1
 have f2 := blk_frozen hS.blk 2
 have HS := mk_ hS
 clear hS hC0 hlc hb hl hp hg hu hgg
 cases bad with
 | true =>
  go_enter Try.func52, Try.ntmps52
  go_wp2
  go_quiet (first | (go_at_call 92; refine (PAll.wire_Get.calls 20 A c l at_ size v_ nx_ _ _ (by repeat (first | exact HC.out | refine C_drewN ?_ _ | refine C_drew ?_)) HLC.out HG.out).mono ?_; rintro e V ⟨rfl, ⟨m, rfl⟩⟩; (try first | exact ⟨rfl, _, World.drewN_drewN _ _ _⟩ | exact ⟨rfl, _, Eq.trans (World.drewN_drewN _ _ _) (congrArg (World.drewN _) (Nat.add_assoc _ _ _))⟩)))
  go_wp2
  go_ret
  have hr : rOf (0 : Int) (v_, nx_, e_) (at_, true) = ((0 : Int), (at_, true)) := by unfold rOf; simp
  rw [hr]
  refine ⟨rfl, ?_⟩
  refine Sp.store (cs := #[.slice A l.length c, .int .i64 at_, .bool true]) ?_ 2 (.bool true)
  repeat (first | exact HS.out | refine Sp.drewN ?_ _ | refine Sp.drew ?_)
 | false =>
  by_cases he : e_ = 0
  ·
   subst he
   go_enter Try.func52, Try.ntmps52
   go_wp2
   go_quiet (first | (go_at_call 92; refine (PAll.wire_Get.calls 20 A c l at_ size v_ nx_ _ _ (by repeat (first | exact HC.out | refine C_drewN ?_ _ | refine C_drew ?_)) HLC.out HG.out).mono ?_; rintro e V ⟨rfl, ⟨m, rfl⟩⟩; (try first | exact ⟨rfl, _, World.drewN_drewN _ _ _⟩ | exact ⟨rfl, _, Eq.trans (World.drewN_drewN _ _ _) (congrArg (World.drewN _) (Nat.add_assoc _ _ _))⟩)))
   go_wp2
   go_ret
   have hr : rOf (0 : Int) (v_, nx_, 0) (at_, false) = (v_, (nx_, false)) := by unfold rOf; simp
   rw [hr]
   refine ⟨rfl, ?_⟩
   refine Sp.store (cs := #[.slice A l.length c, .int .i64 at_, .bool false]) ?_ 1 (.int .i64 nx_)
   repeat (first | exact HS.out | refine Sp.drewN ?_ _ | refine Sp.drew ?_)
  have hb0 : (e_ == 0) = false := beq_eq_false_iff_ne.2 he
  have hb1 : (e_ != 0) = true := bne_iff_ne.2 he
  have hb2 : decide (e_ = 0) = false := decide_eq_false he
  go_enter Try.func52, Try.ntmps52
  go_wp2
  go_quiet (first | (go_at_call 92; refine (PAll.wire_Get.calls 20 A c l at_ size v_ nx_ _ _ (by repeat (first | exact HC.out | refine C_drewN ?_ _ | refine C_drew ?_)) HLC.out HG.out).mono ?_; rintro e V ⟨rfl, ⟨m, rfl⟩⟩; (try first | exact ⟨rfl, _, World.drewN_drewN _ _ _⟩ | exact ⟨rfl, _, Eq.trans (World.drewN_drewN _ _ _) (congrArg (World.drewN _) (Nat.add_assoc _ _ _))⟩)))
  go_wp2
  go_ret
  have hr : rOf (0 : Int) (v_, nx_, e_) (at_, false) = ((0 : Int), (at_, true)) := by unfold rOf; simp [he]
  rw [hr]
  refine ⟨rfl, ?_⟩
  refine Sp.store (cs := #[.slice A l.length c, .int .i64 at_, .bool false]) ?_ 2 (.bool true)
  repeat (first | exact HS.out | refine Sp.drewN ?_ _ | refine Sp.drew ?_)
theorem rtext_calls (hC0 : Kd.C (Kd.int .u8) w0 A l.length l) (hlc : l.length ≤ c) (hb : Bytes l) (hl : l.length ≤ 1000000) (r : Rr) (hp : 0 ≤ r.1 ∧ r.1 ≤ l.length) (hS : Sp w (RdP g A l.length c r :: Old w0 :: F)) :
  Calls Try.prog 56 #[.pointer (some ⟨g, 0, none⟩)] w fun e w' => e = .returned (.string (rText l r).1) ∧ Sp w' (RdP g A l.length c (rText l r).2 :: Old w0 :: F) := by
 have HC := mk_ (C_below hC0 hS.s1.old)
 have HLC := mk_ hlc
 have hg := getText_eq 20 l r.1 hb hl z4_ (Nat.le_refl _)
 have hu : rText l r = rOf (⟨#[]⟩ : ByteArray) (sGetText l r.1) r := rfl
 rw [hu]
 obtain ⟨at_, bad⟩ := r
 dsimp only at hg hp hu ⊢
 generalize hgg : sGetText l at_ = gg at hg hu ⊢
 obtain ⟨v_, nx_, e_⟩ := gg
 have HG := mk_ (show PAll.wire_GetText.f 20 l at_ = some (v_, nx_, e_) from hg)
 have h0 : w.cell? ⟨g, 0, none⟩ = some (.slice A l.length c) := blk_cell hS.blk 0
 have h1 : w.cell? ⟨g, 1, none⟩ = some (.int .i64 at_) := blk_cell hS.blk 1
 have h2 : w.cell? ⟨g, 2, none⟩ = some (.bool bad) := blk_cell hS.blk 2
 have f1 := blk_frozen hS.blk 1
 have f2 := blk_frozen hS.blk 2
 have HS := mk_ hS
 clear hS hC0 hlc hb hl hp hg hu hgg
 cases bad with
 | true =>
  go_enter Try.func56, Try.ntmps56
  go_wp2
  go_quiet (first | (go_at_call 93; refine (PAll.wire_GetText.calls 20 A c l at_ v_ nx_ _ _ (by repeat (first | exact HC.out | refine C_drewN ?_ _ | refine C_drew ?_)) HLC.out HG.out).mono ?_; rintro e V ⟨rfl, ⟨m, rfl⟩⟩; (try first | exact ⟨rfl, _, World.drewN_drewN _ _ _⟩ | exact ⟨rfl, _, Eq.trans (World.drewN_drewN _ _ _) (congrArg (World.drewN _) (Nat.add_assoc _ _ _))⟩)))
  go_wp2
  go_ret
  have hr : rOf (⟨#[]⟩ : ByteArray) (v_, nx_, e_) (at_, true) = ((⟨#[]⟩ : ByteArray), (at_, true)) := by unfold rOf; simp
  rw [hr]
  refine ⟨rfl, ?_⟩
  refine Sp.store (cs := #[.slice A l.length c, .int .i64 at_, .bool true]) ?_ 2 (.bool true)
  repeat (first | exact HS.out | refine Sp.drewN ?_ _ | refine Sp.drew ?_)
 | false =>
  by_cases he : e_ = 0
  ·
   subst he
   go_enter Try.func56, Try.ntmps56
   go_wp2
   go_quiet (first | (go_at_call 93; refine (PAll.wire_GetText.calls 20 A c l at_ v_ nx_ _ _ (by repeat (first | exact HC.out | refine C_drewN ?_ _ | refine C_drew ?_)) HLC.out HG.out).mono ?_; rintro e V ⟨rfl, ⟨m, rfl⟩⟩; (try first | exact ⟨rfl, _, World.drewN_drewN _ _ _⟩ | exact ⟨rfl, _, Eq.trans (World.drewN_drewN _ _ _) (congrArg (World.drewN _) (Nat.add_assoc _ _ _))⟩)))
   go_wp2
   go_ret
   have hr : rOf (⟨#[]⟩ : ByteArray) (v_, nx_, 0) (at_, false) = (v_, (nx_, false)) := by unfold rOf; simp
   rw [hr]
   refine ⟨rfl, ?_⟩
   refine Sp.store (cs := #[.slice A l.length c, .int .i64 at_, .bool false]) ?_ 1 (.int .i64 nx_)
   repeat (first | exact HS.out | refine Sp.drewN ?_ _ | refine Sp.drew ?_)
  have hb0 : (e_ == 0) = false := beq_eq_false_iff_ne.2 he
  have hb1 : (e_ != 0) = true := bne_iff_ne.2 he
  have hb2 : decide (e_ = 0) = false := decide_eq_false he
  go_enter Try.func56, Try.ntmps56
  go_wp2
  go_quiet (first | (go_at_call 93; refine (PAll.wire_GetText.calls 20 A c l at_ v_ nx_ _ _ (by repeat (first | exact HC.out | refine C_drewN ?_ _ | refine C_drew ?_)) HLC.out HG.out).mono ?_; rintro e V ⟨rfl, ⟨m, rfl⟩⟩; (try first | exact ⟨rfl, _, World.drewN_drewN _ _ _⟩ | exact ⟨rfl, _, Eq.trans (World.drewN_drewN _ _ _) (congrArg (World.drewN _) (Nat.add_assoc _ _ _))⟩)))
  go_wp2
  go_ret
  have hr : rOf (⟨#[]⟩ : ByteArray) (v_, nx_, e_) (at_, false) = ((⟨#[]⟩ : ByteArray), (at_, true)) := by unfold rOf; simp [he]
  rw [hr]
  refine ⟨rfl, ?_⟩
  refine Sp.store (cs := #[.slice A l.length c, .int .i64 at_, .bool false]) ?_ 2 (.bool true)
  repeat (first | exact HS.out | refine Sp.drewN ?_ _ | refine Sp.drew ?_)
theorem rmany_calls (hC0 : Kd.C (Kd.int .u8) w0 A l.length l) (hlc : l.length ≤ c) (hb : Bytes l) (hl : l.length ≤ 1000000) (r : Rr) (size most : Int) (hp : 0 ≤ r.1 ∧ r.1 ≤ l.length) (hS : Sp w (RdP g A l.length c r :: Old w0 :: F)) :
  Calls Try.prog 58 #[.pointer (some ⟨g, 0, none⟩), .int .i64 size, .int .i64 most] w fun e w' => e = .returned (.int .i64 (rMany size most l r).1) ∧ Sp w' (RdP g A l.length c (rMany size most l r).2 :: Old w0 :: F) := by
 have hN := rnum_calls hC0 hlc hb hl r size hp hS
 have hu : rMany size most l r = if (rNum size l r).1 > most then (0, ((rNum size l r).2.1, true)) else rNum size l r := rfl
 rw [hu]; clear hu
 generalize rNum size l r = q at hN ⊢
 obtain ⟨n, at1, bad1⟩ := q
 have HN := mk_ hN
 clear hN hS hC0 hlc hb hl hp
 by_cases hm : n > most
 ·
  have hb0 : decide (most < n) = true := decide_eq_true hm
  rw [if_pos hm]
  clear hm
  go_enter Try.func58, Try.ntmps58
  go_wp2_with (go_at_call 52; refine HN.out.mono ?_; rintro e V ⟨rfl, h1⟩; have HS1 := mk_ h1; have k2 := blk_cell h1.blk 2; have f2 := blk_frozen h1.blk 2; clear h1)
  go_ret
  exact ⟨rfl, Sp.store (cs := #[.slice A l.length c, .int .i64 at1, .bool bad1]) HS1.out 2 (.bool true)⟩
 have hb0 : decide (most < n) = false := decide_eq_false hm
 rw [if_neg hm]
 clear hm
 go_enter Try.func58, Try.ntmps58
 go_wp2_with (go_at_call 52; refine HN.out.mono ?_; rintro e V ⟨rfl, h1⟩; have HS1 := mk_ h1; clear h1)
 go_ret
 exact ⟨rfl, HS1.out⟩
end
end Go.Proofs.Ytjnjfogfpmeacaa.Ops
end
section
namespace Go.Proofs.Ytjnjfogfpmeacaa.Ops
open Go.RowKit PAll Plain PrintWords PrintLast PrintMore Go.Proofs.Ytjnjfogfpmeacaa.Sep ZipT PrintWords.Kd PrintMore.Kd
set_option linter.unusedVariables false
set_option linter.unusedSimpArgs false
section
variable {w w0 : World} {g : Nat} {A : Option Addr} {c : Nat} {l : List Int} {F : List Part}
theorem gate_st {P : Program} {ops : Array Oper} {rest : List Oper} {o : Oper} {a : Act} {Q : Exit → Act → World → Prop} {W : World} {ty : TypeId} {x y : Operand} (_ho : o.op = .store ty x y) (h : wpList P ops Q (o :: rest) a W) : wpList P ops Q (o :: rest) a W := h
theorem sp_storeRow {g : Nat} {cs : Array Value} {t : TypeId} {fz : Nat × Nat} {w : World} {F : List Part} (h : Sp w (Blk g (.cells cs t fz) :: F)) (cs' : Array Value) : Sp (w.setRow g cs') (Blk g (.cells cs' t fz) :: F) := by
 obtain ⟨ok, h1, h2, h3⟩ := h.head1
 refine h3 _ _ ⟨rfl, rfl, rfl, by simp [World.setRow], fun i _ hn => ?_⟩ ⟨.inl h2.1, by simp [World.setRow, Array.getElem?_modify, h2.2]⟩
 have : ¬ g = i := fun e => hn (e ▸ h2.1)
 simp [World.setRow, Array.getElem?_modify, this]
def rAt (l : List Int) (r : Rr) : Prop := 0 ≤ r.1 ∧ r.1 ≤ l.length
theorem times_snoc {α : Type} (f : List Int → Rr → α × Rr) (l : List Int) : ∀ (n : Nat) (acc : List α) (r : Rr), rTimes f l (n + 1) acc r = ((rTimes f l n acc r).1 ++ [(f l (rTimes f l n acc r).2).1], (f l (rTimes f l n acc r).2).2)
 | 0, acc, r => rfl
 | n + 1, acc, r => times_snoc f l n (acc ++ [(f l r).1]) (f l r).2
theorem rAt_num {l : List Int} {r : Rr} (hb : Bytes l) (s : Nat) (h1 : 1 ≤ s) (h7 : s ≤ 7) (h : rAt l r) : rAt l (rNum (s : Int) l r).2 := (Reads.num s h1 h7).place l r hb h.1 h.2
theorem rAt_times {α : Type} {f : List Int → Rr → α × Rr} {l : List Int} (hf : ∀ r, rAt l r → rAt l (f l r).2) : ∀ (n : Nat) (acc : List α) (r : Rr), rAt l r → rAt l (rTimes f l n acc r).2
 | 0, acc, r, h => h
 | n + 1, acc, r, h => rAt_times hf n (acc ++ [(f l r).1]) (f l r).2 (hf r h)
theorem rdot_calls (hC0 : Kd.C (Kd.int .u8) w0 A l.length l) (hlc : l.length ≤ c) (hb : Bytes l) (hl : l.length ≤ 1000000) (r : Rr) (hp0 : rAt l r) (hp1 : rAt l (rNum 1 l r).2) (hS : Sp w (RdP g A l.length c r :: Old w0 :: F)) :
  Calls Try.prog 53 #[.pointer (some ⟨g, 0, none⟩)] w fun e w' => e = .returned (.agg #[.int .i64 (rNum 1 l r).1, .int .i64 (rNum 4 l (rNum 1 l r).2).1]) ∧ Sp w' (RdP g A l.length c (rNum 4 l (rNum 1 l r).2).2 :: Old w0 :: F) := by
 have HP0 := mk_ hp0
 have HP1 := mk_ hp1
 have HC := mk_ (And.intro hC0 (And.intro hlc (And.intro hb hl)))
 have HS0 := mk_ (hS.box (.cells #[.int .i64 0, .int .i64 0] 25 (0, 0)))
 clear hS hC0 hlc hb hl hp0 hp1
 go_enter Try.func53, Try.ntmps53
 go_wp2_with (first
  | (go_at_call 52; (with_reducible show Calls _ _ #[_, .int .i64 1] _ _); refine (rnum_calls (F := Blk w.heap.size (.cells #[.int .i64 0, .int .i64 0] 25 (0, 0)) :: F) HC.out.1 HC.out.2.1 HC.out.2.2.1 HC.out.2.2.2 r 1 HP0.out (Sp.s1 (Sp.s2 (Sp.s1 HS0.out)))).mono ?_; rintro e V0 ⟨rfl, h1⟩; have HS1 := mk_ h1; clear h1)
  | (go_at_call 52; (with_reducible show Calls _ _ #[_, .int .i64 4] _ _); refine (rnum_calls (F := Blk w.heap.size (.cells #[.int .i64 0, .int .i64 0] 25 (0, 0)) :: F) HC.out.1 HC.out.2.1 HC.out.2.2.1 HC.out.2.2.2 (rNum 1 l r).2 4 HP1.out HS1.out).mono ?_; rintro e V1 ⟨rfl, h1⟩; have HS2 := mk_ h1; clear h1)
  | ((with_reducible refine gate_st (ty := 25) (x := .tmp 2) (y := .tmp 7) rfl ?_); refine wpList_store_row rfl 25 (.tmp 2) (.tmp 7) rfl w.heap.size #[.int .i64 (rNum 1 l r).1, .int .i64 (rNum 4 l (rNum 1 l r).2).1] rfl rfl 25 #[.int .i64 0, .int .i64 0] HS2.out.s2.blk z0_ rfl (by first | decide | rfl | simp [Value.oneCell']) ?_))
 refine bodyPost_ret (results_cell_row rfl _ _ w.heap.size 25 #[.int .i64 (rNum 1 l r).1, .int .i64 (rNum 4 l (rNum 1 l r).2).1] (0, 0) _ rfl (sp_storeRow HS2.out.s2 _).blk Try.underlying25 rfl z0_) rfl ?_
 exact ⟨rfl, (sp_storeRow HS2.out.s2 #[.int .i64 (rNum 1 l r).1, .int .i64 (rNum 4 l (rNum 1 l r).2).1]).tail⟩
theorem rstamp_calls (hC0 : Kd.C (Kd.int .u8) w0 A l.length l) (hlc : l.length ≤ c) (hb : Bytes l) (hl : l.length ≤ 1000000) (r : Rr) (hp0 : rAt l r) (hp1 : rAt l (rNum 6 l r).2) (hp2 : rAt l (rNum 3 l (rNum 6 l r).2).2) (hS : Sp w (RdP g A l.length c r :: Old w0 :: F)) :
  Calls Try.prog 55 #[.pointer (some ⟨g, 0, none⟩)] w fun e w' => e = .returned (.agg #[.int .i64 (rNum 6 l r).1, .int .i64 (rNum 3 l (rNum 6 l r).2).1, .int .i64 (rNum 1 l (rNum 3 l (rNum 6 l r).2).2).1]) ∧ Sp w' (RdP g A l.length c (rNum 1 l (rNum 3 l (rNum 6 l r).2).2).2 :: Old w0 :: F) := by
 have HP0 := mk_ hp0
 have HP1 := mk_ hp1
 have HP2 := mk_ hp2
 have HC := mk_ (And.intro hC0 (And.intro hlc (And.intro hb hl)))
 have HS0 := mk_ (hS.box (.cells #[.int .i64 0, .int .i64 0, .int .i64 0] 28 (0, 0)))
 clear hS hC0 hlc hb hl hp0 hp1 hp2
 go_enter Try.func55, Try.ntmps55
 go_wp2_with (first
  | (go_at_call 52; (with_reducible show Calls _ _ #[_, .int .i64 6] _ _); refine (rnum_calls (F := Blk w.heap.size (.cells #[.int .i64 0, .int .i64 0, .int .i64 0] 28 (0, 0)) :: F) HC.out.1 HC.out.2.1 HC.out.2.2.1 HC.out.2.2.2 r 6 HP0.out (Sp.s1 (Sp.s2 (Sp.s1 HS0.out)))).mono ?_; rintro e V0 ⟨rfl, h1⟩; have HS1 := mk_ h1; clear h1)
  | (go_at_call 52; (with_reducible show Calls _ _ #[_, .int .i64 3] _ _); refine (rnum_calls (F := Blk w.heap.size (.cells #[.int .i64 0, .int .i64 0, .int .i64 0] 28 (0, 0)) :: F) HC.out.1 HC.out.2.1 HC.out.2.2.1 HC.out.2.2.2 (rNum 6 l r).2 3 HP1.out HS1.out).mono ?_; rintro e V1 ⟨rfl, h1⟩; have HS2 := mk_ h1; clear h1)
  | (go_at_call 52; (with_reducible show Calls _ _ #[_, .int .i64 1] _ _); refine (rnum_calls (F := Blk w.heap.size (.cells #[.int .i64 0, .int .i64 0, .int .i64 0] 28 (0, 0)) :: F) HC.out.1 HC.out.2.1 HC.out.2.2.1 HC.out.2.2.2 (rNum 3 l (rNum 6 l r).2).2 1 HP2.out HS2.out).mono ?_; rintro e V2 ⟨rfl, h1⟩; have HS3 := mk_ h1; clear h1)
  | ((with_reducible refine gate_st (ty := 28) (x := .tmp 2) (y := .tmp 9) rfl ?_); refine wpList_store_row rfl 28 (.tmp 2) (.tmp 9) rfl w.heap.size #[.int .i64 (rNum 6 l r).1, .int .i64 (rNum 3 l (rNum 6 l r).2).1, .int .i64 (rNum 1 l (rNum 3 l (rNum 6 l r).2).2).1] rfl rfl 28 #[.int .i64 0, .int .i64 0, .int .i64 0] HS3.out.s2.blk z0_ rfl (by first | decide | rfl | simp [Value.oneCell']) ?_))
 refine bodyPost_ret (results_cell_row rfl _ _ w.heap.size 28 #[.int .i64 (rNum 6 l r).1, .int .i64 (rNum 3 l (rNum 6 l r).2).1, .int .i64 (rNum 1 l (rNum 3 l (rNum 6 l r).2).2).1] (0, 0) _ rfl (sp_storeRow HS3.out.s2 _).blk Try.underlying28 rfl z0_) rfl ?_
 exact ⟨rfl, (sp_storeRow HS3.out.s2 #[.int .i64 (rNum 6 l r).1, .int .i64 (rNum 3 l (rNum 6 l r).2).1, .int .i64 (rNum 1 l (rNum 3 l (rNum 6 l r).2).2).1]).tail⟩
end
end Go.Proofs.Ytjnjfogfpmeacaa.Ops
end
section
namespace Go.Proofs.Ytjnjfogfpmeacaa.Ops
open Go.RowKit PAll Plain PrintWords PrintLast PrintMore Go.Proofs.Ytjnjfogfpmeacaa.Sep ZipT PrintWords.Kd PrintMore.Kd
set_option linter.unusedVariables false
set_option linter.unusedSimpArgs false
section
variable {w w0 : World} {g : Nat} {A : Option Addr} {c : Nat} {l : List Int} {F : List Part}
theorem sp_el {α : Type} {d : Kd α} {p : α} {cs : List Value} {w : World} {F : List Part} (hM : ∀ (w : World) (ok : Nat → Prop), d.M w 0 ok p cs) (h : Sp w F) : Sp w (El d p cs :: F) :=
 ⟨fun _ => False, fun _ h => h.elim, hM _ _, h.wide (fun k hk => ⟨hk, fun e => e⟩)⟩
theorem sp_nil {α : Type} {d : Kd α} {e : Nat} {w : World} {F : List Part} (h : Sp w F) : Sp w (Row d e (.slice none 0 0) [] :: F) :=
 ⟨fun _ => False, fun _ h => h.elim, R_nil _ _ _ _ _, h.wide (fun k hk => ⟨hk, fun e => e⟩)⟩
theorem start_at {P : Program} {ops : Array Oper} {Q : Exit → Act → World → Prop} {S : World → Prop} {ds : List Nat} {id n : Nat} {a : Act} {w : World} (J : World → Prop) (l : Array Bool) (hm : P.follows .mixedOrders = true) (hn : ops.size = n) (hl : Array.replicate n false = l)
  (hJ : J w.drew) (hS : ∀ W, J W → S W) (h : ∀ W, J W → wpAnyLast P .any ops Q S ds n l a W) : (Code.region id ops true).wp P Q a w :=
 start_ l hm hn hl (hS _ hJ) (fun _ => h _ hJ)
theorem times_len {α : Type} (f : List Int → Rr → α × Rr) (l : List Int) : ∀ (n : Nat) (acc : List α) (r : Rr), (rTimes f l n acc r).1.length = acc.length + n
 | 0, acc, r => rfl
 | n + 1, acc, r => by rw [rTimes, times_len f l n]; simp; omega
theorem rAt_many {l : List Int} {r : Rr} (hb : Bytes l) (s : Nat) (h1 : 1 ≤ s) (h7 : s ≤ 7) (m : Int) (h : rAt l r) : rAt l (rMany (s : Int) m l r).2 := by
 have := rAt_num hb s h1 h7 h
 unfold rMany
 split
 ·
  exact this
 ·
  exact this
theorem rnums_calls (hC0 : Kd.C (Kd.int .u8) w0 A l.length l) (hlc : l.length ≤ c) (hb : Bytes l) (hl : l.length ≤ 1000000) (r : Rr) (hp : rAt l r) (hS : Sp w (RdP g A l.length c r :: Old w0 :: F)) :
  Calls Try.prog 54 #[.pointer (some ⟨g, 0, none⟩)] w fun e w' => ∃ v, e = .returned v ∧ Sp w' (Row (Kd.int .i64) 3 v (rNums l r).1 :: RdP g A l.length c (rNums l r).2 :: Old w0 :: F) := by
 have hm := rAt_many hb 1 z5_ z5_ 5 hp
 have HN := mk_ (rmany_calls hC0 hlc hb hl r 1 5 hp hS)
 have hu : rNums l r = rTimes (rNum 4) l (rMany 1 5 l r).1.toNat [] (rMany 1 5 l r).2 := rfl
 have hle : (rMany 1 5 l r).1 ≤ 5 := by unfold rMany; split <;> omega
 rw [hu]
 have hm : rAt l (rMany 1 5 l r).2 := hm
 generalize rMany 1 5 l r = q at *
 obtain ⟨n, r1⟩ := q
 dsimp only at hle hm HN ⊢
 have HT : Aside0 (∀ i, rAt l (rTimes (rNum 4) l i [] r1).2) := ⟨fun i => rAt_times (fun r h => rAt_num hb 4 z5_ z5_ h) i [] _ hm⟩
 have HC := mk_ (And.intro hC0 (And.intro hlc (And.intro hb hl)))
 have HLE := mk_ hle
 clear hC0 hlc hb hl hp hS hu hle hm
 go_enter Try.func54, Try.ntmps54
 go_wp2_with (go_at_call 58; refine HN.out.mono ?_; rintro e V ⟨rfl, h1⟩; have HS1 := mk_ h1; clear h1)
 go_loopg [6, 3] (n.toNat + 1) (fun kq v6 v3 W' => ∃ (i : Nat) (v : Value), v6 = .int .i64 (i : Int) ∧ v3 = v ∧ Aside0 (Sp W' (Row (Kd.int .i64) 3 v (rTimes (rNum 4) l i [] r1).1 :: RdP g A l.length c (rTimes (rNum 4) l i [] r1).2 :: Old w0 :: F)) ∧ Aside0 (kq + i = n.toNat + 1 ∧ i ≤ n.toNat))
 case atStart => exact ⟨0, _, rfl, rfl, ⟨sp_nil HS1.out⟩, ⟨by omega⟩⟩
 case round =>
  obtain ⟨i, _, rfl, rfl, HA, HK⟩ := hrel
  obtain ⟨k1, rfl⟩ : ∃ k1, gk = k1 + 1 := ⟨gk - 1, by have := HK.out; omega⟩
  by_cases hi : (i : Int) < n
  rotate_left
  ·
   have hb2 : decide ((i : Int) < n) = false := decide_eq_false hi
   have hie : i = n.toNat := by have := HK.out; omega
   clear hi
   go_wp2
   go_ret
   subst hie
   exact ⟨_, rfl, HA.out⟩
  have hb2 : decide ((i : Int) < n) = true := decide_eq_true hi
  have HI := mk_ hi
  have HX := mk_ (times_snoc (rNum 4) l i [] r1)
  have HTi := mk_ (HT.out i)
  have HTL : Aside0 ((rTimes (rNum 4) l i [] r1).1.length = i) := ⟨by rw [times_len]; simp⟩
  clear hi HT
  generalize rTimes (rNum 4) l i [] r1 = t at *
  obtain ⟨xs, ri⟩ := t
  dsimp only at HA HX HTi HTL
  have HQ := mk_ (fun V hv => rnum_calls (g := g) (w := V) (F := Row (Kd.int .i64) 3 u3 xs :: F) HC.out.1 HC.out.2.1 HC.out.2.2.1 HC.out.2.2.2 ri 4 HTi.out hv)
  generalize rNum 4 l ri = q at *
  obtain ⟨p, rj⟩ := q
  dsimp only at HQ HX
  go_wp2_with (first
   | (go_at_call 52; (with_reducible show Calls _ _ #[_, .int .i64 4] _ _); refine (HQ.out _ (HA.out.s1).s2.s1).mono ?_; rintro e V2 ⟨rfl, h1⟩; have HS3 := mk_ (Sp.s1 (sp_el (d := Kd.int .i64) (p := p) (cs := [.int .i64 p]) (fun _ _ => rfl) h1.s2)); clear h1)
   | ((with_reducible refine gate_builtin (b := .append) (xs := #[.tmp 8, .tmp 11]) rfl ?_); at_builtin; refine Sp.append (Kd.int .i64) rfl (.tmp 8) (.tmp 11) 26 3 (.int .i64 0) 8 rfl Try.underlying26 z0_ rfl z5_ z4_ u3 xs p [.int .i64 p] rfl rfl HS3.out (by have := HTL.out; have := HI.out; have := HLE.out; omega) ?_; intro v1 w1 h1; have HS4 := mk_ h1; clear h1))
  go_roundg k1
  case measure => exact Nat.lt_succ_self _
  case rel => exact ⟨i + 1, v1, by rw [w64 z4_ (by have := HI.out; have := HLE.out; omega)]; rfl, rfl, ⟨by rw [HX.out]; exact HS4.out⟩, ⟨by have := HK.out; omega, by have := HI.out; omega⟩⟩
theorem rop_calls (hC0 : Kd.C (Kd.int .u8) w0 A l.length l) (hlc : l.length ≤ c) (hb : Bytes l) (hl : l.length ≤ 1000000) (r : Rr) (hp : rAt l r) (hS : Sp w (RdP g A l.length c r :: Old w0 :: F)) :
  Calls Try.prog 26 #[.pointer (some ⟨g, 0, none⟩)] w fun e w' => ∃ v1 v7 v8, e = .returned (.agg #[.int .i64 (rOp l r).1.f0.f0, .int .i64 (rOp l r).1.f0.f1, v1, .int .i64 (rOp l r).1.f2.f0, .int .i64 (rOp l r).1.f2.f1, .int .i64 (rOp l r).1.f2.f2, .int .i64 (rOp l r).1.f3, .int .i64 (rOp l r).1.f4, .string (rOp l r).1.f5, .int .i64 (rOp l r).1.f6, v7, v8]) ∧
   Sp w' (Row (Kd.int .i64) 3 v1 (rOp l r).1.f1 :: Row k84 84 v7 (rOp l r).1.f7 :: Row k25 25 v8 (rOp l r).1.f8 :: RdP g A l.length c (rOp l r).2 :: Old w0 :: F) := by
 obtain ⟨q1, hq1⟩ : ∃ q, q = rNum 1 l r := ⟨_, rfl⟩
 have C1 : ∀ V F', Sp V (RdP g A l.length c r :: Old w0 :: F') → Calls Try.prog 52 #[.pointer (some ⟨g, 0, none⟩), .int .i64 1] V (fun e w' => e = .returned (.int .i64 q1.1) ∧ Sp w' (RdP g A l.length c q1.2 :: Old w0 :: F')) := fun V F' h => by rw [hq1]; exact rnum_calls hC0 hlc hb hl r 1 hp h
 have p1 : rAt l q1.2 := by rw [hq1]; exact rAt_num hb 1 z5_ z5_ hp
 obtain ⟨q2, hq2⟩ : ∃ q, q = rDot l q1.2 := ⟨_, rfl⟩
 have C2 : ∀ V F', Sp V (RdP g A l.length c q1.2 :: Old w0 :: F') → Calls Try.prog 53 #[.pointer (some ⟨g, 0, none⟩)] V (fun e w' => e = .returned (.agg #[.int .i64 q2.1.f0, .int .i64 q2.1.f1]) ∧ Sp w' (RdP g A l.length c q2.2 :: Old w0 :: F')) := fun V F' h => by rw [hq2]; exact rdot_calls hC0 hlc hb hl q1.2 p1 (rAt_num hb 1 z5_ z5_ p1) h
 have p2 : rAt l q2.2 := by rw [hq2]; exact Reads.dot.place l q1.2 hb p1.1 p1.2
 obtain ⟨q3, hq3⟩ : ∃ q, q = rNums l q2.2 := ⟨_, rfl⟩
 have C3 : ∀ V F', Sp V (RdP g A l.length c q2.2 :: Old w0 :: F') → Calls Try.prog 54 #[.pointer (some ⟨g, 0, none⟩)] V (fun e w' => ∃ v, e = .returned v ∧ Sp w' (Row (Kd.int .i64) 3 v q3.1 :: RdP g A l.length c q3.2 :: Old w0 :: F')) := fun V F' h => by rw [hq3]; exact rnums_calls hC0 hlc hb hl q2.2 p2 h
 have p3 : rAt l q3.2 := by rw [hq3]; exact Reads.nums.place l q2.2 hb p2.1 p2.2
 obtain ⟨q4, hq4⟩ : ∃ q, q = rStamp l q3.2 := ⟨_, rfl⟩
 have C4 : ∀ V F', Sp V (RdP g A l.length c q3.2 :: Old w0 :: F') → Calls Try.prog 55 #[.pointer (some ⟨g, 0, none⟩)] V (fun e w' => e = .returned (.agg #[.int .i64 q4.1.f0, .int .i64 q4.1.f1, .int .i64 q4.1.f2]) ∧ Sp w' (RdP g A l.length c q4.2 :: Old w0 :: F')) := fun V F' h => by rw [hq4]; exact rstamp_calls hC0 hlc hb hl q3.2 p3 (rAt_num hb 6 z5_ z5_ p3) (rAt_num hb 3 z5_ z5_ (rAt_num hb 6 z5_ z5_ p3)) h
 have p4 : rAt l q4.2 := by rw [hq4]; exact Reads.stamp.place l q3.2 hb p3.1 p3.2
 obtain ⟨q5, hq5⟩ : ∃ q, q = rNum 1 l q4.2 := ⟨_, rfl⟩
 have C5 : ∀ V F', Sp V (RdP g A l.length c q4.2 :: Old w0 :: F') → Calls Try.prog 52 #[.pointer (some ⟨g, 0, none⟩), .int .i64 1] V (fun e w' => e = .returned (.int .i64 q5.1) ∧ Sp w' (RdP g A l.length c q5.2 :: Old w0 :: F')) := fun V F' h => by rw [hq5]; exact rnum_calls hC0 hlc hb hl q4.2 1 p4 h
 have p5 : rAt l q5.2 := by rw [hq5]; exact rAt_num hb 1 z5_ z5_ p4
 obtain ⟨q6, hq6⟩ : ∃ q, q = rText l q5.2 := ⟨_, rfl⟩
 have C6 : ∀ V F', Sp V (RdP g A l.length c q5.2 :: Old w0 :: F') → Calls Try.prog 56 #[.pointer (some ⟨g, 0, none⟩)] V (fun e w' => e = .returned (.string q6.1) ∧ Sp w' (RdP g A l.length c q6.2 :: Old w0 :: F')) := fun V F' h => by rw [hq6]; exact rtext_calls hC0 hlc hb hl q5.2 p5 h
 have p6 : rAt l q6.2 := by rw [hq6]; exact Reads.text.place l q5.2 hb p5.1 p5.2
 obtain ⟨q7, hq7⟩ : ∃ q, q = rNum 1 l q6.2 := ⟨_, rfl⟩
 have C7 : ∀ V F', Sp V (RdP g A l.length c q6.2 :: Old w0 :: F') → Calls Try.prog 52 #[.pointer (some ⟨g, 0, none⟩), .int .i64 1] V (fun e w' => e = .returned (.int .i64 q7.1) ∧ Sp w' (RdP g A l.length c q7.2 :: Old w0 :: F')) := fun V F' h => by rw [hq7]; exact rnum_calls hC0 hlc hb hl q6.2 1 p6 h
 have p7 : rAt l q7.2 := by rw [hq7]; exact rAt_num hb 1 z5_ z5_ p6
 have hu : rOp l r = if (rRow l q7.2).2.2 = true then (zOp, (rRow l q7.2).2) else (⟨q2.1, q3.1, q4.1, q1.1, q5.1, q6.1, q7.1, (rRow l q7.2).1, (rDots l (rRow l q7.2).2).1⟩, (rDots l (rRow l q7.2).2).2) := by
  subst hq7 hq6 hq5 hq4 hq3 hq2 hq1; rfl
 have hg := rowRead_eq 80 l q7.2.1 hb hl (by have := p7.2; omega) (Nat.le_refl _)
 have hr : rRow l q7.2 = rOf [] (sRowRead l q7.2.1) q7.2 := rfl
 have pr : rAt l (rRow l q7.2).2 := Reads.row.place l q7.2 hb p7.1 p7.2
 have hcl : ∀ V, Below w0.heap.size w0 V → Kd.C (Kd.int .u8) V A l.length l := fun V h => C_below hC0 h
 have CM : ∀ V F' r, rAt l r → Sp V (RdP g A l.length c r :: Old w0 :: F') → Calls Try.prog 58 #[.pointer (some ⟨g, 0, none⟩), .int .i64 1, .int .i64 64] V (fun e w' => e = .returned (.int .i64 (rMany 1 64 l r).1) ∧ Sp w' (RdP g A l.length c (rMany 1 64 l r).2 :: Old w0 :: F')) := fun V F' r p h => rmany_calls hC0 hlc hb hl r 1 64 p h
 have CD : ∀ V F' r, rAt l r → Sp V (RdP g A l.length c r :: Old w0 :: F') → Calls Try.prog 53 #[.pointer (some ⟨g, 0, none⟩)] V (fun e w' => e = .returned (.agg #[.int .i64 (rDot l r).1.f0, .int .i64 (rDot l r).1.f1]) ∧ Sp w' (RdP g A l.length c (rDot l r).2 :: Old w0 :: F')) := fun V F' r p h => rdot_calls hC0 hlc hb hl r p (rAt_num hb 1 z5_ z5_ p) h
 have PM : ∀ r, rAt l r → rAt l (rMany 1 64 l r).2 := fun r p => rAt_many hb 1 z5_ z5_ 64 p
 have PD : ∀ r, rAt l r → rAt l (rDot l r).2 := fun r p => Reads.dot.place l r hb p.1 p.2
 rw [hr] at pr hu
 generalize sRowRead l q7.2.1 = gg at hg hu pr
 obtain ⟨vals, nx, e_⟩ := gg
 clear hr hq7 hq6 hq5 hq4 hq3 hq2 hq1 p1 p2 p3 p4 p5 p6 p7 hb hC0 hp
 obtain ⟨n1, r1⟩ := q1
 obtain ⟨d_, r2⟩ := q2
 obtain ⟨l3, r3⟩ := q3
 obtain ⟨t_, r4⟩ := q4
 obtain ⟨n5, r5⟩ := q5
 obtain ⟨s6, r6⟩ := q6
 obtain ⟨n7, r7⟩ := q7
 obtain ⟨at7, bad7⟩ := r7
 dsimp only at C1 C2 C3 C4 C5 C6 C7 hg hu pr
 have HG := mk_ hg
 have HLC := mk_ hlc
 have HCL := mk_ hcl
 have HC1 := mk_ C1
 have HC2 := mk_ C2
 have HC3 := mk_ C3
 have HC4 := mk_ C4
 have HC5 := mk_ C5
 have HC6 := mk_ C6
 have HC7 := mk_ C7
 have HCM := mk_ CM
 have HCD := mk_ CD
 have HPM := mk_ PM
 have HPD := mk_ PD
 have HS0 := mk_ (Sp.s1 (Sp.s2 (Sp.s1 (hS.box (.cells #[.int .i64 0, .int .i64 0, .slice none 0 0, .int .i64 0, .int .i64 0, .int .i64 0, .int .i64 0, .int .i64 0, .string ⟨#[]⟩, .int .i64 0, .slice none 0 0, .slice none 0 0] 32 (0, 0))))))
 clear C1 C2 C3 C4 C5 C6 C7 CM CD PM PD hg hlc hcl hS
 cases bad7 with
 | true =>
  have hz : rOp l r = (zOp, (at7, true)) := by rw [hu]; unfold rOf; simp
  rw [hz]
  clear hu hz pr
  go_enter Try.func26, Try.ntmps26
  go_wp2_with (first
  | (go_at_call 52; (with_reducible show Calls _ _ _ (World.alloc w _) _); refine (HC1.out _ _ HS0.out).mono ?_; rintro e V1 ⟨rfl, h1⟩; have HS1 := mk_ h1; clear h1)
  | (go_at_call 53; (with_reducible show Calls _ _ _ V1 _); refine (HC2.out _ _ HS1.out).mono ?_; rintro e V2 ⟨rfl, h1⟩; have HS2 := mk_ h1; clear h1)
  | (go_at_call 54; (with_reducible show Calls _ _ _ V2 _); refine (HC3.out _ _ HS2.out).mono ?_; rintro e V3 ⟨v3, rfl, h1⟩; obtain ⟨A3, c3, rfl, _, _⟩ := h1.row; have HS3 := mk_ h1.s1.s2.s1; clear h1)
  | (go_at_call 55; (with_reducible show Calls _ _ _ V3 _); refine (HC4.out _ _ HS3.out).mono ?_; rintro e V4 ⟨rfl, h1⟩; have HS4 := mk_ h1; clear h1)
  | (go_at_call 52; (with_reducible show Calls _ _ _ V4 _); refine (HC5.out _ _ HS4.out).mono ?_; rintro e V5 ⟨rfl, h1⟩; have HS5 := mk_ h1; clear h1)
  | (go_at_call 56; (with_reducible show Calls _ _ _ V5 _); refine (HC6.out _ _ HS5.out).mono ?_; rintro e V6 ⟨rfl, h1⟩; have HS6 := mk_ h1; clear h1)
  | (go_at_call 52; (with_reducible show Calls _ _ _ V6 _); refine (HC7.out _ _ HS6.out).mono ?_; rintro e V7 ⟨rfl, h1⟩; have HS7 := mk_ h1; clear h1)
  | ((with_reducible refine gate_st (ty := 32) (x := .tmp 3) (y := .tmp 21) rfl ?_); refine wpList_store_row rfl 32 (.tmp 3) (.tmp 21) rfl V7.heap.size #[.int .i64 d_.f0, .int .i64 d_.f1, .slice A3 l3.length c3, .int .i64 t_.f0, .int .i64 t_.f1, .int .i64 t_.f2, .int .i64 n1, .int .i64 n5, .string s6, .int .i64 n7, .slice none 0 0, .slice none 0 0] rfl rfl 32 #[.int .i64 0, .int .i64 0, .slice none 0 0, .int .i64 0, .int .i64 0, .int .i64 0, .int .i64 0, .int .i64 0, .string ⟨#[]⟩, .int .i64 0, .slice none 0 0, .slice none 0 0] (HS7.out.box (.cells #[.int .i64 0, .int .i64 0, .slice none 0 0, .int .i64 0, .int .i64 0, .int .i64 0, .int .i64 0, .int .i64 0, .string ⟨#[]⟩, .int .i64 0, .slice none 0 0, .slice none 0 0] 32 (0, 0))).blk z0_ rfl (by first | decide | rfl | simp [Value.oneCell']) ?_; have HSx := mk_ (sp_storeRow (HS7.out.box (.cells #[.int .i64 0, .int .i64 0, .slice none 0 0, .int .i64 0, .int .i64 0, .int .i64 0, .int .i64 0, .int .i64 0, .string ⟨#[]⟩, .int .i64 0, .slice none 0 0, .slice none 0 0] 32 (0, 0))) #[.int .i64 d_.f0, .int .i64 d_.f1, .slice A3 l3.length c3, .int .i64 t_.f0, .int .i64 t_.f1, .int .i64 t_.f2, .int .i64 n1, .int .i64 n5, .string s6, .int .i64 n7, .slice none 0 0, .slice none 0 0]); have kr0 := blk_cell HSx.out.s1.blk 0; have kr1 := blk_cell HSx.out.s1.blk 1))
  have hSd := HSx.out.drew
  clear kr0 kr1
  refine start_at (n := 16) (S := fun w' => w'.cell? ⟨g, 0, none⟩ = some (.slice A l.length c) ∧ w'.cell? ⟨g, 1, none⟩ = some (.int .i64 at7) ∧ True) (ds := []) (fun W => Sp W (Blk V7.heap.size (.cells #[.int .i64 d_.f0, .int .i64 d_.f1, .slice A3 l3.length c3, .int .i64 t_.f0, .int .i64 t_.f1, .int .i64 t_.f2, .int .i64 n1, .int .i64 n5, .string s6, .int .i64 n7, .slice none 0 0, .slice none 0 0] 32 (0, 0)) :: RdP g A l.length c (at7, true) :: Old w0 :: Row (Kd.int .i64) 3 (.slice A3 l3.length c3) l3 :: Blk w.heap.size (.cells #[.int .i64 0, .int .i64 0, .slice none 0 0, .int .i64 0, .int .i64 0, .int .i64 0, .int .i64 0, .int .i64 0, .string ⟨#[]⟩, .int .i64 0, .slice none 0 0, .slice none 0 0] 32 (0, 0)) :: F)) (Steps.Bs 16 0) z0_ rfl rfl hSd (fun W hJ => ⟨blk_cell hJ.s1.blk 0, blk_cell hJ.s1.blk 1, trivial⟩) (fun W0 hJ => ?_)
  clear hSd HSx
  have hHeld : W0.cell? ⟨g, 0, none⟩ = some (.slice A l.length c) ∧ W0.cell? ⟨g, 1, none⟩ = some (.int .i64 at7) ∧ True := ⟨blk_cell hJ.s1.blk 0, blk_cell hJ.s1.blk 1, trivial⟩
  refine sI 0 23 16 1 ?_
  refine sI 1 24 16 3 ?_
  refine sI 2 25 16 7 ?_
  refine sI 4 27 16 23 ?_
  refine sI 5 28 16 55 ?_
  refine sI 6 29 16 119 ?_
  refine sT hHeld 3 26 16 127 ?_
  refine sT hHeld 7 30 16 255 ?_
  refine one_ (i := 8) (N := some 31) (Steps.Bs 16 511) rfl rfl z0_ z5_ (fun K hK => ?_)
  refine goes_ Try.func57 z0_ rfl #[.slice A l.length c, .int .i64 at7] (by rfl) rfl rfl (by (try simp only [List.map_toArray, List.map_cons, List.map_nil]); first | done | rfl) ?_
  refine (PAll.row_Read.calls 80 A c l at7 vals nx e_ _ (HCL.out _ hJ.s2.old) HLC.out HG.out).mono ?_
  rintro e V8 ⟨v7_, rfl, hr_, hq_⟩
  obtain ⟨A7, c7, rfl⟩ := R_slice hr_
  refine ⟨_, rfl, ?_⟩
  have HS8 := mk_ (Sp.made hJ hq_ hr_)
  clear hr_ hq_ hJ hHeld
  refine hK.out _ _ ⟨blk_cell HS8.out.s2.blk 0, blk_cell HS8.out.s2.blk 1, trivial⟩ (fun _ => ?_)
  clear hK K
  refine nrm 31 ?_
  refine sI 9 22 16 1023 ?_
  refine sI 10 32 16 2047 ?_
  refine sI 11 33 16 4095 ?_
  refine sI 12 34 16 8191 ?_
  refine sI 13 4 16 16383 ?_
  refine sI 14 5 16 32767 ?_
  refine sI 15 6 16 65535 ?_
  refine done_ z0_ ?_
  have ks := blk_cell HS8.out.s2.blk
  have fs := blk_frozen HS8.out.s2.blk
  have kx := blk_cell HS8.out.s1.blk
  have fx := blk_frozen HS8.out.s1.blk
  go_wp2_with (first
  | ((with_reducible refine gate_st (ty := 32) (x := .tmp 2) (y := .tmp 46) rfl ?_); have HSA := mk_ (HS8.out.s2.store 2 (.bool true)); refine wpList_store_row rfl 32 (.tmp 2) (.tmp 46) rfl w.heap.size #[.int .i64 0, .int .i64 0, .slice none 0 0, .int .i64 0, .int .i64 0, .int .i64 0, .int .i64 0, .int .i64 0, .string ⟨#[]⟩, .int .i64 0, .slice none 0 0, .slice none 0 0] rfl rfl 32 #[.int .i64 0, .int .i64 0, .slice none 0 0, .int .i64 0, .int .i64 0, .int .i64 0, .int .i64 0, .int .i64 0, .string ⟨#[]⟩, .int .i64 0, .slice none 0 0, .slice none 0 0] HSA.out.s5.blk z0_ rfl (by first | decide | rfl | simp [Value.oneCell']) ?_))
  refine bodyPost_ret (results_cell_row rfl _ _ w.heap.size 32 #[.int .i64 0, .int .i64 0, .slice none 0 0, .int .i64 0, .int .i64 0, .int .i64 0, .int .i64 0, .int .i64 0, .string ⟨#[]⟩, .int .i64 0, .slice none 0 0, .slice none 0 0] (0, 0) _ rfl (sp_storeRow HSA.out.s5 _).blk Try.underlying32 rfl z0_) rfl ?_
  exact ⟨_, _, _, rfl, sp_nil (sp_nil (sp_nil (((sp_storeRow HSA.out.s5 #[.int .i64 0, .int .i64 0, .slice none 0 0, .int .i64 0, .int .i64 0, .int .i64 0, .int .i64 0, .int .i64 0, .string ⟨#[]⟩, .int .i64 0, .slice none 0 0, .slice none 0 0]).tail.s1.tail.s1.tail.s2.tail : Sp _ (RdP g A l.length c (at7, true) :: Old w0 :: F)))))⟩
 | false =>
  by_cases he : e_ = 0
  rotate_left
  ·
   have hz : rOp l r = (zOp, (at7, true)) := by rw [hu]; unfold rOf; simp [he]
   have hb0 : (e_ == 0) = false := beq_eq_false_iff_ne.2 he
   have hb1 : (e_ != 0) = true := bne_iff_ne.2 he
   have hb2 : decide (e_ = 0) = false := decide_eq_false he
   rw [hz]
   clear hu hz pr he
   go_enter Try.func26, Try.ntmps26
   go_wp2_with (first
  | (go_at_call 52; (with_reducible show Calls _ _ _ (World.alloc w _) _); refine (HC1.out _ _ HS0.out).mono ?_; rintro e V1 ⟨rfl, h1⟩; have HS1 := mk_ h1; clear h1)
  | (go_at_call 53; (with_reducible show Calls _ _ _ V1 _); refine (HC2.out _ _ HS1.out).mono ?_; rintro e V2 ⟨rfl, h1⟩; have HS2 := mk_ h1; clear h1)
  | (go_at_call 54; (with_reducible show Calls _ _ _ V2 _); refine (HC3.out _ _ HS2.out).mono ?_; rintro e V3 ⟨v3, rfl, h1⟩; obtain ⟨A3, c3, rfl, _, _⟩ := h1.row; have HS3 := mk_ h1.s1.s2.s1; clear h1)
  | (go_at_call 55; (with_reducible show Calls _ _ _ V3 _); refine (HC4.out _ _ HS3.out).mono ?_; rintro e V4 ⟨rfl, h1⟩; have HS4 := mk_ h1; clear h1)
  | (go_at_call 52; (with_reducible show Calls _ _ _ V4 _); refine (HC5.out _ _ HS4.out).mono ?_; rintro e V5 ⟨rfl, h1⟩; have HS5 := mk_ h1; clear h1)
  | (go_at_call 56; (with_reducible show Calls _ _ _ V5 _); refine (HC6.out _ _ HS5.out).mono ?_; rintro e V6 ⟨rfl, h1⟩; have HS6 := mk_ h1; clear h1)
  | (go_at_call 52; (with_reducible show Calls _ _ _ V6 _); refine (HC7.out _ _ HS6.out).mono ?_; rintro e V7 ⟨rfl, h1⟩; have HS7 := mk_ h1; clear h1)
  | ((with_reducible refine gate_st (ty := 32) (x := .tmp 3) (y := .tmp 21) rfl ?_); refine wpList_store_row rfl 32 (.tmp 3) (.tmp 21) rfl V7.heap.size #[.int .i64 d_.f0, .int .i64 d_.f1, .slice A3 l3.length c3, .int .i64 t_.f0, .int .i64 t_.f1, .int .i64 t_.f2, .int .i64 n1, .int .i64 n5, .string s6, .int .i64 n7, .slice none 0 0, .slice none 0 0] rfl rfl 32 #[.int .i64 0, .int .i64 0, .slice none 0 0, .int .i64 0, .int .i64 0, .int .i64 0, .int .i64 0, .int .i64 0, .string ⟨#[]⟩, .int .i64 0, .slice none 0 0, .slice none 0 0] (HS7.out.box (.cells #[.int .i64 0, .int .i64 0, .slice none 0 0, .int .i64 0, .int .i64 0, .int .i64 0, .int .i64 0, .int .i64 0, .string ⟨#[]⟩, .int .i64 0, .slice none 0 0, .slice none 0 0] 32 (0, 0))).blk z0_ rfl (by first | decide | rfl | simp [Value.oneCell']) ?_; have HSx := mk_ (sp_storeRow (HS7.out.box (.cells #[.int .i64 0, .int .i64 0, .slice none 0 0, .int .i64 0, .int .i64 0, .int .i64 0, .int .i64 0, .int .i64 0, .string ⟨#[]⟩, .int .i64 0, .slice none 0 0, .slice none 0 0] 32 (0, 0))) #[.int .i64 d_.f0, .int .i64 d_.f1, .slice A3 l3.length c3, .int .i64 t_.f0, .int .i64 t_.f1, .int .i64 t_.f2, .int .i64 n1, .int .i64 n5, .string s6, .int .i64 n7, .slice none 0 0, .slice none 0 0]); have kr0 := blk_cell HSx.out.s1.blk 0; have kr1 := blk_cell HSx.out.s1.blk 1))
   have hSd := HSx.out.drew
   clear kr0 kr1
   refine start_at (n := 16) (S := fun w' => w'.cell? ⟨g, 0, none⟩ = some (.slice A l.length c) ∧ w'.cell? ⟨g, 1, none⟩ = some (.int .i64 at7) ∧ True) (ds := []) (fun W => Sp W (Blk V7.heap.size (.cells #[.int .i64 d_.f0, .int .i64 d_.f1, .slice A3 l3.length c3, .int .i64 t_.f0, .int .i64 t_.f1, .int .i64 t_.f2, .int .i64 n1, .int .i64 n5, .string s6, .int .i64 n7, .slice none 0 0, .slice none 0 0] 32 (0, 0)) :: RdP g A l.length c (at7, false) :: Old w0 :: Row (Kd.int .i64) 3 (.slice A3 l3.length c3) l3 :: Blk w.heap.size (.cells #[.int .i64 0, .int .i64 0, .slice none 0 0, .int .i64 0, .int .i64 0, .int .i64 0, .int .i64 0, .int .i64 0, .string ⟨#[]⟩, .int .i64 0, .slice none 0 0, .slice none 0 0] 32 (0, 0)) :: F)) (Steps.Bs 16 0) z0_ rfl rfl hSd (fun W hJ => ⟨blk_cell hJ.s1.blk 0, blk_cell hJ.s1.blk 1, trivial⟩) (fun W0 hJ => ?_)
   clear hSd HSx
   have hHeld : W0.cell? ⟨g, 0, none⟩ = some (.slice A l.length c) ∧ W0.cell? ⟨g, 1, none⟩ = some (.int .i64 at7) ∧ True := ⟨blk_cell hJ.s1.blk 0, blk_cell hJ.s1.blk 1, trivial⟩
   refine sI 0 23 16 1 ?_
   refine sI 1 24 16 3 ?_
   refine sI 2 25 16 7 ?_
   refine sI 4 27 16 23 ?_
   refine sI 5 28 16 55 ?_
   refine sI 6 29 16 119 ?_
   refine sT hHeld 3 26 16 127 ?_
   refine sT hHeld 7 30 16 255 ?_
   refine one_ (i := 8) (N := some 31) (Steps.Bs 16 511) rfl rfl z0_ z5_ (fun K hK => ?_)
   refine goes_ Try.func57 z0_ rfl #[.slice A l.length c, .int .i64 at7] (by rfl) rfl rfl (by (try simp only [List.map_toArray, List.map_cons, List.map_nil]); first | done | rfl) ?_
   refine (PAll.row_Read.calls 80 A c l at7 vals nx e_ _ (HCL.out _ hJ.s2.old) HLC.out HG.out).mono ?_
   rintro e V8 ⟨v7_, rfl, hr_, hq_⟩
   obtain ⟨A7, c7, rfl⟩ := R_slice hr_
   refine ⟨_, rfl, ?_⟩
   have HS8 := mk_ (Sp.made hJ hq_ hr_)
   clear hr_ hq_ hJ hHeld
   refine hK.out _ _ ⟨blk_cell HS8.out.s2.blk 0, blk_cell HS8.out.s2.blk 1, trivial⟩ (fun _ => ?_)
   clear hK K
   refine nrm 31 ?_
   refine sI 9 22 16 1023 ?_
   refine sI 10 32 16 2047 ?_
   refine sI 11 33 16 4095 ?_
   refine sI 12 34 16 8191 ?_
   refine sI 13 4 16 16383 ?_
   refine sI 14 5 16 32767 ?_
   refine sI 15 6 16 65535 ?_
   refine done_ z0_ ?_
   have ks := blk_cell HS8.out.s2.blk
   have fs := blk_frozen HS8.out.s2.blk
   have kx := blk_cell HS8.out.s1.blk
   have fx := blk_frozen HS8.out.s1.blk
   go_wp2_with (first
  | ((with_reducible refine gate_st (ty := 32) (x := .tmp 2) (y := .tmp 46) rfl ?_); have HSA := mk_ (HS8.out.s2.store 2 (.bool true)); refine wpList_store_row rfl 32 (.tmp 2) (.tmp 46) rfl w.heap.size #[.int .i64 0, .int .i64 0, .slice none 0 0, .int .i64 0, .int .i64 0, .int .i64 0, .int .i64 0, .int .i64 0, .string ⟨#[]⟩, .int .i64 0, .slice none 0 0, .slice none 0 0] rfl rfl 32 #[.int .i64 0, .int .i64 0, .slice none 0 0, .int .i64 0, .int .i64 0, .int .i64 0, .int .i64 0, .int .i64 0, .string ⟨#[]⟩, .int .i64 0, .slice none 0 0, .slice none 0 0] HSA.out.s5.blk z0_ rfl (by first | decide | rfl | simp [Value.oneCell']) ?_))
   refine bodyPost_ret (results_cell_row rfl _ _ w.heap.size 32 #[.int .i64 0, .int .i64 0, .slice none 0 0, .int .i64 0, .int .i64 0, .int .i64 0, .int .i64 0, .int .i64 0, .string ⟨#[]⟩, .int .i64 0, .slice none 0 0, .slice none 0 0] (0, 0) _ rfl (sp_storeRow HSA.out.s5 _).blk Try.underlying32 rfl z0_) rfl ?_
   exact ⟨_, _, _, rfl, sp_nil (sp_nil (sp_nil (((sp_storeRow HSA.out.s5 #[.int .i64 0, .int .i64 0, .slice none 0 0, .int .i64 0, .int .i64 0, .int .i64 0, .int .i64 0, .int .i64 0, .string ⟨#[]⟩, .int .i64 0, .slice none 0 0, .slice none 0 0]).tail.s1.tail.s1.tail.s2.tail : Sp _ (RdP g A l.length c (at7, true) :: Old w0 :: F)))))⟩
  ·
   subst he
   have hz : rOf ([] : List V) (vals, nx, 0) (at7, false) = (vals, (nx, false)) := by unfold rOf; simp
   rw [hz] at hu pr
   rw [if_neg (by show ¬ (false = true); decide)] at hu
   rw [hu]
   dsimp only at pr ⊢
   clear hu hz
   have hq : rDots l (nx, false) = rTimes rDot l (rMany 1 64 l (nx, false)).1.toNat [] (rMany 1 64 l (nx, false)).2 := rfl
   have pm := HPM.out (nx, false) pr
   have HQ := mk_ (fun V F' hv => HCM.out V F' (nx, false) pr hv)
   have hle : (rMany 1 64 l (nx, false)).1 ≤ 64 := by unfold rMany; split <;> omega
   rw [hq]
   clear hq pr
   generalize rMany 1 64 l (nx, false) = q9 at *
   obtain ⟨m, r9⟩ := q9
   dsimp only at HQ pm hle ⊢
   have HLE := mk_ hle
   have HT : Aside0 (∀ i, rAt l (rTimes rDot l i [] r9).2) := ⟨fun i => rAt_times (fun r h => HPD.out r h) i [] _ pm⟩
   clear hle pm HPM HPD HCM
   go_enter Try.func26, Try.ntmps26
   go_wp2_with (first
  | (go_at_call 52; (with_reducible show Calls _ _ _ (World.alloc w _) _); refine (HC1.out _ _ HS0.out).mono ?_; rintro e V1 ⟨rfl, h1⟩; have HS1 := mk_ h1; clear h1)
  | (go_at_call 53; (with_reducible show Calls _ _ _ V1 _); refine (HC2.out _ _ HS1.out).mono ?_; rintro e V2 ⟨rfl, h1⟩; have HS2 := mk_ h1; clear h1)
  | (go_at_call 54; (with_reducible show Calls _ _ _ V2 _); refine (HC3.out _ _ HS2.out).mono ?_; rintro e V3 ⟨v3, rfl, h1⟩; obtain ⟨A3, c3, rfl, _, _⟩ := h1.row; have HS3 := mk_ h1.s1.s2.s1; clear h1)
  | (go_at_call 55; (with_reducible show Calls _ _ _ V3 _); refine (HC4.out _ _ HS3.out).mono ?_; rintro e V4 ⟨rfl, h1⟩; have HS4 := mk_ h1; clear h1)
  | (go_at_call 52; (with_reducible show Calls _ _ _ V4 _); refine (HC5.out _ _ HS4.out).mono ?_; rintro e V5 ⟨rfl, h1⟩; have HS5 := mk_ h1; clear h1)
  | (go_at_call 56; (with_reducible show Calls _ _ _ V5 _); refine (HC6.out _ _ HS5.out).mono ?_; rintro e V6 ⟨rfl, h1⟩; have HS6 := mk_ h1; clear h1)
  | (go_at_call 52; (with_reducible show Calls _ _ _ V6 _); refine (HC7.out _ _ HS6.out).mono ?_; rintro e V7 ⟨rfl, h1⟩; have HS7 := mk_ h1; clear h1)
  | ((with_reducible refine gate_st (ty := 32) (x := .tmp 3) (y := .tmp 21) rfl ?_); refine wpList_store_row rfl 32 (.tmp 3) (.tmp 21) rfl V7.heap.size #[.int .i64 d_.f0, .int .i64 d_.f1, .slice A3 l3.length c3, .int .i64 t_.f0, .int .i64 t_.f1, .int .i64 t_.f2, .int .i64 n1, .int .i64 n5, .string s6, .int .i64 n7, .slice none 0 0, .slice none 0 0] rfl rfl 32 #[.int .i64 0, .int .i64 0, .slice none 0 0, .int .i64 0, .int .i64 0, .int .i64 0, .int .i64 0, .int .i64 0, .string ⟨#[]⟩, .int .i64 0, .slice none 0 0, .slice none 0 0] (HS7.out.box (.cells #[.int .i64 0, .int .i64 0, .slice none 0 0, .int .i64 0, .int .i64 0, .int .i64 0, .int .i64 0, .int .i64 0, .string ⟨#[]⟩, .int .i64 0, .slice none 0 0, .slice none 0 0] 32 (0, 0))).blk z0_ rfl (by first | decide | rfl | simp [Value.oneCell']) ?_; have HSx := mk_ (sp_storeRow (HS7.out.box (.cells #[.int .i64 0, .int .i64 0, .slice none 0 0, .int .i64 0, .int .i64 0, .int .i64 0, .int .i64 0, .int .i64 0, .string ⟨#[]⟩, .int .i64 0, .slice none 0 0, .slice none 0 0] 32 (0, 0))) #[.int .i64 d_.f0, .int .i64 d_.f1, .slice A3 l3.length c3, .int .i64 t_.f0, .int .i64 t_.f1, .int .i64 t_.f2, .int .i64 n1, .int .i64 n5, .string s6, .int .i64 n7, .slice none 0 0, .slice none 0 0]); have kr0 := blk_cell HSx.out.s1.blk 0; have kr1 := blk_cell HSx.out.s1.blk 1))
   have hSd := HSx.out.drew
   clear kr0 kr1
   refine start_at (n := 16) (S := fun w' => w'.cell? ⟨g, 0, none⟩ = some (.slice A l.length c) ∧ w'.cell? ⟨g, 1, none⟩ = some (.int .i64 at7) ∧ True) (ds := []) (fun W => Sp W (Blk V7.heap.size (.cells #[.int .i64 d_.f0, .int .i64 d_.f1, .slice A3 l3.length c3, .int .i64 t_.f0, .int .i64 t_.f1, .int .i64 t_.f2, .int .i64 n1, .int .i64 n5, .string s6, .int .i64 n7, .slice none 0 0, .slice none 0 0] 32 (0, 0)) :: RdP g A l.length c (at7, false) :: Old w0 :: Row (Kd.int .i64) 3 (.slice A3 l3.length c3) l3 :: Blk w.heap.size (.cells #[.int .i64 0, .int .i64 0, .slice none 0 0, .int .i64 0, .int .i64 0, .int .i64 0, .int .i64 0, .int .i64 0, .string ⟨#[]⟩, .int .i64 0, .slice none 0 0, .slice none 0 0] 32 (0, 0)) :: F)) (Steps.Bs 16 0) z0_ rfl rfl hSd (fun W hJ => ⟨blk_cell hJ.s1.blk 0, blk_cell hJ.s1.blk 1, trivial⟩) (fun W0 hJ => ?_)
   clear hSd HSx
   have hHeld : W0.cell? ⟨g, 0, none⟩ = some (.slice A l.length c) ∧ W0.cell? ⟨g, 1, none⟩ = some (.int .i64 at7) ∧ True := ⟨blk_cell hJ.s1.blk 0, blk_cell hJ.s1.blk 1, trivial⟩
   refine sI 0 23 16 1 ?_
   refine sI 1 24 16 3 ?_
   refine sI 2 25 16 7 ?_
   refine sI 4 27 16 23 ?_
   refine sI 5 28 16 55 ?_
   refine sI 6 29 16 119 ?_
   refine sT hHeld 3 26 16 127 ?_
   refine sT hHeld 7 30 16 255 ?_
   refine one_ (i := 8) (N := some 31) (Steps.Bs 16 511) rfl rfl z0_ z5_ (fun K hK => ?_)
   refine goes_ Try.func57 z0_ rfl #[.slice A l.length c, .int .i64 at7] (by rfl) rfl rfl (by (try simp only [List.map_toArray, List.map_cons, List.map_nil]); first | done | rfl) ?_
   refine (PAll.row_Read.calls 80 A c l at7 vals nx 0 _ (HCL.out _ hJ.s2.old) HLC.out HG.out).mono ?_
   rintro e V8 ⟨v7_, rfl, hr_, hq_⟩
   obtain ⟨A7, c7, rfl⟩ := R_slice hr_
   refine ⟨_, rfl, ?_⟩
   have HS8 := mk_ (Sp.made hJ hq_ hr_)
   clear hr_ hq_ hJ hHeld
   refine hK.out _ _ ⟨blk_cell HS8.out.s2.blk 0, blk_cell HS8.out.s2.blk 1, trivial⟩ (fun _ => ?_)
   clear hK K
   refine nrm 31 ?_
   refine sI 9 22 16 1023 ?_
   refine sI 10 32 16 2047 ?_
   refine sI 11 33 16 4095 ?_
   refine sI 12 34 16 8191 ?_
   refine sI 13 4 16 16383 ?_
   refine sI 14 5 16 32767 ?_
   refine sI 15 6 16 65535 ?_
   refine done_ z0_ ?_
   have ks := blk_cell HS8.out.s2.blk
   have fs := blk_frozen HS8.out.s2.blk
   have kx := blk_cell HS8.out.s1.blk
   have fx := blk_frozen HS8.out.s1.blk
   go_wp2_with (first
  | (go_at_call 58; refine (HQ.out _ _ (((HS8.out.s1.store 10 (.slice A7 vals.length c7)).s2.store 1 (.int .i64 nx)).s3.s1)).mono ?_; rintro e V9 ⟨rfl, h1⟩; have HS9 := mk_ h1; clear h1))
   go_loopg [55] (m.toNat + 1) (fun kq v55 W' => ∃ (i : Nat) (v8 : Value), v55 = .int .i64 (i : Int) ∧ Aside0 (Sp W' (Row k25 25 v8 (rTimes rDot l i [] r9).1 :: RdP g A l.length c (rTimes rDot l i [] r9).2 :: Old w0 :: Blk V7.heap.size (.cells #[.int .i64 d_.f0, .int .i64 d_.f1, .slice A3 l3.length c3, .int .i64 t_.f0, .int .i64 t_.f1, .int .i64 t_.f2, .int .i64 n1, .int .i64 n5, .string s6, .int .i64 n7, .slice A7 vals.length c7, v8] 32 (0, 0)) :: Row k84 84 (.slice A7 vals.length c7) vals :: Row (Kd.int .i64) 3 (.slice A3 l3.length c3) l3 :: Blk w.heap.size (.cells #[.int .i64 0, .int .i64 0, .slice none 0 0, .int .i64 0, .int .i64 0, .int .i64 0, .int .i64 0, .int .i64 0, .string ⟨#[]⟩, .int .i64 0, .slice none 0 0, .slice none 0 0] 32 (0, 0)) :: F)) ∧ Aside0 (kq + i = m.toNat + 1 ∧ i ≤ m.toNat))
   case atStart => exact ⟨0, .slice none 0 0, rfl, ⟨sp_nil HS9.out⟩, ⟨by omega⟩⟩
   case round =>
    obtain ⟨i, v8, rfl, HA, HK⟩ := hrel
    obtain ⟨k1, rfl⟩ : ∃ k1, gk = k1 + 1 := ⟨gk - 1, by have := HK.out; omega⟩
    by_cases hi : (i : Int) < m
    ·
     have hb2 : decide ((i : Int) < m) = true := decide_eq_true hi
     have HI := mk_ hi
     have HX := mk_ (times_snoc rDot l i [] r9)
     have HTi := mk_ (HT.out i)
     have HTL : Aside0 ((rTimes rDot l i [] r9).1.length = i) := ⟨by rw [times_len]; simp⟩
     clear hi HT
     generalize rTimes rDot l i [] r9 = tt at *
     obtain ⟨xs, ri⟩ := tt
     dsimp only at HA HX HTi HTL
     have HQD := mk_ (fun V F' hv => HCD.out V F' ri HTi.out hv)
     clear HCD
     generalize rDot l ri = qd at *
     obtain ⟨p, rj⟩ := qd
     dsimp only at HQD HX
     obtain ⟨A8, c8, rfl, _, _⟩ := HA.out.row
     have k11 := blk_cell HA.out.s3.blk 11
     have hSd := HA.out.drew
     go_wp2
     refine start_ (n := 8) (S := fun w' => w'.cell? ⟨V7.heap.size, 11, none⟩ = some (.slice A8 xs.length c8) ∧ True) (ds := [7]) (Steps.Bs 8 0) z0_ rfl rfl ⟨k11, trivial⟩ (fun hHeld => ?_)
     generalize World.drew _ = W at hSd hHeld ⊢
     clear k11 HA
     refine sI 0 57 8 1 ?_
     refine sI 2 59 8 5 ?_
     refine sT hHeld 1 58 8 7 ?_
     refine one_ (i := 3) (N := some 60) (Steps.Bs 8 15) rfl rfl z0_ z5_ (fun K hK => ?_)
     refine goes_ Try.func53 z0_ rfl #[.pointer (some ⟨g, 0, none⟩)] (by rfl) rfl rfl (by (try simp only [List.map_toArray, List.map_cons, List.map_nil]); first | done | rfl) ?_
     refine (HQD.out _ _ hSd.s1.s2.s1).mono ?_
     rintro e W2 ⟨rfl, h1⟩
     refine ⟨_, rfl, ?_⟩
     have hHeld1 : W2.cell? ⟨V7.heap.size, 11, none⟩ = some (.slice A8 xs.length c8) := blk_cell h1.s3.blk 11
     have HS3 := mk_ (Sp.s1 (sp_el (d := k25) (p := p) (cs := [.int .i64 p.f0, .int .i64 p.f1]) (fun W ok => k25_mkM W 0 ok p) h1.s2))
     clear hHeld hSd h1
     refine hK.out _ _ ⟨hHeld1, trivial⟩ (fun _ => ?_)
     clear hK K
     refine nrm 60 ?_
     refine one_ (i := 4) (N := some 61) (Steps.Bs 8 31) rfl rfl z0_ z5_ (fun K hK => ?_)
     refine value_ (w1 := ?_) (v := ?_) (by rfl) rfl ?_ ?_
     rotate_left 2
     ·
      go_simp
      constructor
      ·
       rfl
      ·
       rfl
     refine hK.out _ _ ⟨(Below.cell (below_alloc (Below.refl _ _) _) (World.block_lt_of_cell? W2 _ hHeld1)).trans hHeld1, trivial⟩ (fun _ => ?_)
     clear hK K
     refine nrm 61 ?_
     refine one_ (i := 5) (N := some 62) (Steps.Bs 8 63) rfl rfl z0_ z5_ (fun K hK => ?_)
     refine Sp.append_step k25 (W := W2) (by rfl) (.tmp 58) (.tmp 61) 30 25 (.agg #[.int .i64 0, .int .i64 0]) 16 rfl Try.underlying30 z0_ rfl z5_ z4_ (.slice A8 xs.length c8) xs p [.int .i64 p.f0, .int .i64 p.f1] rfl rfl HS3.out (by have := HTL.out; have := HI.out; have := HLE.out; omega) ?_
     intro v9 w1 hS4
     have HS4 := mk_ hS4
     have hg1 := hS4.s3.blk
     obtain ⟨A9, c9, rfl, _, _⟩ := hS4.row
     clear hS4
     refine hK.out _ _ ⟨blk_cell hg1 11, trivial⟩ (fun _ => ?_)
     clear hK K
     refine nrm 62 ?_
     refine sI 6 63 8 127 ?_
     refine last_ (i := 7) (N := none) (Steps.Bs 8 255) rfl rfl z0_ z5_ (fun K hK => ?_)
     have hc0 := blk_cell hg1 11
     have hf0 := blk_frozen hg1 11
     refine skip_ (w1 := ?_) (by rfl) rfl ?_ ?_
     rotate_left
     ·
      go_simp
      rfl
     refine hK.out _ _ ?_
     clear hK K
     refine done_ z0_ ?_
     have h5 := (HS4.out.s3.store 11 (.slice A9 (xs ++ [p]).length c9)).s3.s3.s3
     rw [show (xs ++ [p]).length = xs.length + 1 by simp] at h5
     have HS5 := mk_ h5
     clear h5
     clear hc0 hf0 hg1 HS3 HS4 hHeld1
     go_wp2
     go_roundg k1
     case measure => exact Nat.lt_succ_self _
     case rel => exact ⟨i + 1, .slice A9 (xs.length + 1) c9, by rw [w64 z4_ (by have := HI.out; have := HLE.out; omega)]; rfl, ⟨by rw [HX.out]; exact HS5.out⟩, ⟨by have := HK.out; omega, by have := HI.out; omega⟩⟩
    ·
     have hb2 : decide ((i : Int) < m) = false := decide_eq_false hi
     have hie : i = m.toNat := by have := HK.out; omega
     clear hi
     obtain ⟨A8, c8, rfl, _, _⟩ := HA.out.row
     have kx := blk_cell HA.out.s3.blk
     subst hie
     go_wp2_with ((with_reducible refine gate_st (ty := 32) (x := .tmp 2) (y := .tmp 65) rfl ?_); refine wpList_store_row rfl 32 (.tmp 2) (.tmp 65) rfl w.heap.size #[.int .i64 d_.f0, .int .i64 d_.f1, .slice A3 l3.length c3, .int .i64 t_.f0, .int .i64 t_.f1, .int .i64 t_.f2, .int .i64 n1, .int .i64 n5, .string s6, .int .i64 n7, .slice A7 vals.length c7, .slice A8 (rTimes rDot l m.toNat [] r9).1.length c8] rfl rfl 32 #[.int .i64 0, .int .i64 0, .slice none 0 0, .int .i64 0, .int .i64 0, .int .i64 0, .int .i64 0, .int .i64 0, .string ⟨#[]⟩, .int .i64 0, .slice none 0 0, .slice none 0 0] (HA.out.s3.tail.s5.blk) z0_ rfl (by first | decide | rfl | simp [Value.oneCell']) ?_)
     refine bodyPost_ret (results_cell_row rfl _ _ w.heap.size 32 #[.int .i64 d_.f0, .int .i64 d_.f1, .slice A3 l3.length c3, .int .i64 t_.f0, .int .i64 t_.f1, .int .i64 t_.f2, .int .i64 n1, .int .i64 n5, .string s6, .int .i64 n7, .slice A7 vals.length c7, .slice A8 (rTimes rDot l m.toNat [] r9).1.length c8] (0, 0) _ rfl (sp_storeRow HA.out.s3.tail.s5 _).blk Try.underlying32 rfl z0_) rfl ?_
     exact ⟨_, _, _, rfl, (sp_storeRow HA.out.s3.tail.s5 #[.int .i64 d_.f0, .int .i64 d_.f1, .slice A3 l3.length c3, .int .i64 t_.f0, .int .i64 t_.f1, .int .i64 t_.f2, .int .i64 n1, .int .i64 n5, .string s6, .int .i64 n7, .slice A7 vals.length c7, .slice A8 (rTimes rDot l m.toNat [] r9).1.length c8]).tail.s3.s4⟩
end
end Go.Proofs.Ytjnjfogfpmeacaa.Ops
end
section
namespace Go.Proofs.Ytjnjfogfpmeacaa.Ops
open Go.RowKit PAll Plain PrintWords PrintLast PrintMore Go.Proofs.Ytjnjfogfpmeacaa.Sep ZipT PrintWords.Kd PrintMore.Kd
set_option linter.unusedVariables false
set_option linter.unusedSimpArgs false
theorem Sp.frame {w w' : World} {F X : List Part} (h : Sp w F) (h' : Sp w' (X ++ [Old w])) : Sp w' (X ++ F) := by
 obtain ⟨ok, h1, h2, ok2, h3, h4, _⟩ := Sep.split h'
 refine Sep.app h2 (Sep.moved (Moved.of_below h4.2 (fun _ => False)) h (fun _ _ _ e => e)) h1 (fun k hk => Nat.lt_of_lt_of_le hk h4.2.size) (fun k hk hw => ?_)
 exact (h3 k (h4.1 k hw)).2 hk
theorem Sp.rowOut {α : Type} {d : Kd α} {e : Nat} {v : Value} {xs : List α} {w w' : World} {F : List Part} (hM : ∀ {b b' : Nat} {ok ok' : Nat → Prop} {x : α} {cs : List Value}, d.M w' b ok x cs → d.M w' b' ok' x cs) (h : Sp w' (Row d e v xs :: Old w :: F)) :
  d.R e w' w.heap.size (fun _ => True) v xs := by
 obtain ⟨ok, h1, ⟨h0, inner, ⟨hl, ho⟩, hr⟩, ok2, h3, h4, _⟩ := h
 refine ⟨fun _ _ => trivial, inner, ⟨hl, ?_⟩, hr.imp_ (fun _ _ hp => hM hp)⟩
 rcases ho with h | ⟨g, cap, cur, rfl, _, hg, rest⟩
 ·
  exact .inl h
 ·
  refine .inr ⟨g, cap, cur, rfl, ?_, hg, rest⟩
  rcases Nat.lt_or_ge g w.heap.size with hlt | hge
  ·
   exact absurd (h0 g rfl) (h3 g (h4.1 g hlt)).2
  ·
   exact hge
section
variable {P : Program} {ops : Array Oper} {o : Oper} {a : Act} {Q : Exit → Act → World → Prop} {Kc : Act → World → Prop}
theorem store_row_step {W : World} (hw : Region.wanted o (yielded ops a.tmps) = true) (ty : TypeId) (x y : Operand) (ho : o.op = .store ty x y)
  (g : Nat) (cells : Array Value) (hx : a.eval x = .pointer (some ⟨g, 0, none⟩)) (hy : a.eval y = .agg cells)
  (t : TypeId) (old : Array Value) (hg : W.heap[g]? = some (.cells old t (0, 0))) (hi : (P.info? ty).map (·.size) = some cells.size)
  (hold : old.size = cells.size) (h1 : cells.all (·.oneCell') = true) (h : Kc (a.put o.dst undef) (W.setRow g cells)) :
  if Region.wanted o (yielded ops a.tmps) = true then Oper.wp P o a W Kc Q else Kc (a.put o.dst undef) W := by
 rw [if_pos hw]
 exact wp_store_row ty x y ho g cells hx hy t old hg hi hold h1 h
end
section
variable {w : World} {A : Option Addr} {c : Nat} {l : List Int}
theorem read_sp (hC0 : Kd.C (Kd.int .u8) w A l.length l) (hlc : l.length ≤ c) (hb : Bytes l) (hl : l.length ≤ 1000000) (a1 : Int) :
  Calls Try.prog 11 #[.slice A l.length c, .int .i64 a1] w fun e w' => ∃ v1 v7 v8, e = .returned (.tuple #[.agg #[.int .i64 (sOpRead l a1).1.f0.f0, .int .i64 (sOpRead l a1).1.f0.f1, v1, .int .i64 (sOpRead l a1).1.f2.f0, .int .i64 (sOpRead l a1).1.f2.f1, .int .i64 (sOpRead l a1).1.f2.f2, .int .i64 (sOpRead l a1).1.f3, .int .i64 (sOpRead l a1).1.f4, .string (sOpRead l a1).1.f5, .int .i64 (sOpRead l a1).1.f6, v7, v8], .int .i64 (sOpRead l a1).2.1, .int .i64 (sOpRead l a1).2.2]) ∧
   Sp w' [Row (Kd.int .i64) 3 v1 (sOpRead l a1).1.f1, Row k84 84 v7 (sOpRead l a1).1.f7, Row k25 25 v8 (sOpRead l a1).1.f8, Old w] := by
 have h0 := Sp.start w
 have h1 := h0.box (.cells #[.int .i64 0, .int .i64 0, .slice none 0 0, .int .i64 0, .int .i64 0, .int .i64 0, .int .i64 0, .int .i64 0, .string ⟨#[]⟩, .int .i64 0, .slice none 0 0, .slice none 0 0] 32 (0, 0))
 by_cases ha : a1 < 0
 ·
  have hd1 : decide (a1 < 0) = true := decide_eq_true ha
  have hz : sOpRead l a1 = (zOp, 0, 1) := by unfold sOpRead; rw [if_pos (.inl ha)]
  rw [hz]
  have HS1 := mk_ h1
  clear h0 h1 hz hC0 hb
  go_enter Try.func11, Try.ntmps11
  go_wp2_with (((with_reducible refine gate_st (ty := 32) (x := .tmp 4) (y := .tmp 16) rfl ?_); refine wpList_store_row rfl 32 (.tmp 4) (.tmp 16) rfl w.heap.size #[.int .i64 0, .int .i64 0, .slice none 0 0, .int .i64 0, .int .i64 0, .int .i64 0, .int .i64 0, .int .i64 0, .string ⟨#[]⟩, .int .i64 0, .slice none 0 0, .slice none 0 0] rfl rfl 32 #[.int .i64 0, .int .i64 0, .slice none 0 0, .int .i64 0, .int .i64 0, .int .i64 0, .int .i64 0, .int .i64 0, .string ⟨#[]⟩, .int .i64 0, .slice none 0 0, .slice none 0 0] HS1.out.blk z0_ rfl (by first | decide | rfl | simp [Value.oneCell']) ?_))
  refine bodyPost_ret (results_ctt rfl _ _ w.heap.size 32 #[.int .i64 0, .int .i64 0, .slice none 0 0, .int .i64 0, .int .i64 0, .int .i64 0, .int .i64 0, .int .i64 0, .string ⟨#[]⟩, .int .i64 0, .slice none 0 0, .slice none 0 0] (0, 0) _ rfl (sp_storeRow HS1.out _).blk Try.underlying32 rfl z0_) rfl ?_
  exact ⟨_, _, _, rfl, sp_nil (sp_nil (sp_nil ((sp_storeRow HS1.out #[.int .i64 0, .int .i64 0, .slice none 0 0, .int .i64 0, .int .i64 0, .int .i64 0, .int .i64 0, .int .i64 0, .string ⟨#[]⟩, .int .i64 0, .slice none 0 0, .slice none 0 0]).tail)))⟩
 have hd1 : decide (a1 < 0) = false := decide_eq_false ha
 by_cases hn : a1 > l.length
 ·
  have hd2 : decide ((l.length : Int) < a1) = true := decide_eq_true hn
  have hz : sOpRead l a1 = (zOp, 0, 1) := by unfold sOpRead; rw [if_pos (.inr hn)]
  rw [hz]
  have HS1 := mk_ h1
  clear h0 h1 hz hC0 hb
  go_enter Try.func11, Try.ntmps11
  go_wp2_with (((with_reducible refine gate_st (ty := 32) (x := .tmp 4) (y := .tmp 16) rfl ?_); refine wpList_store_row rfl 32 (.tmp 4) (.tmp 16) rfl w.heap.size #[.int .i64 0, .int .i64 0, .slice none 0 0, .int .i64 0, .int .i64 0, .int .i64 0, .int .i64 0, .int .i64 0, .string ⟨#[]⟩, .int .i64 0, .slice none 0 0, .slice none 0 0] rfl rfl 32 #[.int .i64 0, .int .i64 0, .slice none 0 0, .int .i64 0, .int .i64 0, .int .i64 0, .int .i64 0, .int .i64 0, .string ⟨#[]⟩, .int .i64 0, .slice none 0 0, .slice none 0 0] HS1.out.blk z0_ rfl (by first | decide | rfl | simp [Value.oneCell']) ?_))
  refine bodyPost_ret (results_ctt rfl _ _ w.heap.size 32 #[.int .i64 0, .int .i64 0, .slice none 0 0, .int .i64 0, .int .i64 0, .int .i64 0, .int .i64 0, .int .i64 0, .string ⟨#[]⟩, .int .i64 0, .slice none 0 0, .slice none 0 0] (0, 0) _ rfl (sp_storeRow HS1.out _).blk Try.underlying32 rfl z0_) rfl ?_
  exact ⟨_, _, _, rfl, sp_nil (sp_nil (sp_nil ((sp_storeRow HS1.out #[.int .i64 0, .int .i64 0, .slice none 0 0, .int .i64 0, .int .i64 0, .int .i64 0, .int .i64 0, .int .i64 0, .string ⟨#[]⟩, .int .i64 0, .slice none 0 0, .slice none 0 0]).tail)))⟩
 have hd2 : decide ((l.length : Int) < a1) = false := decide_eq_false hn
 have hp : rAt l (a1, false) := ⟨by show 0 ≤ a1; omega, by show a1 ≤ _; omega⟩
 have hu : sOpRead l a1 = if (rOp l (a1, false)).2.2 = true then (zOp, 0, 3) else ((rOp l (a1, false)).1, (rOp l (a1, false)).2.1, 0) := by unfold sOpRead; rw [if_neg (fun e => e.elim ha hn)]
 have h2 := h1.box (.cells #[.slice A l.length c, .int .i64 a1, .bool false] 61 (0, 0))
 rw [show (w.alloc (.cells #[.int .i64 0, .int .i64 0, .slice none 0 0, .int .i64 0, .int .i64 0, .int .i64 0, .int .i64 0, .int .i64 0, .string ⟨#[]⟩, .int .i64 0, .slice none 0 0, .slice none 0 0] 32 (0, 0))).heap.size = w.heap.size + 1 from Array.size_push _] at h2
 have hQ := rop_calls (w0 := w) hC0 hlc hb hl (a1, false) hp (show Sp _ (RdP (w.heap.size + 1) A l.length c (a1, false) :: Old w :: [Blk w.heap.size (.cells #[.int .i64 0, .int .i64 0, .slice none 0 0, .int .i64 0, .int .i64 0, .int .i64 0, .int .i64 0, .int .i64 0, .string ⟨#[]⟩, .int .i64 0, .slice none 0 0, .slice none 0 0] 32 (0, 0))]) from h2.s2.s1)
 rw [hu]
 clear hu h0 h1 h2 hC0 hb hp
 generalize rOp l (a1, false) = q at hQ ⊢
 obtain ⟨x, at2, bad2⟩ := q
 dsimp only at hQ ⊢
 have HQ := mk_ hQ
 clear hQ ha hn
 cases bad2 with
 | true =>
  rw [if_pos rfl]
  go_enter Try.func11, Try.ntmps11
  go_wp2_with (first | (go_at_call 26; refine HQ.out.mono ?_; rintro e V ⟨v1, v7, v8, rfl, h⟩; obtain ⟨A1, c1, rfl, _, _⟩ := h.row; obtain ⟨A7, c7, rfl, _, _⟩ := h.tail.row; obtain ⟨A8, c8, rfl, _, _⟩ := h.tail.tail.row; have HS3 := mk_ h; clear h) | ((with_reducible refine gate_st (ty := 32) (x := .tmp 4) (y := .tmp 22) rfl ?_); refine wpList_store_row rfl 32 (.tmp 4) (.tmp 22) rfl w.heap.size #[.int .i64 x.f0.f0, .int .i64 x.f0.f1, .slice A1 x.f1.length c1, .int .i64 x.f2.f0, .int .i64 x.f2.f1, .int .i64 x.f2.f2, .int .i64 x.f3, .int .i64 x.f4, .string x.f5, .int .i64 x.f6, .slice A7 x.f7.length c7, .slice A8 x.f8.length c8] rfl rfl 32 #[.int .i64 0, .int .i64 0, .slice none 0 0, .int .i64 0, .int .i64 0, .int .i64 0, .int .i64 0, .int .i64 0, .string ⟨#[]⟩, .int .i64 0, .slice none 0 0, .slice none 0 0] HS3.out.s5.blk z0_ rfl (by first | decide | rfl | simp [Value.oneCell']) ?_; have HS4 := mk_ (sp_storeRow HS3.out.s5 #[.int .i64 x.f0.f0, .int .i64 x.f0.f1, .slice A1 x.f1.length c1, .int .i64 x.f2.f0, .int .i64 x.f2.f1, .int .i64 x.f2.f2, .int .i64 x.f3, .int .i64 x.f4, .string x.f5, .int .i64 x.f6, .slice A7 x.f7.length c7, .slice A8 x.f8.length c8]); have kr := blk_cell HS4.out.s4.blk; have kx := blk_cell HS4.out.blk) | ((with_reducible refine gate_st (ty := 32) (x := .tmp 4) (y := .tmp 27) rfl ?_); refine wpList_store_row rfl 32 (.tmp 4) (.tmp 27) rfl w.heap.size #[.int .i64 0, .int .i64 0, .slice none 0 0, .int .i64 0, .int .i64 0, .int .i64 0, .int .i64 0, .int .i64 0, .string ⟨#[]⟩, .int .i64 0, .slice none 0 0, .slice none 0 0] rfl rfl 32 #[.int .i64 x.f0.f0, .int .i64 x.f0.f1, .slice A1 x.f1.length c1, .int .i64 x.f2.f0, .int .i64 x.f2.f1, .int .i64 x.f2.f2, .int .i64 x.f3, .int .i64 x.f4, .string x.f5, .int .i64 x.f6, .slice A7 x.f7.length c7, .slice A8 x.f8.length c8] HS4.out.blk z0_ rfl (by first | decide | rfl | simp [Value.oneCell']) ?_))
  refine bodyPost_ret (results_ctt rfl _ _ w.heap.size 32 #[.int .i64 0, .int .i64 0, .slice none 0 0, .int .i64 0, .int .i64 0, .int .i64 0, .int .i64 0, .int .i64 0, .string ⟨#[]⟩, .int .i64 0, .slice none 0 0, .slice none 0 0] (0, 0) _ rfl (sp_storeRow HS4.out _).blk Try.underlying32 rfl z0_) rfl ?_
  exact ⟨_, _, _, rfl, sp_nil (sp_nil (sp_nil ((sp_storeRow HS4.out #[.int .i64 0, .int .i64 0, .slice none 0 0, .int .i64 0, .int .i64 0, .int .i64 0, .int .i64 0, .int .i64 0, .string ⟨#[]⟩, .int .i64 0, .slice none 0 0, .slice none 0 0]).tail.tail.tail.tail.tail)))⟩
 | false =>
  rw [if_neg (by show ¬ (false = true); decide)]
  go_enter Try.func11, Try.ntmps11
  go_wp2_with (first | (go_at_call 26; refine HQ.out.mono ?_; rintro e V ⟨v1, v7, v8, rfl, h⟩; obtain ⟨A1, c1, rfl, _, _⟩ := h.row; obtain ⟨A7, c7, rfl, _, _⟩ := h.tail.row; obtain ⟨A8, c8, rfl, _, _⟩ := h.tail.tail.row; have HS3 := mk_ h; clear h) | ((with_reducible refine gate_st (ty := 32) (x := .tmp 4) (y := .tmp 22) rfl ?_); refine wpList_store_row rfl 32 (.tmp 4) (.tmp 22) rfl w.heap.size #[.int .i64 x.f0.f0, .int .i64 x.f0.f1, .slice A1 x.f1.length c1, .int .i64 x.f2.f0, .int .i64 x.f2.f1, .int .i64 x.f2.f2, .int .i64 x.f3, .int .i64 x.f4, .string x.f5, .int .i64 x.f6, .slice A7 x.f7.length c7, .slice A8 x.f8.length c8] rfl rfl 32 #[.int .i64 0, .int .i64 0, .slice none 0 0, .int .i64 0, .int .i64 0, .int .i64 0, .int .i64 0, .int .i64 0, .string ⟨#[]⟩, .int .i64 0, .slice none 0 0, .slice none 0 0] HS3.out.s5.blk z0_ rfl (by first | decide | rfl | simp [Value.oneCell']) ?_; have HS4 := mk_ (sp_storeRow HS3.out.s5 #[.int .i64 x.f0.f0, .int .i64 x.f0.f1, .slice A1 x.f1.length c1, .int .i64 x.f2.f0, .int .i64 x.f2.f1, .int .i64 x.f2.f2, .int .i64 x.f3, .int .i64 x.f4, .string x.f5, .int .i64 x.f6, .slice A7 x.f7.length c7, .slice A8 x.f8.length c8]); have kr := blk_cell HS4.out.s4.blk; have kx := blk_cell HS4.out.blk))
  have hSd := HS4.out.drew
  clear kr kx
  refine start_at (n := 8) (S := fun w' => w'.cell? ⟨w.heap.size, 0, none⟩ = some (.int .i64 x.f0.f0) ∧ w'.cell? ⟨w.heap.size, 1, none⟩ = some (.int .i64 x.f0.f1) ∧ w'.cell? ⟨w.heap.size, 2, none⟩ = some (.slice A1 x.f1.length c1) ∧ w'.cell? ⟨w.heap.size, 3, none⟩ = some (.int .i64 x.f2.f0) ∧ w'.cell? ⟨w.heap.size, 4, none⟩ = some (.int .i64 x.f2.f1) ∧ w'.cell? ⟨w.heap.size, 5, none⟩ = some (.int .i64 x.f2.f2) ∧ w'.cell? ⟨w.heap.size, 6, none⟩ = some (.int .i64 x.f3) ∧ w'.cell? ⟨w.heap.size, 7, none⟩ = some (.int .i64 x.f4) ∧ w'.cell? ⟨w.heap.size, 8, none⟩ = some (.string x.f5) ∧ w'.cell? ⟨w.heap.size, 9, none⟩ = some (.int .i64 x.f6) ∧ w'.cell? ⟨w.heap.size, 10, none⟩ = some (.slice A7 x.f7.length c7) ∧ w'.cell? ⟨w.heap.size, 11, none⟩ = some (.slice A8 x.f8.length c8) ∧ w'.cell? ⟨w.heap.size + 1, 1, none⟩ = some (.int .i64 at2) ∧ True) (ds := []) (fun W => Sp W [Blk w.heap.size (.cells #[.int .i64 x.f0.f0, .int .i64 x.f0.f1, .slice A1 x.f1.length c1, .int .i64 x.f2.f0, .int .i64 x.f2.f1, .int .i64 x.f2.f2, .int .i64 x.f3, .int .i64 x.f4, .string x.f5, .int .i64 x.f6, .slice A7 x.f7.length c7, .slice A8 x.f8.length c8] 32 (0, 0)), Row (Kd.int .i64) 3 (.slice A1 x.f1.length c1) x.f1, Row k84 84 (.slice A7 x.f7.length c7) x.f7, Row k25 25 (.slice A8 x.f8.length c8) x.f8, RdP (w.heap.size + 1) A l.length c (at2, false), Old w]) (Steps.Bs 8 0) z0_ rfl rfl hSd (fun W hJ => ⟨blk_cell hJ.blk 0, blk_cell hJ.blk 1, blk_cell hJ.blk 2, blk_cell hJ.blk 3, blk_cell hJ.blk 4, blk_cell hJ.blk 5, blk_cell hJ.blk 6, blk_cell hJ.blk 7, blk_cell hJ.blk 8, blk_cell hJ.blk 9, blk_cell hJ.blk 10, blk_cell hJ.blk 11, blk_cell hJ.s4.blk 1, trivial⟩) (fun W0 hJ => ?_)
  clear hSd HS4 HS3
  have hHeld : W0.cell? ⟨w.heap.size, 0, none⟩ = some (.int .i64 x.f0.f0) ∧ W0.cell? ⟨w.heap.size, 1, none⟩ = some (.int .i64 x.f0.f1) ∧ W0.cell? ⟨w.heap.size, 2, none⟩ = some (.slice A1 x.f1.length c1) ∧ W0.cell? ⟨w.heap.size, 3, none⟩ = some (.int .i64 x.f2.f0) ∧ W0.cell? ⟨w.heap.size, 4, none⟩ = some (.int .i64 x.f2.f1) ∧ W0.cell? ⟨w.heap.size, 5, none⟩ = some (.int .i64 x.f2.f2) ∧ W0.cell? ⟨w.heap.size, 6, none⟩ = some (.int .i64 x.f3) ∧ W0.cell? ⟨w.heap.size, 7, none⟩ = some (.int .i64 x.f4) ∧ W0.cell? ⟨w.heap.size, 8, none⟩ = some (.string x.f5) ∧ W0.cell? ⟨w.heap.size, 9, none⟩ = some (.int .i64 x.f6) ∧ W0.cell? ⟨w.heap.size, 10, none⟩ = some (.slice A7 x.f7.length c7) ∧ W0.cell? ⟨w.heap.size, 11, none⟩ = some (.slice A8 x.f8.length c8) ∧ W0.cell? ⟨w.heap.size + 1, 1, none⟩ = some (.int .i64 at2) ∧ True := ⟨blk_cell hJ.blk 0, blk_cell hJ.blk 1, blk_cell hJ.blk 2, blk_cell hJ.blk 3, blk_cell hJ.blk 4, blk_cell hJ.blk 5, blk_cell hJ.blk 6, blk_cell hJ.blk 7, blk_cell hJ.blk 8, blk_cell hJ.blk 9, blk_cell hJ.blk 10, blk_cell hJ.blk 11, blk_cell hJ.s4.blk 1, trivial⟩
  refine sI 1 29 8 2 ?_
  refine sI 2 30 8 6 ?_
  refine sI 3 31 8 14 ?_
  refine sT hHeld 0 28 8 15 ?_
  refine sT hHeld 4 32 8 31 ?_
  refine one_ (i := 5) (N := none) (Steps.Bs 8 63) rfl rfl z0_ z5_ (fun K hK => ?_)
  refine store_row_step (by rfl) 32 (.tmp 4) (.tmp 28) rfl w.heap.size #[.int .i64 x.f0.f0, .int .i64 x.f0.f1, .slice A1 x.f1.length c1, .int .i64 x.f2.f0, .int .i64 x.f2.f1, .int .i64 x.f2.f2, .int .i64 x.f3, .int .i64 x.f4, .string x.f5, .int .i64 x.f6, .slice A7 x.f7.length c7, .slice A8 x.f8.length c8] rfl rfl 32 #[.int .i64 x.f0.f0, .int .i64 x.f0.f1, .slice A1 x.f1.length c1, .int .i64 x.f2.f0, .int .i64 x.f2.f1, .int .i64 x.f2.f2, .int .i64 x.f3, .int .i64 x.f4, .string x.f5, .int .i64 x.f6, .slice A7 x.f7.length c7, .slice A8 x.f8.length c8] hJ.blk z0_ rfl (by first | decide | rfl | simp [Value.oneCell']) ?_
  have hS5 := sp_storeRow hJ #[.int .i64 x.f0.f0, .int .i64 x.f0.f1, .slice A1 x.f1.length c1, .int .i64 x.f2.f0, .int .i64 x.f2.f1, .int .i64 x.f2.f2, .int .i64 x.f3, .int .i64 x.f4, .string x.f5, .int .i64 x.f6, .slice A7 x.f7.length c7, .slice A8 x.f8.length c8]
  refine hK.out _ _ ⟨blk_cell hS5.blk 0, blk_cell hS5.blk 1, blk_cell hS5.blk 2, blk_cell hS5.blk 3, blk_cell hS5.blk 4, blk_cell hS5.blk 5, blk_cell hS5.blk 6, blk_cell hS5.blk 7, blk_cell hS5.blk 8, blk_cell hS5.blk 9, blk_cell hS5.blk 10, blk_cell hS5.blk 11, blk_cell hS5.s4.blk 1, trivial⟩ (fun _ => ?_)
  clear hK K
  refine norm_ (a' := ?_) ?_ ?_
  rotate_left
  ·
   show Act.put _ none _ = _
   rfl
  refine sI 6 5 8 127 ?_
  refine sI 7 6 8 255 ?_
  refine done_ z0_ ?_
  go_wp2
  refine bodyPost_ret (results_ctt rfl _ _ w.heap.size 32 #[.int .i64 x.f0.f0, .int .i64 x.f0.f1, .slice A1 x.f1.length c1, .int .i64 x.f2.f0, .int .i64 x.f2.f1, .int .i64 x.f2.f2, .int .i64 x.f3, .int .i64 x.f4, .string x.f5, .int .i64 x.f6, .slice A7 x.f7.length c7, .slice A8 x.f8.length c8] (0, 0) _ rfl hS5.blk Try.underlying32 rfl z0_) rfl ?_
  exact ⟨_, _, _, rfl, hS5.tail.s3.tail⟩
end
end Go.Proofs.Ytjnjfogfpmeacaa.Ops
end
section
namespace Go.Proofs.Ytjnjfogfpmeacaa.Ops
open Go.RowKit PAll Plain PrintWords PrintLast PrintMore Go.Proofs.Ytjnjfogfpmeacaa.Sep ZipT PrintWords.Kd PrintMore.Kd
set_option linter.unusedVariables false
set_option linter.unusedSimpArgs false
theorem wNums_len (l : List Int) (s : Wr) : (wNums l s).1.length ≤ s.1.length + 7 + 7 * l.length := by
 have h1 := wAll_len (f := fun n => wNum n 4) (m := 7) (fun x s => wNum_len x 4 s) l (wNum l.length 1 (wOr (decide (l.length > 5)) s))
 have h2 := wNum_len l.length 1 (wOr (decide (l.length > 5)) s)
 have h3 : (wOr (decide (l.length > 5)) s).1.length = s.1.length := rfl
 unfold wNums; omega
theorem rowOut_len (l : List V) : (if rowE l = 0 then (rowB l, (0 : Int)) else ([], rowE l)).1.length ≤ 700 := by
 split
 ·
  rename_i h; exact Nat.le_trans (rowB_len h) z4_
 ·
  simp
def opSmall (x : Ox) : Prop := x.f1.length ≤ 1000 ∧ x.f7.length ≤ 1000 ∧ x.f8.length ≤ 1000
instance (x : Ox) : Decidable (opSmall x) := by unfold opSmall; infer_instance
theorem rd_T_get {l : List Dt} {i : Nat} (h : i < l.length) : rd_T25 l (i : Int) = l[i] := by
 unfold rd_T25
 rw [Int.toNat_natCast, List.getD_eq_getElem?_getD, List.getElem?_eq_getElem h]; rfl
section
variable {w : World} {g : Nat} {F : List Part}
theorem wop_calls {w0 : World} (x : Ox) (A1 A7 A8 : Option Addr) (c1 c7 c8 : Nat) (hC1 : Kd.C (Kd.int .i64) w0 A1 x.f1.length x.f1) (h1c : x.f1.length ≤ c1) (hC7 : Kd.C k84 w0 A7 x.f7.length x.f7) (h7c : x.f7.length ≤ c7) (hC8 : Kd.C k25 w0 A8 x.f8.length x.f8) (h8c : x.f8.length ≤ c8) (hx : opSmall x) (s : Wr) (hS : Sp w (WrP g s :: Old w0 :: F)) (hl : s.1.length ≤ 600000000) :
  Calls Try.prog 34 #[.pointer (some ⟨g, 0, none⟩), .agg #[.int .i64 x.f0.f0, .int .i64 x.f0.f1, .slice A1 x.f1.length c1, .int .i64 x.f2.f0, .int .i64 x.f2.f1, .int .i64 x.f2.f2, .int .i64 x.f3, .int .i64 x.f4, .string x.f5, .int .i64 x.f6, .slice A7 x.f7.length c7, .slice A8 x.f8.length c8]] w fun r w' => (∃ v, r = .returned v) ∧ Sp w' (WrP g (wOp x s) :: Old w0 :: F) := by
 have h0 := hS.box (.cells #[.int .i64 x.f0.f0, .int .i64 x.f0.f1, .slice A1 x.f1.length c1, .int .i64 x.f2.f0, .int .i64 x.f2.f1, .int .i64 x.f2.f2, .int .i64 x.f3, .int .i64 x.f4, .string x.f5, .int .i64 x.f6, .slice A7 x.f7.length c7, .slice A8 x.f8.length c8] 32 (0, 0))
 have L1 := wNum_len x.f3 1 s
 obtain ⟨s1, e1⟩ : ∃ q, q = wNum x.f3 1 s := ⟨_, rfl⟩
 have L2 := wDot_len x.f0 s1
 obtain ⟨s2, e2⟩ : ∃ q, q = wDot x.f0 s1 := ⟨_, rfl⟩
 have L3 := wNums_len x.f1 s2
 obtain ⟨s3, e3⟩ : ∃ q, q = wNums x.f1 s2 := ⟨_, rfl⟩
 have L4 := wStamp_len x.f2 s3
 obtain ⟨s4, e4⟩ : ∃ q, q = wStamp x.f2 s3 := ⟨_, rfl⟩
 have L5 := wNum_len x.f4 1 s4
 obtain ⟨s5, e5⟩ : ∃ q, q = wNum x.f4 1 s4 := ⟨_, rfl⟩
 have L6 := wText_len x.f5 s5
 obtain ⟨s6, e6⟩ : ∃ q, q = wText x.f5 s5 := ⟨_, rfl⟩
 have L7 := wNum_len x.f6 1 s6
 obtain ⟨s7, e7⟩ : ∃ q, q = wNum x.f6 1 s6 := ⟨_, rfl⟩
 have LR := rowOut_len x.f7
 have hR := rowBytes_eq 1100 x.f7 (by have := hx.2.1; omega) (by have := hx.2.1; omega)
 have hwr : wRow x.f7 s7 = wAdd s7 (if rowE x.f7 = 0 then (rowB x.f7, 0) else ([], rowE x.f7)) := rfl
 have hu : wOp x s = wAll wDot x.f8 (wNum x.f8.length 1 (wOr (decide (x.f8.length > 64)) (wRow x.f7 s7))) := by subst e7 e6 e5 e4 e3 e2 e1; rfl
 generalize (if rowE x.f7 = 0 then (rowB x.f7, (0 : Int)) else ([], rowE x.f7)) = rr at LR hR hwr
 obtain ⟨rb, re⟩ := rr
 rw [hwr] at hu
 obtain ⟨s8, e8⟩ : ∃ q, q = wAdd s7 (rb, re) := ⟨_, rfl⟩
 have L8 : s8.1.length ≤ s7.1.length + 700 := by have : rb.length ≤ 700 := LR; rw [e8]; unfold wAdd; simp only [List.length_append]; omega
 rw [← e1] at L1; rw [← e2] at L2; rw [← e3] at L3; rw [← e4] at L4; rw [← e5] at L5; rw [← e6] at L6; rw [← e7] at L7; rw [← e8] at hu
 have LR2 : rb.length ≤ 700 := LR
 have HLEN := mk_ (show s.1.length ≤ 600000000 ∧ s1.1.length ≤ 600000007 ∧ s2.1.length ≤ 600000021 ∧ s3.1.length ≤ 600007028 ∧ s4.1.length ≤ 600007049 ∧ s5.1.length ≤ 600007056 ∧ s6.1.length ≤ 600007081 ∧ s7.1.length ≤ 600007088 ∧ s8.1.length ≤ 600007788 ∧ rb.length ≤ 700 from by have := hx.1; omega)
 have HE1 := mk_ e1
 have HE2 := mk_ e2
 have HE3 := mk_ e3
 have HE4 := mk_ e4
 have HE5 := mk_ e5
 have HE6 := mk_ e6
 have HE7 := mk_ e7
 have HE8 := mk_ e8
 have HU := mk_ hu
 have HR := mk_ (show PAll.row_Bytes.f 1100 x.f7 = some (rb, re) from hR)
 have HC1 := mk_ hC1
 have HC7 := mk_ hC7
 have HC8 := mk_ hC8
 have HX := mk_ (And.intro hx (And.intro h1c (And.intro h7c h8c)))
 have HS0 := mk_ (Sp.s2 (Sp.s2 h0))
 clear h0 hS hl L1 L2 L3 L4 L5 L6 L7 L8 LR hR hwr hu e1 e2 e3 e4 e5 e6 e7 e8 hC1 hC7 hC8 hx h1c h7c h8c
 obtain ⟨b8, bad8⟩ := s8
 cases bad8 with
 | true =>
  have hn0 : wOr (decide (x.f8.length > 64)) (b8, true) = (b8, true) := by unfold wOr; simp
  have HU2 := mk_ (HU.out.trans (congrArg (fun q => wAll wDot x.f8 (wNum x.f8.length 1 q)) hn0))
  clear hn0 HU
  go_enter Try.func34, Try.ntmps34
  go_wp2_with (first
  | (go_at_call 66; (with_reducible show Calls _ _ _ (World.alloc w _) _); refine (wnum_calls s x.f3 1 HS0.out (by have := HLEN.out; omega)).mono ?_; rintro e V1 ⟨⟨u, rfl⟩, h1⟩; rw [← HE1.out] at h1; have HS1 := mk_ h1; have kx1 := blk_cell HS1.out.s2.blk; clear h1)
  | (go_at_call 67; (with_reducible show Calls _ _ _ V1 _); refine (wdot_calls s1 x.f0 HS1.out (by have := HLEN.out; omega)).mono ?_; rintro e V2 ⟨⟨u, rfl⟩, h1⟩; rw [← HE2.out] at h1; have HS2 := mk_ h1; have kx2 := blk_cell HS2.out.s2.blk; clear h1)
  | (go_at_call 68; (with_reducible show Calls _ _ _ V2 _); refine (wnums_calls A1 c1 x.f1 HC1.out HX.out.2.1 HX.out.1.1 s2 HS2.out (by have := HLEN.out; omega)).mono ?_; rintro e V3 ⟨⟨u, rfl⟩, h1⟩; rw [← HE3.out] at h1; have HS3 := mk_ h1; have kx3 := blk_cell HS3.out.s2.blk; clear h1)
  | (go_at_call 69; (with_reducible show Calls _ _ _ V3 _); refine (wstamp_calls s3 x.f2 HS3.out (by have := HLEN.out; omega)).mono ?_; rintro e V4 ⟨⟨u, rfl⟩, h1⟩; rw [← HE4.out] at h1; have HS4 := mk_ h1; have kx4 := blk_cell HS4.out.s2.blk; clear h1)
  | (go_at_call 66; (with_reducible show Calls _ _ _ V4 _); refine (wnum_calls s4 x.f4 1 HS4.out (by have := HLEN.out; omega)).mono ?_; rintro e V5 ⟨⟨u, rfl⟩, h1⟩; rw [← HE5.out] at h1; have HS5 := mk_ h1; have kx5 := blk_cell HS5.out.s2.blk; clear h1)
  | (go_at_call 70; (with_reducible show Calls _ _ _ V5 _); refine (wtext_calls s5 x.f5 HS5.out (by have := HLEN.out; omega)).mono ?_; rintro e V6 ⟨⟨u, rfl⟩, h1⟩; rw [← HE6.out] at h1; have HS6 := mk_ h1; have kx6 := blk_cell HS6.out.s2.blk; clear h1)
  | (go_at_call 66; (with_reducible show Calls _ _ _ V6 _); refine (wnum_calls s6 x.f6 1 HS6.out (by have := HLEN.out; omega)).mono ?_; rintro e V7 ⟨⟨u, rfl⟩, h1⟩; rw [← HE7.out] at h1; have HS7 := mk_ h1; have kx7 := blk_cell HS7.out.s2.blk; clear h1)
  | (go_at_call 23; refine (PAll.row_Bytes.calls 1100 A7 c7 x.f7 rb re _ (C_below HC7.out HS7.out.s1.old) HX.out.2.2.1 HR.out).mono ?_; rintro e V8 ⟨v_, rfl, hr_, hq_⟩; obtain ⟨Ab, cb, rfl⟩ := R_slice hr_; have HS8 := mk_ (Sp.made HS7.out hq_ hr_).s1; clear hr_ hq_)
  | (go_at_call 71; refine (wadd_calls s7.1 s7.2 Ab cb rb re HS8.out (by have := HLEN.out; omega)).mono ?_; rintro e V9 ⟨⟨u, rfl⟩, h1⟩; rw [show ((s7.1, s7.2) : Wr) = s7 from rfl, ← HE8.out] at h1; have kx9 := blk_cell h1.s2.blk; obtain ⟨v9, h2⟩ := WrP.open h1; have k91 := blk_cell h2.blk 1; have f91 := blk_frozen h2.blk 1; have HS9 := mk_ h2; clear h1 h2)
  | (go_at_call 66; (with_reducible show Calls _ _ _ (World.setCell V9 _ _) _); refine (wnum_calls (b8, true) (x.f8.length : Int) 1 (WrP.shut (HS9.out.store 1 (.bool true))) (by have := HLEN.out; show b8.length ≤ _; omega)).mono ?_; rintro e V10 ⟨⟨u, rfl⟩, h1⟩; have HS10 := mk_ h1; have kx10 := blk_cell HS10.out.s2.blk; clear h1))
  go_loopg [62] (x.f8.length + 1) (fun kq v62 W' => ∃ (i : Nat), v62 = .int .i64 (i : Int) ∧ Aside0 (Sp W' (WrP g (wAll wDot (x.f8.take i) (wNum (x.f8.length : Int) 1 (b8, true))) :: Old w0 :: Blk w.heap.size (.cells #[.int .i64 x.f0.f0, .int .i64 x.f0.f1, .slice A1 x.f1.length c1, .int .i64 x.f2.f0, .int .i64 x.f2.f1, .int .i64 x.f2.f2, .int .i64 x.f3, .int .i64 x.f4, .string x.f5, .int .i64 x.f6, .slice A7 x.f7.length c7, .slice A8 x.f8.length c8] 32 (0, 0)) :: F)) ∧ Aside0 (kq + i = x.f8.length + 1 ∧ i ≤ x.f8.length))
  case atStart => exact ⟨0, rfl, ⟨HS10.out⟩, ⟨by omega⟩⟩
  case round =>
   obtain ⟨i, rfl, HA, HK⟩ := hrel
   obtain ⟨k1, rfl⟩ : ∃ k1, gk = k1 + 1 := ⟨gk - 1, by have := HK.out; omega⟩
   by_cases hi : i < x.f8.length
   rotate_left
   ·
    have hie : i = x.f8.length := by have := HK.out; omega
    have hb2 : decide ((i : Int) < (x.f8.length : Int)) = false := decide_eq_false z4_
    have hb3 : decide (i < x.f8.length) = false := decide_eq_false hi
    clear hi
    go_wp2
    go_end0
    refine ⟨⟨_, rfl⟩, ?_⟩
    have h := HA.out
    rw [hie, List.take_length] at h
    rw [HU2.out]
    exact (Sp.s2 h).tail
   obtain ⟨ad, hA, hx0, hx1⟩ := at_T25 (C_below HC8.out HA.out.s1.old) (i : Int) z4_ z4_
   cases hA
   rw [rd_T_get hi] at hx0 hx1
   rw [Int.toNat_natCast] at hx0 hx1
   have hb0 : (0 ≤ (i : Int)) = True := eq_true z4_
   have hb1 : ((i : Int) < (x.f8.length : Int)) = True := eq_true z4_
   have hb2 : decide ((i : Int) < (x.f8.length : Int)) = true := decide_eq_true z4_
   have hb3 : decide (i < x.f8.length) = true := decide_eq_true hi
   have HI2 := mk_ hi
   have HT := mk_ (take_snoc hi)
   generalize x.f8[i] = d at *
   clear hi
   have HD := mk_ (HA.out.box (.cells #[.int .i64 0, .int .i64 0] 25 (0, 0)))
   go_wp2_with (first | ((with_reducible refine gate_st (ty := 25) (x := .tmp 5) (y := .tmp 65) rfl ?_); refine wpList_store_row rfl 25 (.tmp 5) (.tmp 65) rfl wr.heap.size #[.int .i64 d.f0, .int .i64 d.f1] rfl rfl 25 #[.int .i64 0, .int .i64 0] HD.out.blk z0_ rfl (by first | decide | rfl | simp [Value.oneCell']) ?_; have HE := mk_ (sp_storeRow HD.out #[.int .i64 d.f0, .int .i64 d.f1]); have kd := blk_cell HE.out.blk) | (go_at_call 67; refine (wdot_calls _ d HE.out.tail (by have := HLEN.out; have h1 := wAll_len (f := wDot) (m := 14) wDot_len (x.f8.take i) (wNum (x.f8.length : Int) 1 (b8, true)); have h2 := wNum_len (x.f8.length : Int) 1 (b8, true); have h3 := HX.out.1.2.2; have h4 := List.length_take_le i x.f8; have h6 := HI2.out; have h5 : (b8, true).1.length = b8.length := rfl; omega)).mono ?_; rintro e W2 ⟨⟨u, rfl⟩, h1⟩; have HS11 := mk_ h1; clear h1))
   go_roundg k1
   case measure => exact Nat.lt_succ_self _
   case rel => exact ⟨i + 1, by rw [w64 z4_ (by have := HI2.out; have := HX.out.1.2.2; omega)]; rfl, ⟨by rw [HT.out, wAll_snoc]; exact HS11.out⟩, ⟨by have := HK.out; omega, by have := HI2.out; omega⟩⟩
 | false =>
  by_cases hc : x.f8.length > 64
  ·
   have hd1 : decide ((64 : Int) < (x.f8.length : Int)) = true := decide_eq_true z4_
   have hd2 : decide (64 < x.f8.length) = true := decide_eq_true hc
   have hn0 : wOr (decide (x.f8.length > 64)) (b8, false) = (b8, true) := by unfold wOr; simp [hc]
   have HU2 := mk_ (HU.out.trans (congrArg (fun q => wAll wDot x.f8 (wNum x.f8.length 1 q)) hn0))
   clear hn0 HU
   go_enter Try.func34, Try.ntmps34
   go_wp2_with (first
  | (go_at_call 66; (with_reducible show Calls _ _ _ (World.alloc w _) _); refine (wnum_calls s x.f3 1 HS0.out (by have := HLEN.out; omega)).mono ?_; rintro e V1 ⟨⟨u, rfl⟩, h1⟩; rw [← HE1.out] at h1; have HS1 := mk_ h1; have kx1 := blk_cell HS1.out.s2.blk; clear h1)
  | (go_at_call 67; (with_reducible show Calls _ _ _ V1 _); refine (wdot_calls s1 x.f0 HS1.out (by have := HLEN.out; omega)).mono ?_; rintro e V2 ⟨⟨u, rfl⟩, h1⟩; rw [← HE2.out] at h1; have HS2 := mk_ h1; have kx2 := blk_cell HS2.out.s2.blk; clear h1)
  | (go_at_call 68; (with_reducible show Calls _ _ _ V2 _); refine (wnums_calls A1 c1 x.f1 HC1.out HX.out.2.1 HX.out.1.1 s2 HS2.out (by have := HLEN.out; omega)).mono ?_; rintro e V3 ⟨⟨u, rfl⟩, h1⟩; rw [← HE3.out] at h1; have HS3 := mk_ h1; have kx3 := blk_cell HS3.out.s2.blk; clear h1)
  | (go_at_call 69; (with_reducible show Calls _ _ _ V3 _); refine (wstamp_calls s3 x.f2 HS3.out (by have := HLEN.out; omega)).mono ?_; rintro e V4 ⟨⟨u, rfl⟩, h1⟩; rw [← HE4.out] at h1; have HS4 := mk_ h1; have kx4 := blk_cell HS4.out.s2.blk; clear h1)
  | (go_at_call 66; (with_reducible show Calls _ _ _ V4 _); refine (wnum_calls s4 x.f4 1 HS4.out (by have := HLEN.out; omega)).mono ?_; rintro e V5 ⟨⟨u, rfl⟩, h1⟩; rw [← HE5.out] at h1; have HS5 := mk_ h1; have kx5 := blk_cell HS5.out.s2.blk; clear h1)
  | (go_at_call 70; (with_reducible show Calls _ _ _ V5 _); refine (wtext_calls s5 x.f5 HS5.out (by have := HLEN.out; omega)).mono ?_; rintro e V6 ⟨⟨u, rfl⟩, h1⟩; rw [← HE6.out] at h1; have HS6 := mk_ h1; have kx6 := blk_cell HS6.out.s2.blk; clear h1)
  | (go_at_call 66; (with_reducible show Calls _ _ _ V6 _); refine (wnum_calls s6 x.f6 1 HS6.out (by have := HLEN.out; omega)).mono ?_; rintro e V7 ⟨⟨u, rfl⟩, h1⟩; rw [← HE7.out] at h1; have HS7 := mk_ h1; have kx7 := blk_cell HS7.out.s2.blk; clear h1)
  | (go_at_call 23; refine (PAll.row_Bytes.calls 1100 A7 c7 x.f7 rb re _ (C_below HC7.out HS7.out.s1.old) HX.out.2.2.1 HR.out).mono ?_; rintro e V8 ⟨v_, rfl, hr_, hq_⟩; obtain ⟨Ab, cb, rfl⟩ := R_slice hr_; have HS8 := mk_ (Sp.made HS7.out hq_ hr_).s1; clear hr_ hq_)
  | (go_at_call 71; refine (wadd_calls s7.1 s7.2 Ab cb rb re HS8.out (by have := HLEN.out; omega)).mono ?_; rintro e V9 ⟨⟨u, rfl⟩, h1⟩; rw [show ((s7.1, s7.2) : Wr) = s7 from rfl, ← HE8.out] at h1; have kx9 := blk_cell h1.s2.blk; obtain ⟨v9, h2⟩ := WrP.open h1; have k91 := blk_cell h2.blk 1; have f91 := blk_frozen h2.blk 1; have HS9 := mk_ h2; clear h1 h2)
  | (go_at_call 66; (with_reducible show Calls _ _ _ (World.setCell V9 _ _) _); refine (wnum_calls (b8, true) (x.f8.length : Int) 1 (WrP.shut (HS9.out.store 1 (.bool true))) (by have := HLEN.out; show b8.length ≤ _; omega)).mono ?_; rintro e V10 ⟨⟨u, rfl⟩, h1⟩; have HS10 := mk_ h1; have kx10 := blk_cell HS10.out.s2.blk; clear h1))
   go_loopg [62] (x.f8.length + 1) (fun kq v62 W' => ∃ (i : Nat), v62 = .int .i64 (i : Int) ∧ Aside0 (Sp W' (WrP g (wAll wDot (x.f8.take i) (wNum (x.f8.length : Int) 1 (b8, true))) :: Old w0 :: Blk w.heap.size (.cells #[.int .i64 x.f0.f0, .int .i64 x.f0.f1, .slice A1 x.f1.length c1, .int .i64 x.f2.f0, .int .i64 x.f2.f1, .int .i64 x.f2.f2, .int .i64 x.f3, .int .i64 x.f4, .string x.f5, .int .i64 x.f6, .slice A7 x.f7.length c7, .slice A8 x.f8.length c8] 32 (0, 0)) :: F)) ∧ Aside0 (kq + i = x.f8.length + 1 ∧ i ≤ x.f8.length))
   case atStart => exact ⟨0, rfl, ⟨HS10.out⟩, ⟨by omega⟩⟩
   case round =>
    obtain ⟨i, rfl, HA, HK⟩ := hrel
    obtain ⟨k1, rfl⟩ : ∃ k1, gk = k1 + 1 := ⟨gk - 1, by have := HK.out; omega⟩
    by_cases hi : i < x.f8.length
    ·
     obtain ⟨ad, hA, hx0, hx1⟩ := at_T25 (C_below HC8.out HA.out.s1.old) (i : Int) z4_ z4_
     cases hA
     rw [rd_T_get hi] at hx0 hx1
     rw [Int.toNat_natCast] at hx0 hx1
     have hb0 : (0 ≤ (i : Int)) = True := eq_true z4_
     have hb1 : ((i : Int) < (x.f8.length : Int)) = True := eq_true z4_
     have hb2 : decide ((i : Int) < (x.f8.length : Int)) = true := decide_eq_true z4_
     have hb3 : decide (i < x.f8.length) = true := decide_eq_true hi
     have HI2 := mk_ hi
     have HT := mk_ (take_snoc hi)
     generalize x.f8[i] = d at *
     clear hi
     have HD := mk_ (HA.out.box (.cells #[.int .i64 0, .int .i64 0] 25 (0, 0)))
     go_wp2_with (first | ((with_reducible refine gate_st (ty := 25) (x := .tmp 5) (y := .tmp 65) rfl ?_); refine wpList_store_row rfl 25 (.tmp 5) (.tmp 65) rfl wr.heap.size #[.int .i64 d.f0, .int .i64 d.f1] rfl rfl 25 #[.int .i64 0, .int .i64 0] HD.out.blk z0_ rfl (by first | decide | rfl | simp [Value.oneCell']) ?_; have HE := mk_ (sp_storeRow HD.out #[.int .i64 d.f0, .int .i64 d.f1]); have kd := blk_cell HE.out.blk) | (go_at_call 67; refine (wdot_calls _ d HE.out.tail (by have := HLEN.out; have h1 := wAll_len (f := wDot) (m := 14) wDot_len (x.f8.take i) (wNum (x.f8.length : Int) 1 (b8, true)); have h2 := wNum_len (x.f8.length : Int) 1 (b8, true); have h3 := HX.out.1.2.2; have h4 := List.length_take_le i x.f8; have h6 := HI2.out; have h5 : (b8, true).1.length = b8.length := rfl; omega)).mono ?_; rintro e W2 ⟨⟨u, rfl⟩, h1⟩; have HS11 := mk_ h1; clear h1))
     go_roundg k1
     case measure => exact Nat.lt_succ_self _
     case rel => exact ⟨i + 1, by rw [w64 z4_ (by have := HI2.out; have := HX.out.1.2.2; omega)]; rfl, ⟨by rw [HT.out, wAll_snoc]; exact HS11.out⟩, ⟨by have := HK.out; omega, by have := HI2.out; omega⟩⟩
    ·
     have hie : i = x.f8.length := by have := HK.out; omega
     have hb2 : decide ((i : Int) < (x.f8.length : Int)) = false := decide_eq_false z4_
     have hb3 : decide (i < x.f8.length) = false := decide_eq_false hi
     clear hi
     go_wp2
     go_end0
     refine ⟨⟨_, rfl⟩, ?_⟩
     have h := HA.out
     rw [hie, List.take_length] at h
     rw [HU2.out]
     exact (Sp.s2 h).tail
  ·
   have hd1 : decide ((64 : Int) < (x.f8.length : Int)) = false := decide_eq_false z4_
   have hd2 : decide (64 < x.f8.length) = false := decide_eq_false hc
   have hn0 : wOr (decide (x.f8.length > 64)) (b8, false) = (b8, false) := by unfold wOr; simp; omega
   have HU2 := mk_ (HU.out.trans (congrArg (fun q => wAll wDot x.f8 (wNum x.f8.length 1 q)) hn0))
   clear hn0 HU
   go_enter Try.func34, Try.ntmps34
   go_wp2_with (first
  | (go_at_call 66; (with_reducible show Calls _ _ _ (World.alloc w _) _); refine (wnum_calls s x.f3 1 HS0.out (by have := HLEN.out; omega)).mono ?_; rintro e V1 ⟨⟨u, rfl⟩, h1⟩; rw [← HE1.out] at h1; have HS1 := mk_ h1; have kx1 := blk_cell HS1.out.s2.blk; clear h1)
  | (go_at_call 67; (with_reducible show Calls _ _ _ V1 _); refine (wdot_calls s1 x.f0 HS1.out (by have := HLEN.out; omega)).mono ?_; rintro e V2 ⟨⟨u, rfl⟩, h1⟩; rw [← HE2.out] at h1; have HS2 := mk_ h1; have kx2 := blk_cell HS2.out.s2.blk; clear h1)
  | (go_at_call 68; (with_reducible show Calls _ _ _ V2 _); refine (wnums_calls A1 c1 x.f1 HC1.out HX.out.2.1 HX.out.1.1 s2 HS2.out (by have := HLEN.out; omega)).mono ?_; rintro e V3 ⟨⟨u, rfl⟩, h1⟩; rw [← HE3.out] at h1; have HS3 := mk_ h1; have kx3 := blk_cell HS3.out.s2.blk; clear h1)
  | (go_at_call 69; (with_reducible show Calls _ _ _ V3 _); refine (wstamp_calls s3 x.f2 HS3.out (by have := HLEN.out; omega)).mono ?_; rintro e V4 ⟨⟨u, rfl⟩, h1⟩; rw [← HE4.out] at h1; have HS4 := mk_ h1; have kx4 := blk_cell HS4.out.s2.blk; clear h1)
  | (go_at_call 66; (with_reducible show Calls _ _ _ V4 _); refine (wnum_calls s4 x.f4 1 HS4.out (by have := HLEN.out; omega)).mono ?_; rintro e V5 ⟨⟨u, rfl⟩, h1⟩; rw [← HE5.out] at h1; have HS5 := mk_ h1; have kx5 := blk_cell HS5.out.s2.blk; clear h1)
  | (go_at_call 70; (with_reducible show Calls _ _ _ V5 _); refine (wtext_calls s5 x.f5 HS5.out (by have := HLEN.out; omega)).mono ?_; rintro e V6 ⟨⟨u, rfl⟩, h1⟩; rw [← HE6.out] at h1; have HS6 := mk_ h1; have kx6 := blk_cell HS6.out.s2.blk; clear h1)
  | (go_at_call 66; (with_reducible show Calls _ _ _ V6 _); refine (wnum_calls s6 x.f6 1 HS6.out (by have := HLEN.out; omega)).mono ?_; rintro e V7 ⟨⟨u, rfl⟩, h1⟩; rw [← HE7.out] at h1; have HS7 := mk_ h1; have kx7 := blk_cell HS7.out.s2.blk; clear h1)
  | (go_at_call 23; refine (PAll.row_Bytes.calls 1100 A7 c7 x.f7 rb re _ (C_below HC7.out HS7.out.s1.old) HX.out.2.2.1 HR.out).mono ?_; rintro e V8 ⟨v_, rfl, hr_, hq_⟩; obtain ⟨Ab, cb, rfl⟩ := R_slice hr_; have HS8 := mk_ (Sp.made HS7.out hq_ hr_).s1; clear hr_ hq_)
  | (go_at_call 71; refine (wadd_calls s7.1 s7.2 Ab cb rb re HS8.out (by have := HLEN.out; omega)).mono ?_; rintro e V9 ⟨⟨u, rfl⟩, h1⟩; rw [show ((s7.1, s7.2) : Wr) = s7 from rfl, ← HE8.out] at h1; have kx9 := blk_cell h1.s2.blk; obtain ⟨v9, h2⟩ := WrP.open h1; have k91 := blk_cell h2.blk 1; have f91 := blk_frozen h2.blk 1; have HS9 := mk_ h2; clear h1 h2)
  | (go_at_call 66; (with_reducible show Calls _ _ _ (World.setCell V9 _ _) _); refine (wnum_calls (b8, false) (x.f8.length : Int) 1 (WrP.shut (HS9.out.store 1 (.bool false))) (by have := HLEN.out; show b8.length ≤ _; omega)).mono ?_; rintro e V10 ⟨⟨u, rfl⟩, h1⟩; have HS10 := mk_ h1; have kx10 := blk_cell HS10.out.s2.blk; clear h1))
   go_loopg [62] (x.f8.length + 1) (fun kq v62 W' => ∃ (i : Nat), v62 = .int .i64 (i : Int) ∧ Aside0 (Sp W' (WrP g (wAll wDot (x.f8.take i) (wNum (x.f8.length : Int) 1 (b8, false))) :: Old w0 :: Blk w.heap.size (.cells #[.int .i64 x.f0.f0, .int .i64 x.f0.f1, .slice A1 x.f1.length c1, .int .i64 x.f2.f0, .int .i64 x.f2.f1, .int .i64 x.f2.f2, .int .i64 x.f3, .int .i64 x.f4, .string x.f5, .int .i64 x.f6, .slice A7 x.f7.length c7, .slice A8 x.f8.length c8] 32 (0, 0)) :: F)) ∧ Aside0 (kq + i = x.f8.length + 1 ∧ i ≤ x.f8.length))
   case atStart => exact ⟨0, rfl, ⟨HS10.out⟩, ⟨by omega⟩⟩
   case round =>
    obtain ⟨i, rfl, HA, HK⟩ := hrel
    obtain ⟨k1, rfl⟩ : ∃ k1, gk = k1 + 1 := ⟨gk - 1, by have := HK.out; omega⟩
    by_cases hi : i < x.f8.length
    ·
     obtain ⟨ad, hA, hx0, hx1⟩ := at_T25 (C_below HC8.out HA.out.s1.old) (i : Int) z4_ z4_
     cases hA
     rw [rd_T_get hi] at hx0 hx1
     rw [Int.toNat_natCast] at hx0 hx1
     have hb0 : (0 ≤ (i : Int)) = True := eq_true z4_
     have hb1 : ((i : Int) < (x.f8.length : Int)) = True := eq_true z4_
     have hb2 : decide ((i : Int) < (x.f8.length : Int)) = true := decide_eq_true z4_
     have hb3 : decide (i < x.f8.length) = true := decide_eq_true hi
     have HI2 := mk_ hi
     have HT := mk_ (take_snoc hi)
     generalize x.f8[i] = d at *
     clear hi
     have HD := mk_ (HA.out.box (.cells #[.int .i64 0, .int .i64 0] 25 (0, 0)))
     go_wp2_with (first | ((with_reducible refine gate_st (ty := 25) (x := .tmp 5) (y := .tmp 65) rfl ?_); refine wpList_store_row rfl 25 (.tmp 5) (.tmp 65) rfl wr.heap.size #[.int .i64 d.f0, .int .i64 d.f1] rfl rfl 25 #[.int .i64 0, .int .i64 0] HD.out.blk z0_ rfl (by first | decide | rfl | simp [Value.oneCell']) ?_; have HE := mk_ (sp_storeRow HD.out #[.int .i64 d.f0, .int .i64 d.f1]); have kd := blk_cell HE.out.blk) | (go_at_call 67; refine (wdot_calls _ d HE.out.tail (by have := HLEN.out; have h1 := wAll_len (f := wDot) (m := 14) wDot_len (x.f8.take i) (wNum (x.f8.length : Int) 1 (b8, false)); have h2 := wNum_len (x.f8.length : Int) 1 (b8, false); have h3 := HX.out.1.2.2; have h4 := List.length_take_le i x.f8; have h6 := HI2.out; have h5 : (b8, false).1.length = b8.length := rfl; omega)).mono ?_; rintro e W2 ⟨⟨u, rfl⟩, h1⟩; have HS11 := mk_ h1; clear h1))
     go_roundg k1
     case measure => exact Nat.lt_succ_self _
     case rel => exact ⟨i + 1, by rw [w64 z4_ (by have := HI2.out; have := HX.out.1.2.2; omega)]; rfl, ⟨by rw [HT.out, wAll_snoc]; exact HS11.out⟩, ⟨by have := HK.out; omega, by have := HI2.out; omega⟩⟩
    ·
     have hie : i = x.f8.length := by have := HK.out; omega
     have hb2 : decide ((i : Int) < (x.f8.length : Int)) = false := decide_eq_false z4_
     have hb3 : decide (i < x.f8.length) = false := decide_eq_false hi
     clear hi
     go_wp2
     go_end0
     refine ⟨⟨_, rfl⟩, ?_⟩
     have h := HA.out
     rw [hie, List.take_length] at h
     rw [HU2.out]
     exact (Sp.s2 h).tail
end
end Go.Proofs.Ytjnjfogfpmeacaa.Ops
end
section
namespace Go.Proofs.Ytjnjfogfpmeacaa.Ops
open Go.RowKit PAll Ops Plain PrintWords PrintLast PrintMore Go.Proofs.Ytjnjfogfpmeacaa.Sep ZipT PrintWords.Kd PrintMore.Kd
set_option linter.unusedVariables false
set_option linter.unusedSimpArgs false
section
variable {w : World}
theorem bytes_sp (x : Ox) (A1 A7 A8 : Option Addr) (c1 c7 c8 : Nat) (hC1 : Kd.C (Kd.int .i64) w A1 x.f1.length x.f1) (h1c : x.f1.length ≤ c1) (hC7 : Kd.C k84 w A7 x.f7.length x.f7) (h7c : x.f7.length ≤ c7) (hC8 : Kd.C k25 w A8 x.f8.length x.f8) (h8c : x.f8.length ≤ c8) (hx : opSmall x) :
  Calls Try.prog 16 #[.agg #[.int .i64 x.f0.f0, .int .i64 x.f0.f1, .slice A1 x.f1.length c1, .int .i64 x.f2.f0, .int .i64 x.f2.f1, .int .i64 x.f2.f2, .int .i64 x.f3, .int .i64 x.f4, .string x.f5, .int .i64 x.f6, .slice A7 x.f7.length c7, .slice A8 x.f8.length c8]] w fun e w' => ∃ v, e = .returned (.tuple #[v, .int .i64 (sOpBytes x).2]) ∧ Sp w' [Row (Kd.int .u8) 5 v (sOpBytes x).1, Old w] := by
 have h1 := (Sp.start w).box (.cells #[.int .i64 x.f0.f0, .int .i64 x.f0.f1, .slice A1 x.f1.length c1, .int .i64 x.f2.f0, .int .i64 x.f2.f1, .int .i64 x.f2.f2, .int .i64 x.f3, .int .i64 x.f4, .string x.f5, .int .i64 x.f6, .slice A7 x.f7.length c7, .slice A8 x.f8.length c8] 32 (0, 0))
 have h2 := h1.box (.cells #[.slice none 0 0, .bool false] 72 (0, 0))
 rw [show (w.alloc (.cells #[.int .i64 x.f0.f0, .int .i64 x.f0.f1, .slice A1 x.f1.length c1, .int .i64 x.f2.f0, .int .i64 x.f2.f1, .int .i64 x.f2.f2, .int .i64 x.f3, .int .i64 x.f4, .string x.f5, .int .i64 x.f6, .slice A7 x.f7.length c7, .slice A8 x.f8.length c8] 32 (0, 0))).heap.size = w.heap.size + 1 from Array.size_push _] at h2
 have h3 := WrP.shut (bs := []) (bad := false) (v := .slice none 0 0) (sp_nil (d := Kd.int .u8) (e := 5) h2).s1
 have hQ := wop_calls (w0 := w) x A1 A7 A8 c1 c7 c8 hC1 h1c hC7 h7c hC8 h8c hx ([], false) h3.s2.s1 (by show 0 ≤ _; omega)
 have hu : sOpBytes x = if (wOp x ([], false)).2 = true then ([], 1) else ((wOp x ([], false)).1, 0) := rfl
 rw [hu]
 clear h1 h2 h3 hC1 hC7 hC8 h1c h7c h8c hx hu
 generalize wOp x ([], false) = q at hQ ⊢
 obtain ⟨bs, bad⟩ := q
 have HQ := mk_ hQ
 clear hQ
 cases bad with
 | true =>
  rw [if_pos rfl]
  go_enter Try.func16, Try.ntmps16
  go_wp2_with (go_at_call 34; refine HQ.out.mono ?_; rintro e V ⟨⟨u, rfl⟩, h⟩; obtain ⟨v, h4⟩ := WrP.open h; obtain ⟨Av, cv, rfl, _, _⟩ := h4.tail.row; have k0 := blk_cell h4.blk 0; have k1 := blk_cell h4.blk 1; have HS := mk_ h4; clear h h4)
  go_ret2
  exact ⟨_, rfl, sp_nil HS.out.tail.tail.s1.tail⟩
 | false =>
  rw [if_neg (by show ¬ (false = true); decide)]
  go_enter Try.func16, Try.ntmps16
  go_wp2_with (go_at_call 34; refine HQ.out.mono ?_; rintro e V ⟨⟨u, rfl⟩, h⟩; obtain ⟨v, h4⟩ := WrP.open h; obtain ⟨Av, cv, rfl, _, _⟩ := h4.tail.row; have k0 := blk_cell h4.blk 0; have k1 := blk_cell h4.blk 1; have HS := mk_ h4; clear h h4)
  go_ret2
  exact ⟨_, rfl, HS.out.tail.s2.tail⟩
end
end Go.Proofs.Ytjnjfogfpmeacaa.Ops
end
section
namespace Go.Proofs.Ytjnjfogfpmeacaa.PAll
open Go.RowKit PAll Ops Plain PrintWords PrintLast PrintMore Go.Proofs.Ytjnjfogfpmeacaa.Sep ZipT PrintWords.Kd PrintMore.Kd
set_option linter.unusedVariables false
set_option linter.unusedSimpArgs false
def op_Bytes.f (a0_0 : Int) (a0_1 : Int) (l0_2 : List Int) (a0_3 : Int) (a0_4 : Int) (a0_5 : Int) (a0_6 : Int) (a0_7 : Int) (a0_8 : ByteArray) (a0_9 : Int) (l0_10 : List V) (l0_11 : List Dt) : Option (List Int × Int) := if opSmall (⟨⟨a0_0, a0_1⟩, l0_2, ⟨a0_3, a0_4, a0_5⟩, a0_6, a0_7, a0_8, a0_9, l0_10, l0_11⟩ : Ox) then some (sOpBytes (⟨⟨a0_0, a0_1⟩, l0_2, ⟨a0_3, a0_4, a0_5⟩, a0_6, a0_7, a0_8, a0_9, l0_10, l0_11⟩ : Ox)) else none
theorem op_Bytes.calls (a0_0 : Int) (a0_1 : Int) (A0_2 : Option Addr) (c0_2 : Nat) (l0_2 : List Int) (a0_3 : Int) (a0_4 : Int) (a0_5 : Int) (a0_6 : Int) (a0_7 : Int) (a0_8 : ByteArray) (a0_9 : Int) (A0_10 : Option Addr) (c0_10 : Nat) (l0_10 : List V) (A0_11 : Option Addr) (c0_11 : Nat) (l0_11 : List Dt) (r1 : List Int) (r2 : Int) (w : World) (hr0_2 : Kd.C (Kd.int .i64) w A0_2 l0_2.length l0_2) (hc0_2 : l0_2.length ≤ c0_2) (hr0_10 : Kd.C k84 w A0_10 l0_10.length l0_10) (hc0_10 : l0_10.length ≤ c0_10) (hr0_11 : Kd.C k25 w A0_11 l0_11.length l0_11) (hc0_11 : l0_11.length ≤ c0_11) (h : op_Bytes.f a0_0 a0_1 l0_2 a0_3 a0_4 a0_5 a0_6 a0_7 a0_8 a0_9 l0_10 l0_11 = some (r1, r2)) :
  Calls Try.prog 16 #[.agg #[.int .i64 a0_0, .int .i64 a0_1, .slice A0_2 l0_2.length c0_2, .int .i64 a0_3, .int .i64 a0_4, .int .i64 a0_5, .int .i64 a0_6, .int .i64 a0_7, .string a0_8, .int .i64 a0_9, .slice A0_10 l0_10.length c0_10, .slice A0_11 l0_11.length c0_11]] w fun e w' => ∃ v0_ : Value, e = .returned (.tuple #[v0_, .int .i64 r2]) ∧ Kd.R (Kd.int .u8) 5 w' w.heap.size (fun _ => True) v0_ r1 ∧ Below w.heap.size w w' := by
 unfold op_Bytes.f at h
 split at h
 ·
  rename_i hs
  have he := Option.some.inj h
  have hQ := bytes_sp (⟨⟨a0_0, a0_1⟩, l0_2, ⟨a0_3, a0_4, a0_5⟩, a0_6, a0_7, a0_8, a0_9, l0_10, l0_11⟩ : Ox) A0_2 A0_10 A0_11 c0_2 c0_10 c0_11 hr0_2 hc0_2 hr0_10 hc0_10 hr0_11 hc0_11 hs
  rw [he] at hQ
  refine hQ.mono ?_
  rintro e w' ⟨v, rfl, h1⟩
  exact ⟨v, rfl, Sp.rowOut (fun h => h) h1, h1.tail.old⟩
 ·
  cases h
instance (l : List Int) : Decidable (Bytes l) := by unfold Bytes Byte; infer_instance
def op_Read.f (l0 : List Int) (a1 : Int) : Option (Int × Int × List Int × Int × Int × Int × Int × Int × ByteArray × Int × List V × List Dt × Int × Int) := if Bytes l0 ∧ l0.length ≤ 1000000 then some ((sOpRead l0 a1).1.f0.f0, (sOpRead l0 a1).1.f0.f1, (sOpRead l0 a1).1.f1, (sOpRead l0 a1).1.f2.f0, (sOpRead l0 a1).1.f2.f1, (sOpRead l0 a1).1.f2.f2, (sOpRead l0 a1).1.f3, (sOpRead l0 a1).1.f4, (sOpRead l0 a1).1.f5, (sOpRead l0 a1).1.f6, (sOpRead l0 a1).1.f7, (sOpRead l0 a1).1.f8, (sOpRead l0 a1).2.1, (sOpRead l0 a1).2.2) else none
theorem op_Read.calls (A0 : Option Addr) (c0 : Nat) (l0 : List Int) (a1 : Int) (r1 : Int) (r2 : Int) (r3 : List Int) (r4 : Int) (r5 : Int) (r6 : Int) (r7 : Int) (r8 : Int) (r9 : ByteArray) (r10 : Int) (r11 : List V) (r12 : List Dt) (r13 : Int) (r14 : Int) (w : World) (hr0 : Kd.C (Kd.int .u8) w A0 l0.length l0) (hc0 : l0.length ≤ c0) (h : op_Read.f l0 a1 = some (r1, r2, r3, r4, r5, r6, r7, r8, r9, r10, r11, r12, r13, r14)) :
  Calls Try.prog 11 #[.slice A0 l0.length c0, .int .i64 a1] w fun e w' => ∃ v2_ v10_ v11_ : Value, e = .returned (.tuple #[.agg #[.int .i64 r1, .int .i64 r2, v2_, .int .i64 r4, .int .i64 r5, .int .i64 r6, .int .i64 r7, .int .i64 r8, .string r9, .int .i64 r10, v10_, v11_], .int .i64 r13, .int .i64 r14]) ∧ Kd.R (Kd.int .i64) 3 w' w.heap.size (fun _ => True) v2_ r3 ∧ Kd.R k84 84 w' w.heap.size (fun _ => True) v10_ r11 ∧ Kd.R k25 25 w' w.heap.size (fun _ => True) v11_ r12 ∧ Below w.heap.size w w' := by
 unfold op_Read.f at h
 split at h
 ·
  rename_i hs
  have he := Option.some.inj h
  simp only [Prod.mk.injEq] at he
  obtain ⟨rfl, rfl, rfl, rfl, rfl, rfl, rfl, rfl, rfl, rfl, rfl, rfl, rfl, rfl⟩ := he
  refine (read_sp hr0 hc0 hs.1 hs.2 a1).mono ?_
  rintro e w' ⟨v1, v7, v8, rfl, h1⟩
  exact ⟨v1, v7, v8, rfl, Sp.rowOut (fun h => h) h1.s1.tail.s1.tail, Sp.rowOut (fun h => h) h1.tail.s1.tail, Sp.rowOut (fun h => h) h1.tail.tail, h1.tail.tail.tail.old⟩
 ·
  cases h
end Go.Proofs.Ytjnjfogfpmeacaa.PAll
end
section
namespace Go.Proofs.Ytjnjfogfpmeacaa.Ops
open Go.RowKit PAll Plain PrintWords PrintMore ZipT PrintWords.Kd PrintMore.Kd
set_option linter.unusedVariables false
set_option linter.unusedSimpArgs false
abbrev Tb := S51
theorem rdB_drop {l : List Tb} {i : Nat} {v : Tb} {m : List Tb} (h : l.drop i = v :: m) : rd_T51 l (i : Int) = v := by
 show l.getD ((i : Int).toNat) _ = v
 rw [Int.toNat_natCast, List.getD_eq_getElem?_getD]
 have : l[i]? = (l.drop i)[0]? := by rw [List.getElem?_drop]; simp
 rw [this, h]; rfl
def formsE (f : List Tb) : Int :=
 if f.length < 1 ∨ f.length > 3 then 2 else if (f.any fun t => decide (t.f0.length < 1 ∨ t.f0.length > 4)) = true then 2
 else if (f.any fun t => t.f0.any fun c => decide (c < 2 ∨ c > 4)) = true then 10 else 0
def badLen (t : Tb) : Bool := decide (t.f0.length < 1 ∨ t.f0.length > 4)
def badType (c : Int) : Bool := decide (c < 2 ∨ c > 4)
theorem formsE_eq (f : List Tb) : formsE f = if f.length < 1 ∨ f.length > 3 then 2 else if f.any badLen = true then 2 else if (f.any fun t => t.f0.any badType) = true then 10 else 0 := rfl
theorem forms1_eq (t : Tb) : op_Forms_1.f t.f0 = some (badLen t) := by
 unfold op_Forms_1.f badLen
 by_cases h : (t.f0.length : Int) < 1
 ·
  rw [if_pos h, decide_eq_true z4_]
 rw [if_neg h]; congr 1; rw [decide_eq_decide]; omega
theorem forms2_eq (c : Int) : op_Forms_2.f c = some (badType c) := by
 unfold op_Forms_2.f badType
 by_cases h : c < 2
 ·
  rw [if_pos h, decide_eq_true (.inl h)]
 rw [if_neg h]; congr 1; rw [decide_eq_decide]; omega
theorem index1 (l : List Tb) (hl : l.length ≤ 1000000) (m : List Tb) : ∀ (k i : Nat), l.drop i = m → m.length < k →
  ∃ r, slices_IndexFunc_at_op_Forms_1.l0 k l (l.length : Int) (i : Int) = some r ∧ (r ≥ 0 ↔ m.any badLen = true) := by
 induction m with
 | nil =>
  intro k i h hk
  obtain ⟨k, rfl⟩ : ∃ j, k = j + 1 := ⟨k - 1, by omega⟩
  have := dropL_end h
  refine ⟨-1, ?_, by simp⟩
  simp only [slices_IndexFunc_at_op_Forms_1.l0]
  rw [if_neg z4_]
 | cons v m ih =>
  intro k i h hk
  obtain ⟨k, rfl⟩ : ∃ j, k = j + 1 := ⟨k - 1, by omega⟩
  have hi := dropL_lt h
  simp only [slices_IndexFunc_at_op_Forms_1.l0]
  rw [if_pos z4_, if_pos z4_, if_pos z4_, rdB_drop h, forms1_eq, Option.bind_some]
  cases ho : badLen v
  ·
   obtain ⟨r, h1, h2⟩ := ih k (i + 1) (dropL_tail h) (by simp at hk; omega)
   refine ⟨r, ?_, ?_⟩
   ·
    rw [if_neg z5_, w64 z4_ z4_]; exact h1
   ·
    rw [h2, List.any_cons, ho, Bool.false_or]
  ·
   refine ⟨i, ?_, ?_⟩
   ·
    rw [if_pos rfl]
   ·
    rw [List.any_cons, ho, Bool.true_or]; simp
theorem contains1 (k : Nat) (l : List Tb) (hl : l.length ≤ 1000000) (hk : l.length < k) : slices_ContainsFunc_at_op_Forms_1.f k l () = some (l.any badLen) := by
 obtain ⟨r, h1, h2⟩ := index1 l hl l k 0 rfl hk
 unfold slices_ContainsFunc_at_op_Forms_1.f slices_IndexFunc_at_op_Forms_1.f
 rw [show ((0 : Nat) : Int) = 0 from rfl] at h1
 rw [h1, Option.bind_some]
 congr 1
 cases hz : l.any badLen
 ·
  rw [hz] at h2; exact decide_eq_false (fun h => by simpa using h2.1 h)
 ·
  rw [hz] at h2; exact decide_eq_true (h2.2 rfl)
theorem index2 (l : List Int) (hl : l.length ≤ 1000000) (m : List Int) : ∀ (k i : Nat), l.drop i = m → m.length < k →
  ∃ r, slices_IndexFunc_at_op_Forms_2.l0 k l (l.length : Int) (i : Int) = some r ∧ (r ≥ 0 ↔ m.any badType = true) := by
 induction m with
 | nil =>
  intro k i h hk
  obtain ⟨k, rfl⟩ : ∃ j, k = j + 1 := ⟨k - 1, by omega⟩
  have := dropL_end h
  refine ⟨-1, ?_, by simp⟩
  simp only [slices_IndexFunc_at_op_Forms_2.l0]
  rw [if_neg z4_]
 | cons v m ih =>
  intro k i h hk
  obtain ⟨k, rfl⟩ : ∃ j, k = j + 1 := ⟨k - 1, by omega⟩
  have hi := dropL_lt h
  simp only [slices_IndexFunc_at_op_Forms_2.l0]
  rw [if_pos z4_, if_pos z4_, if_pos z4_, rd_drop h, forms2_eq, Option.bind_some]
  cases ho : badType v
  ·
   obtain ⟨r, h1, h2⟩ := ih k (i + 1) (dropL_tail h) (by simp at hk; omega)
   refine ⟨r, ?_, ?_⟩
   ·
    rw [if_neg z5_, w64 z4_ z4_]; exact h1
   ·
    rw [h2, List.any_cons, ho, Bool.false_or]
  ·
   refine ⟨i, ?_, ?_⟩
   ·
    rw [if_pos rfl]
   ·
    rw [List.any_cons, ho, Bool.true_or]; simp
theorem contains2 (k : Nat) (l : List Int) (hl : l.length ≤ 1000000) (hk : l.length < k) : slices_ContainsFunc_at_op_Forms_2.f k l () = some (l.any badType) := by
 obtain ⟨r, h1, h2⟩ := index2 l hl l k 0 rfl hk
 unfold slices_ContainsFunc_at_op_Forms_2.f slices_IndexFunc_at_op_Forms_2.f
 rw [show ((0 : Nat) : Int) = 0 from rfl] at h1
 rw [h1, Option.bind_some]
 congr 1
 cases hz : l.any badType
 ·
  rw [hz] at h2; exact decide_eq_false (fun h => by simpa using h2.1 h)
 ·
  rw [hz] at h2; exact decide_eq_true (h2.2 rfl)
theorem forms_l0 (l : List Tb) (hl : l.length ≤ 1000000) (hb : l.any badLen = false) (m : List Tb) : ∀ (k i : Nat), l.drop i = m → m.length + 5 < k →
  op_Forms.l0 k l (l.length : Int) (i : Int) = some (if (m.any fun t => t.f0.any badType) = true then 10 else 0) := by
 induction m with
 | nil =>
  intro k i h hk
  obtain ⟨k, rfl⟩ : ∃ j, k = j + 1 := ⟨k - 1, by omega⟩
  have := dropL_end h
  simp only [op_Forms.l0]
  rw [if_neg z4_]; rfl
 | cons v m ih =>
  intro k i h hk
  obtain ⟨k, rfl⟩ : ∃ j, k = j + 1 := ⟨k - 1, by omega⟩
  have hi := dropL_lt h
  have hv : v.f0.length ≤ 4 := by
   have hm : v ∈ l := List.mem_of_mem_drop (i := i) (by rw [h]; exact List.mem_cons_self)
   have := List.any_eq_false.1 hb v hm
   unfold badLen at this
   simp at this
   omega
  simp only [List.length_cons] at hk
  simp only [op_Forms.l0]
  rw [if_pos z4_, if_pos z4_, if_pos z4_, rdB_drop h, contains2 _ _ z4_ z4_, Option.bind_some, List.any_cons]
  cases ho : v.f0.any badType
  ·
   rw [if_neg z5_, w64 z4_ z4_, Bool.false_or]
   exact ih k (i + 1) (dropL_tail h) z4_
  ·
   rw [if_pos rfl, Bool.true_or, if_pos rfl]
theorem forms_eq (k : Nat) (f : List Tb) (hl : f.length ≤ 1000) (hk : f.length + 10 ≤ k) : op_Forms.f k f = some (formsE f) := by
 obtain ⟨k, rfl⟩ : ∃ j, k = j + 1 := ⟨k - 1, by omega⟩
 rw [formsE_eq]
 unfold op_Forms.f
 have hj : ∀ b : Bool, op_Forms.j0 (k + 1) f b = if b = true then some 2 else some (if f.any badLen = true then 2 else if (f.any fun t => t.f0.any badType) = true then 10 else 0) := fun b => by
  simp only [op_Forms.j0]
  cases b
  ·
   rw [if_neg z5_, if_neg z5_, contains1 _ _ z4_ z4_, Option.bind_some]
   cases hb : f.any badLen
   ·
    rw [if_neg z5_, if_neg z5_]
    exact forms_l0 f z4_ hb f k 0 rfl z4_
   ·
    rw [if_pos rfl, if_pos rfl]
  ·
   rfl
 rw [hj, hj]
 by_cases h1 : (f.length : Int) < 1
 ·
  rw [if_pos h1, if_pos rfl, if_pos z4_]
 rw [if_neg h1]
 by_cases h2 : (f.length : Int) > 3
 ·
  rw [decide_eq_true h2, if_pos rfl, if_pos z4_]
 rw [decide_eq_false h2, if_neg z5_, if_neg (show ¬ (f.length < 1 ∨ f.length > 3) by omega)]
end Go.Proofs.Ytjnjfogfpmeacaa.Ops
end
