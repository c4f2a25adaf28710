-- Put together by a program of this session (wip/slice2.py) out of the seat's texts.
import Derived.Test.YtcbfliajgopdaaaZLJp5
import Derived.Sort.Walk0
section
namespace Go.Proofs.Ytcbfliajgopdaaa.Plain
open Go.RowKit Go.Proofs.Ytcbfliajgopdaaa.PAll Go.Proofs.YtcbfliajgopdaaaW.PrintWords Go.Proofs.YtcbfliajgopdaaaW.PrintLast Go.Proofs.YtcbfliajgopdaaaW.PrintMore Go.Proofs.Ytcbfliajgopdaaa.ZipT Go.Proofs.YtcbfliajgopdaaaW.PrintWords.Kd Go.Proofs.YtcbfliajgopdaaaW.PrintMore.Kd
set_option linter.unusedVariables false
set_option linter.unusedSimpArgs false
theorem toList_nil (s : ByteArray) : s.toList = ([] : List UInt8) ↔ s.size = 0 := by
 rw [toList_data, show s.size = s.data.toList.length from by rw [Array.length_toList]; rfl]
 exact List.length_eq_zero_iff.symm
theorem toList_inj {s t : ByteArray} : s.toList = t.toList ↔ s = t := by
 rw [toList_data, toList_data]
 constructor
 ·
  intro h
  have : s.data = t.data := by rw [← Array.toList_inj]; exact h
  cases s; cases t; simp_all
 ·
  intro h; rw [h]
theorem size_zero {s : ByteArray} (h : s.size = 0) : s = ⟨#[]⟩ := by
 rw [← toList_inj, (toList_nil s).2 h]; exact ((toList_nil _).2 rfl).symm
def vOk (k i : Int) (s : ByteArray) : Prop :=
 (k = 1 ∧ i = 0 ∧ s.size = 0) ∨ (k = 2 ∧ (i = 0 ∨ i = 1) ∧ s.size = 0) ∨ (k = 3 ∧ (-1152921504606846976 ≤ i ∧ i ≤ 1152921504606846976) ∧ s.size = 0) ∨ (k = 4 ∧ i = 0 ∧ s.size ≤ 24)
instance (k i : Int) (s : ByteArray) : Decidable (vOk k i s) := by unfold vOk; infer_instance
theorem within_v (n m : Int) (h0 : 0 ≤ m) (h1 : m ≤ 9223372036854775807) : value_within.f n m = some (decide (-m ≤ n ∧ n ≤ m)) := by
 unfold value_within.f
 rw [w64 (x := -m) z2_ z2_]
 by_cases h : n ≥ -m
 ·
  rw [if_pos h]; congr 1; simp; omega
 ·
  rw [if_neg h]; congr 1; simp; omega
theorem check_eq (k i : Int) (s : ByteArray) : value_Check.f k i s = some (if vOk k i s then 0 else 1) := by
 unfold value_Check.f
 rw [within_v i 1152921504606846976 z2_ z2_]
 simp only [toList_nil, Option.bind_some, decide_eq_true_eq]
 by_cases ho : vOk k i s
 ·
  rw [if_pos ho]; unfold vOk at ho; repeat' split
  all_goals first | rfl | (exfalso; omega)
 ·
  rw [if_neg ho]; unfold vOk at ho; repeat' split
  all_goals first | rfl | (exfalso; omega)
theorem rvalue_eq (k i : Int) (s : ByteArray) : raddleref01_Value.f k i s = some (decide (vOk k i s)) := by
 unfold raddleref01_Value.f
 simp only [rin_eq, Option.bind_some, decide_eq_true_eq]
 have hn : (s.toList == ([] : List UInt8)) = decide (s.size = 0) := by
  by_cases h : s.size = 0
  ·
   rw [(toList_nil s).2 h, decide_eq_true h]; rfl
  ·
   rw [decide_eq_false h, beq_eq_false_iff_ne]; exact fun e => h ((toList_nil s).1 e)
 rw [hn]
 by_cases ho : vOk k i s
 ·
  rw [decide_eq_true ho]; unfold vOk at ho; repeat' split
  all_goals first | rfl | (exfalso; omega) | (congr 1; rw [decide_eq_true_eq]; omega)
 ·
  rw [decide_eq_false ho]; unfold vOk at ho; repeat' split
  all_goals first | rfl | (exfalso; omega) | (congr 1; rw [decide_eq_false_iff_not]; omega)
theorem keepValue_eq (k1 i1 : Int) (s1 : ByteArray) (k2 i2 : Int) (s2 : ByteArray) : raddlekeep_Value.f k1 i1 s1 k2 i2 s2 = some (decide (k1 = k2 ∧ i1 = i2 ∧ s1 = s2)) := by
 unfold raddlekeep_Value.f
 by_cases h1 : k1 = k2
 ·
  rw [if_pos h1]
  by_cases h2 : i1 = i2
  ·
   rw [if_pos h2]; congr 1
   by_cases h3 : s1 = s2
   ·
    simp [h1, h2, h3]
   ·
    rw [decide_eq_false (by simp [h3]), beq_eq_false_iff_ne]; exact fun e => h3 (toList_inj.1 e)
  ·
   rw [if_neg h2]; simp [h2]
 ·
  rw [if_neg h1]; simp [h1]
def vFits (k i : Int) (s : ByteArray) (t : Int) : Prop := (2 ≤ t ∧ t ≤ 4) ∧ vOk k i s ∧ (k = t ∨ k = 1)
instance (k i : Int) (s : ByteArray) (t : Int) : Decidable (vFits k i s t) := by unfold vFits; infer_instance
def vSmall (k i : Int) (s : ByteArray) : Prop := vOk k i s ∧ (k = 3 → -2147483648 ≤ i ∧ i ≤ 2147483648)
instance (k i : Int) (s : ByteArray) : Decidable (vSmall k i s) := by unfold vSmall; infer_instance
def sVB (k i : Int) (s : ByteArray) : List Int := if k = 2 then [2, i] else if k = 3 then 3 :: intB i else if k = 4 then 4 :: (s.size : Int) :: bytesOf s else [1]
theorem vbytes_eq (fuel : Nat) (k i : Int) (s : ByteArray) (hk : 30 ≤ fuel) : value_Bytes.f fuel k i s = some (if vOk k i s then (sVB k i s, 0) else ([], 1)) := by
 unfold value_Bytes.f
 rw [check_eq, Option.bind_some]
 by_cases ho : vOk k i s
 ·
  rw [if_pos ho, if_pos rfl, Option.bind_some]
  have ho' := ho
  unfold vOk at ho'
  unfold sVB
  by_cases h2 : k = 2
  ·
   rw [if_pos h2, if_pos h2, if_pos (by simp), if_pos ho]
   subst h2
   have : i % 256 = i := by omega
   simp [this]
  rw [if_neg h2, if_neg h2]
  by_cases h3 : k = 3
  ·
   rw [if_pos h3, if_pos h3, putInt_eq _ _ _ (by simp) z2_, Option.bind_some, if_pos ho]
   subst h3
   unfold sPutInt
   rw [if_pos z2_]
   simp
  rw [if_neg h3, if_neg h3]
  by_cases h4 : k = 4
  ·
   rw [if_pos h4, if_pos h4, putText_eq _ _ (by simp), Option.bind_some, if_pos ho]
   subst h4
   unfold sPutText
   rw [if_pos z2_]
   simp
  have h1 : k = 1 := by omega
  rw [if_neg h4, if_neg h4, if_pos ho, h1]
  rfl
 ·
  rw [if_neg ho, if_neg z5_, if_neg ho]
def bad (e : Int) : Int × Int × ByteArray × Int × Int := (0, 0, ⟨#[]⟩, 0, e)
def sVRead (l : List Int) (at_ : Int) : Int × Int × ByteArray × Int × Int :=
  if 0 ≤ at_ ∧ at_ ≤ l.length then
    (if at_ = l.length then bad 3
     else if rd l at_ = 1 then (1, 0, ⟨#[]⟩, at_ + 1, 0)
     else if rd l at_ = 2 then (if at_ + 1 < l.length ∧ rd l (at_ + 1) ≤ 1 then (2, rd l (at_ + 1), ⟨#[]⟩, at_ + 2, 0) else bad 3)
     else if rd l at_ = 3 then (if (sGetInt l (at_ + 1)).2.2 = 0 then (3, (sGetInt l (at_ + 1)).1, ⟨#[]⟩, (sGetInt l (at_ + 1)).2.1, 0) else bad 3)
     else if rd l at_ = 4 then (if (sGetText l (at_ + 1)).2.2 = 0 then (4, 0, (sGetText l (at_ + 1)).1, (sGetText l (at_ + 1)).2.1, 0) else bad 3)
     else bad 3)
  else bad 1
theorem sub_one {l : List Int} {i : Int} (h0 : 0 ≤ i) (h1 : i < l.length) : sub l i.toNat (i + 1).toNat = [rd l i] := by
 obtain ⟨j, rfl⟩ := Int.eq_ofNat_of_zero_le h0
 rw [Int.toNat_natCast, show ((j : Int) + 1).toNat = j + 1 from by omega, sub_cons z2_ z2_]
 have : sub l (j + 1) (j + 1) = [] := List.eq_nil_of_length_eq_zero (by rw [sub_length z2_]; omega)
 rw [this]
theorem sGet_one (l : List Int) (at_ : Int) : sGet l at_ 1 = if 0 ≤ at_ ∧ at_ ≤ l.length then (if at_ = l.length then (0, 0, 3) else (rd l at_, at_ + 1, 0)) else (0, 0, 1) := by
 unfold sGet
 by_cases h : 0 ≤ at_ ∧ at_ ≤ l.length
 ·
  rw [if_pos z2_, if_pos h]
  by_cases h2 : at_ = l.length
  ·
   rw [if_pos z2_, if_pos h2]
  ·
   rw [if_neg z2_, if_neg h2, sub_one z2_ z2_]
   simp [val]
 ·
  rw [if_neg z2_, if_neg h]
theorem sGet_next (l : List Int) (at_ : Int) (h : 0 ≤ at_ ∧ at_ ≤ l.length) (h2 : ¬ at_ = l.length) : sGet l (at_ + 1) 1 = if at_ + 1 = l.length then (0, 0, 3) else (rd l (at_ + 1), at_ + 1 + 1, 0) := by
 rw [sGet_one, if_pos z2_]
theorem getInt_bd {l : List Int} {at_ : Int} (h : (sGetInt l at_).2.2 = 0) : -1152921504606846976 ≤ (sGetInt l at_).1 ∧ (sGetInt l at_).1 ≤ 1152921504606846976 ∨ ¬ Bytes l := by
 by_cases hb : Bytes l
 ·
  left
  have hv := val_nonneg (sub l (at_ + 1).toNat (at_ + 9).toNat) 0 z2_ (sub_bytes hb _ _)
  unfold sGetInt at h ⊢
  split at h
  ·
   rename_i h1
   rw [if_pos h1]
   split at h
   ·
    simp at h
   ·
    rename_i h2
    rw [if_neg h2]
    split <;> simp only <;> omega
  ·
   simp at h
 ·
  exact .inr hb
theorem div_of {n p q : Int} (hp : 0 < p) (h0 : q * p ≤ n) (h1 : n < (q + 1) * p) : n / p = q := by
 have h2 : (q + 1) * p = q * p + p := by rw [Int.add_mul, Int.one_mul]
 exact ((Int.ediv_emod_unique (r := n - q * p) hp).2 ⟨by rw [Int.mul_comm p q]; omega, by omega, by omega⟩).1
theorem big_val (l : List Int) (hb : Bytes l) : big (val 0 l) l.length = l := by
 suffices ∀ a : Int, 0 ≤ a → big (val a l) l.length = l from this 0 z2_
 induction l with
 | nil => intro a _; rfl
 | cons b l ih =>
  intro a ha
  have hh := hb.head
  unfold Byte at hh
  have hv0 := val_ge l (a * 256 + b) z2_ hb.tail
  have hv1 := val_lt l (a * 256 + b) z2_ hb.tail
  rw [List.length_cons, big]
  show val (a * 256 + b) l / 256 ^ l.length % 256 :: big (val (a * 256 + b) l) l.length = _
  rw [div_of (pow_pos _) hv0 hv1, ih hb.tail _ z2_]
  congr 1
  omega
theorem getInt_sub {l : List Int} {at_ : Int} (hb : Bytes l) (h : (sGetInt l at_).2.2 = 0) : (sGetInt l at_).2.1 = at_ + 9 ∧ (0 ≤ at_ ∧ at_ + 9 ≤ l.length) ∧ intB (sGetInt l at_).1 = sub l at_.toNat (at_ + 9).toNat := by
 have hv := val_nonneg (sub l (at_ + 1).toNat (at_ + 9).toNat) 0 z2_ (sub_bytes hb _ _)
 have hr := hb.rd at_
 unfold Byte at hr
 unfold sGetInt at h ⊢
 by_cases h1 : 0 ≤ at_ ∧ at_ ≤ l.length
 rotate_left
 ·
  rw [if_neg h1] at h; simp at h
 rw [if_pos h1] at h ⊢
 by_cases h2 : l.length - at_ < 9 ∨ rd l at_ > 1 ∨ val 0 (sub l (at_ + 1).toNat (at_ + 9).toNat) > 1152921504606846976 ∨ (rd l at_ = 1 ∧ val 0 (sub l (at_ + 1).toNat (at_ + 9).toNat) = 0)
 ·
  rw [if_pos h2] at h; simp at h
 rw [if_neg h2]
 obtain ⟨i, rfl⟩ := Int.eq_ofNat_of_zero_le h1.1
 have hb8 : big (val 0 (sub l ((i : Int) + 1).toNat ((i : Int) + 9).toNat)) 8 = sub l ((i : Int) + 1).toNat ((i : Int) + 9).toNat := by
  have := big_val (sub l ((i : Int) + 1).toNat ((i : Int) + 9).toNat) (sub_bytes hb _ _)
  rw [sub_length z2_, show ((i : Int) + 9).toNat - ((i : Int) + 1).toNat = 8 from by omega] at this
  exact this
 have hc : sub l (i : Int).toNat ((i : Int) + 9).toNat = rd l (i : Int) :: sub l ((i : Int) + 1).toNat ((i : Int) + 9).toNat := by
  rw [Int.toNat_natCast, show ((i : Int) + 1).toNat = i + 1 from by omega, sub_cons z2_ z2_]
 rw [hc]
 by_cases h3 : rd l (i : Int) = 1
 ·
  rw [if_pos h3]
  refine ⟨rfl, by omega, ?_⟩
  unfold intB
  simp only
  rw [if_pos z2_, Int.neg_neg, hb8, h3]
 ·
  rw [if_neg h3]
  refine ⟨rfl, by omega, ?_⟩
  unfold intB
  simp only
  rw [if_neg z2_, hb8, show rd l (i : Int) = 0 from by omega]
theorem getText_sub {l : List Int} {at_ : Int} (hb : Bytes l) (h : (sGetText l at_).2.2 = 0) : (at_ + 1 ≤ (sGetText l at_).2.1 ∧ (sGetText l at_).2.1 ≤ l.length) ∧ 0 ≤ at_ ∧ ((sGetText l at_).1.size : Int) :: bytesOf (sGetText l at_).1 = sub l at_.toNat (sGetText l at_).2.1.toNat := by
 have hr := hb.rd at_
 unfold Byte at hr
 unfold sGetText at h ⊢
 by_cases h1 : 0 ≤ at_ ∧ at_ ≤ l.length
 rotate_left
 ·
  rw [if_neg h1] at h; simp at h
 rw [if_pos h1] at h ⊢
 by_cases h2 : at_ = l.length ∨ rd l at_ > 24 ∨ l.length - at_ - 1 < rd l at_
 ·
  rw [if_pos h2] at h; simp at h
 rw [if_neg h2]
 obtain ⟨i, rfl⟩ := Int.eq_ofNat_of_zero_le h1.1
 refine ⟨by simp only; omega, by omega, ?_⟩
 simp only
 rw [strOfNums_size, bytesOf_strOfNums (sub_bytes hb _ _), sub_length z2_, Int.toNat_natCast, show ((i : Int) + 1).toNat = i + 1 from by omega, sub_cons (i := i) z2_ z2_]
 congr 1
 omega
theorem getText_bd {l : List Int} {at_ : Int} (hb : Bytes l) (h : (sGetText l at_).2.2 = 0) : (sGetText l at_).1.size ≤ 24 := by
 have hr := hb.rd at_
 unfold Byte at hr
 unfold sGetText at h ⊢
 split at h
 ·
  rename_i h1
  rw [if_pos h1]
  split at h
  ·
   simp at h
  ·
   rename_i h2
   rw [if_neg h2]
   simp only
   rw [strOfNums_size, sub_length z2_]
   omega
 ·
  simp at h
theorem vread_eq (fuel : Nat) (l : List Int) (at_ : Int) (hb : Bytes l) (hl : l.length ≤ 1000000) (ha : at_ ≤ 9223372036854775807) (hk : 30 ≤ fuel) : value_Read.f fuel l at_ = some (sVRead l at_) := by
 unfold value_Read.f sVRead
 rw [get_eq _ _ _ _ hb hl ha z2_, Option.bind_some, sGet_one]
 by_cases h : 0 ≤ at_ ∧ at_ ≤ l.length
 rotate_left
 ·
  rw [if_neg h, if_neg h, if_neg z5_]; rfl
 rw [if_pos h, if_pos h]
 by_cases h2 : at_ = l.length
 ·
  rw [if_pos h2, if_pos h2, if_neg z5_]; rfl
 have hr := hb.rd at_
 unfold Byte at hr
 rw [if_neg h2, if_neg h2, if_pos rfl]
 simp only
 by_cases k2 : rd l at_ = 2
 ·
  rw [if_pos k2, if_neg z2_, if_pos k2, get_eq _ _ _ _ hb hl z2_ z2_, Option.bind_some, sGet_next _ _ h h2]
  have hr1 := hb.rd (at_ + 1)
  unfold Byte at hr1
  by_cases h3 : at_ + 1 = l.length
  ·
   rw [if_pos h3]
   simp only
   rw [if_neg (show ¬ ((3 : Int) = 0) by decide), if_neg z2_]; rfl
  ·
   rw [if_neg h3]
   simp only
   rw [if_pos trivial, check_eq, Option.bind_some, k2]
   by_cases h4 : rd l (at_ + 1) ≤ 1
   ·
    rw [if_pos (show vOk 2 (rd l (at_ + 1)) ⟨#[]⟩ from .inr (.inl ⟨rfl, by omega, rfl⟩)), if_pos rfl, if_pos z2_, show at_ + 1 + 1 = at_ + 2 from by omega]
   ·
    rw [if_neg (show ¬ vOk 2 (rd l (at_ + 1)) ⟨#[]⟩ from by unfold vOk; omega), if_neg z5_, if_neg z2_]; rfl
 rw [if_neg k2]
 by_cases k3 : rd l at_ = 3
 ·
  rw [if_pos k3, if_neg z2_, if_neg k2, if_pos k3, getInt_eq _ _ _ hb hl z2_ z2_, Option.bind_some, k3]
  by_cases h4 : (sGetInt l (at_ + 1)).2.2 = 0
  ·
   have := (getInt_bd h4).resolve_right (fun h => h hb)
   rw [if_pos h4, if_pos h4, check_eq, Option.bind_some, if_pos (show vOk 3 _ ⟨#[]⟩ from .inr (.inr (.inl ⟨rfl, this, rfl⟩))), if_pos rfl]
  ·
   rw [if_neg h4, if_neg h4]; rfl
 rw [if_neg k3]
 by_cases k4 : rd l at_ = 4
 ·
  rw [if_pos k4, if_neg z2_, if_neg k2, if_neg k3, if_pos k4, getText_eq _ _ _ hb hl z2_ z2_, Option.bind_some, k4]
  by_cases h4 : (sGetText l (at_ + 1)).2.2 = 0
  ·
   have := getText_bd hb h4
   rw [if_pos h4, if_pos h4, check_eq, Option.bind_some, if_pos (show vOk 4 0 _ from .inr (.inr (.inr ⟨rfl, rfl, this⟩))), if_pos rfl]
  ·
   rw [if_neg h4, if_neg h4]; rfl
 rw [if_neg k4, check_eq, Option.bind_some, if_neg k2, if_neg k3, if_neg k4]
 by_cases k1 : rd l at_ = 1
 ·
  rw [if_pos k1, k1, if_pos (show vOk 1 0 ⟨#[]⟩ from .inl ⟨rfl, rfl, rfl⟩), if_pos rfl]
 ·
  rw [if_neg k1, if_neg (by unfold vOk; omega)]; rfl
theorem len_one (a : List Int) (x : Int) : ((a ++ [x]).length : Int) = (a.length : Int) + 1 := by simp
theorem vread_put (a c : List Int) (k i : Int) (s : ByteArray) (ho : vOk k i s) : sVRead (a ++ sVB k i s ++ c) a.length = (k, i, s, (a.length : Int) + (sVB k i s).length, 0) := by
 unfold vOk at ho
 unfold sVRead
 by_cases h2 : k = 2
 ·
  subst h2
  have hs := size_zero (s := s) z2_
  have e : sVB 2 i s = [2, i] := rfl
  have hl : (a ++ sVB 2 i s ++ c).length = a.length + 2 + c.length := by rw [e]; simp; omega
  have r0 : rd (a ++ sVB 2 i s ++ c) (a.length : Int) = 2 := by rw [e, List.append_assoc]; exact rd_mid _ _ _ rfl
  have r1 : rd (a ++ sVB 2 i s ++ c) ((a.length : Int) + 1) = i := by
   have : a ++ sVB 2 i s ++ c = (a ++ [2]) ++ i :: c := by rw [e]; simp
   rw [this]; exact rd_mid _ _ _ (by simp)
  rw [if_pos z2_, if_neg z2_, r0, if_neg z5_, if_pos rfl, r1, if_pos z2_, hs]
  rfl
 by_cases h3 : k = 3
 ·
  subst h3
  have hs := size_zero (s := s) z2_
  have e : sVB 3 i s = 3 :: intB i := rfl
  have hl : (a ++ sVB 3 i s ++ c).length = a.length + 10 + c.length := by rw [e]; simp [intB_length]; omega
  have r0 : rd (a ++ sVB 3 i s ++ c) (a.length : Int) = 3 := by rw [e, List.append_assoc]; exact rd_mid _ _ _ rfl
  have g := getInt_put (a ++ [3]) c i z2_ z2_
  rw [show a ++ [3] ++ intB i ++ c = a ++ sVB 3 i s ++ c from by rw [e]; simp, len_one a 3] at g
  rw [if_pos z2_, if_neg z2_, r0, if_neg z5_, if_neg z5_, if_pos rfl, g, if_pos rfl, hs, show sVB 3 i ⟨#[]⟩ = 3 :: intB i from rfl, List.length_cons, intB_length]
  simp only [Prod.mk.injEq, true_and, and_true]
  omega
 by_cases h4 : k = 4
 ·
  subst h4
  have hi : i = 0 := by omega
  have e : sVB 4 i s = 4 :: (s.size : Int) :: bytesOf s := rfl
  have hl : (a ++ sVB 4 i s ++ c).length = a.length + 2 + s.size + c.length := by rw [e]; simp [bytesOf_length]; omega
  have r0 : rd (a ++ sVB 4 i s ++ c) (a.length : Int) = 4 := by rw [e, List.append_assoc]; exact rd_mid _ _ _ rfl
  have g := getText_put (a ++ [4]) c s z2_
  rw [show a ++ [4] ++ (s.size : Int) :: bytesOf s ++ c = a ++ sVB 4 i s ++ c from by rw [e]; simp, len_one a 4] at g
  rw [if_pos z2_, if_neg z2_, r0, if_neg z5_, if_neg z5_, if_neg z5_, if_pos rfl, g, if_pos rfl, hi, show sVB 4 0 s = 4 :: (s.size : Int) :: bytesOf s from rfl, List.length_cons, List.length_cons, bytesOf_length]
  simp only [Prod.mk.injEq, true_and, and_true]
  omega
 have h1 : k = 1 := by omega
 subst h1
 have hs := size_zero (s := s) z2_
 have hi : i = 0 := by omega
 have e : sVB 1 i s = [1] := rfl
 have hl : (a ++ sVB 1 i s ++ c).length = a.length + 1 + c.length := by rw [e]; simp; omega
 have r0 : rd (a ++ sVB 1 i s ++ c) (a.length : Int) = 1 := by rw [e, List.append_assoc]; exact rd_mid _ _ _ rfl
 rw [if_pos z2_, if_neg z2_, r0, if_pos rfl, hs, hi]
 rfl
theorem vread_sub {l : List Int} {at_ : Int} (hb : Bytes l) (h : (sVRead l at_).2.2.2.2 = 0) :
  vOk (sVRead l at_).1 (sVRead l at_).2.1 (sVRead l at_).2.2.1 ∧ 0 ≤ at_ ∧ at_ ≤ (sVRead l at_).2.2.2.1 ∧ (sVRead l at_).2.2.2.1 ≤ l.length ∧
  sVB (sVRead l at_).1 (sVRead l at_).2.1 (sVRead l at_).2.2.1 = sub l at_.toNat (sVRead l at_).2.2.2.1.toNat := by
 by_cases h1 : 0 ≤ at_ ∧ at_ ≤ l.length
 rotate_left
 ·
  unfold sVRead at h; rw [if_neg h1] at h; simp [bad] at h
 by_cases h2 : at_ = l.length
 ·
  unfold sVRead at h; rw [if_pos h1, if_pos h2] at h; simp [bad] at h
 have hr := hb.rd at_
 unfold Byte at hr
 obtain ⟨i, rfl⟩ := Int.eq_ofNat_of_zero_le h1.1
 have c1 : ∀ j, i < j → j ≤ l.length → sub l i j = rd l (i : Int) :: sub l (i + 1) j := fun j a b => sub_cons a b
 by_cases k1 : rd l (i : Int) = 1
 ·
  have e : sVRead l i = (1, 0, ⟨#[]⟩, (i : Int) + 1, 0) := by unfold sVRead; rw [if_pos h1, if_neg h2, if_pos k1]
  rw [e]
  refine ⟨.inl ⟨rfl, rfl, rfl⟩, by omega, by simp only; omega, by simp only; omega, ?_⟩
  simp only
  rw [show ((i : Int) + 1).toNat = i + 1 from by omega, Int.toNat_natCast, c1 _ z2_ z2_, k1]
  have : sub l (i + 1) (i + 1) = [] := List.eq_nil_of_length_eq_zero (by rw [sub_length z2_]; omega)
  rw [this]; rfl
 by_cases k2 : rd l (i : Int) = 2
 ·
  have hr1 := hb.rd ((i : Int) + 1)
  unfold Byte at hr1
  by_cases h3 : (i : Int) + 1 < l.length ∧ rd l ((i : Int) + 1) ≤ 1
  rotate_left
  ·
   unfold sVRead at h; rw [if_pos h1, if_neg h2, if_neg k1, if_pos k2, if_neg h3] at h; simp [bad] at h
  have e : sVRead l i = (2, rd l ((i : Int) + 1), ⟨#[]⟩, (i : Int) + 2, 0) := by unfold sVRead; rw [if_pos h1, if_neg h2, if_neg k1, if_pos k2, if_pos h3]
  rw [e]
  refine ⟨.inr (.inl ⟨rfl, by simp only; omega, rfl⟩), by omega, by simp only; omega, by simp only; omega, ?_⟩
  simp only
  rw [show ((i : Int) + 2).toNat = i + 2 from by omega, Int.toNat_natCast, c1 _ z2_ z2_, k2, sub_cons z2_ z2_]
  have : sub l (i + 1 + 1) (i + 2) = [] := List.eq_nil_of_length_eq_zero (by rw [sub_length z2_]; omega)
  rw [this]; rfl
 by_cases k3 : rd l (i : Int) = 3
 ·
  by_cases h3 : (sGetInt l ((i : Int) + 1)).2.2 = 0
  rotate_left
  ·
   unfold sVRead at h; rw [if_pos h1, if_neg h2, if_neg k1, if_neg k2, if_pos k3, if_neg h3] at h; simp [bad] at h
  have e : sVRead l i = (3, (sGetInt l ((i : Int) + 1)).1, ⟨#[]⟩, (sGetInt l ((i : Int) + 1)).2.1, 0) := by unfold sVRead; rw [if_pos h1, if_neg h2, if_neg k1, if_neg k2, if_pos k3, if_pos h3]
  have hbd := (getInt_bd h3).resolve_right (fun h => h hb)
  obtain ⟨g1, g2, g3⟩ := getInt_sub hb h3
  rw [e]
  refine ⟨.inr (.inr (.inl ⟨rfl, hbd, rfl⟩)), by omega, by simp only; omega, by simp only; omega, ?_⟩
  simp only
  rw [g1, show ((i : Int) + 1 + 9).toNat = i + 10 from by omega, Int.toNat_natCast, c1 _ z2_ z2_, k3]
  rw [show ((i : Int) + 1).toNat = i + 1 from by omega, show ((i : Int) + 1 + 9).toNat = i + 10 from by omega] at g3
  rw [← g3]; rfl
 by_cases k4 : rd l (i : Int) = 4
 ·
  by_cases h3 : (sGetText l ((i : Int) + 1)).2.2 = 0
  rotate_left
  ·
   unfold sVRead at h; rw [if_pos h1, if_neg h2, if_neg k1, if_neg k2, if_neg k3, if_pos k4, if_neg h3] at h; simp [bad] at h
  have e : sVRead l i = (4, 0, (sGetText l ((i : Int) + 1)).1, (sGetText l ((i : Int) + 1)).2.1, 0) := by unfold sVRead; rw [if_pos h1, if_neg h2, if_neg k1, if_neg k2, if_neg k3, if_pos k4, if_pos h3]
  have hbd := getText_bd hb h3
  obtain ⟨g1, g2, g3⟩ := getText_sub hb h3
  rw [e]
  refine ⟨.inr (.inr (.inr ⟨rfl, rfl, hbd⟩)), by omega, by simp only; omega, by simp only; omega, ?_⟩
  simp only
  rw [show ((i : Int) + 1).toNat = i + 1 from by omega] at g3
  rw [Int.toNat_natCast, c1 _ z2_ z2_, k4, ← g3]; rfl
 ·
  unfold sVRead at h; rw [if_pos h1, if_neg h2, if_neg k1, if_neg k2, if_neg k3, if_neg k4] at h; simp [bad] at h
theorem sVB_bytes {k i : Int} {s : ByteArray} (ho : vOk k i s) : Bytes (sVB k i s) := by
 unfold vOk at ho
 unfold sVB
 repeat' split
 ·
  exact Bytes.cons ⟨by decide, by decide⟩ (Bytes.cons ⟨by omega, by omega⟩ Bytes.nil)
 ·
  exact Bytes.cons ⟨by decide, by decide⟩ (intB_bytes _)
 ·
  exact Bytes.cons ⟨by decide, by decide⟩ (Bytes.cons ⟨by omega, by omega⟩ (bytesOf_bytes _))
 ·
  exact Bytes.cons ⟨by decide, by decide⟩ Bytes.nil
theorem sVB_length {k i : Int} {s : ByteArray} (ho : vOk k i s) : (sVB k i s).length = if k = 2 then 2 else if k = 3 then 10 else if k = 4 then 2 + s.size else 1 := by
 unfold sVB
 repeat' split
 all_goals simp [intB_length, bytesOf_length]
 omega
end Go.Proofs.Ytcbfliajgopdaaa.Plain
end
section
namespace Go.Proofs.Ytcbfliajgopdaaa.Plain
open Go.RowKit Go.Proofs.Ytcbfliajgopdaaa.PAll Go.Proofs.YtcbfliajgopdaaaW.PrintWords Go.Proofs.YtcbfliajgopdaaaW.PrintLast Go.Proofs.YtcbfliajgopdaaaW.PrintMore Go.Proofs.Ytcbfliajgopdaaa.ZipT Go.Proofs.YtcbfliajgopdaaaW.PrintWords.Kd Go.Proofs.YtcbfliajgopdaaaW.PrintMore.Kd
set_option linter.unusedVariables false
set_option linter.unusedSimpArgs false
def isLong (v : S89) : Bool := decide ((v.f2.size : Int) > 300)
theorem long_l0 (l : List S89) (hl : l.length ≤ 1000000) (m : List S89) : ∀ (k i : Nat), l.drop i = m → m.length < k → raddlelaw03_Long.l0 k l (i : Int) = some (m.any isLong) := by
 induction m with
 | nil =>
  intro k i h hk
  obtain ⟨k, rfl⟩ : ∃ j, k = j + 1 := ⟨k - 1, by simp at hk; omega⟩
  have := List.drop_eq_nil_iff.1 h
  simp only [raddlelaw03_Long.l0]
  rw [if_neg z2_]; rfl
 | cons v m ih =>
  intro k i h hk
  obtain ⟨k, rfl⟩ : ∃ j, k = j + 1 := ⟨k - 1, by simp at hk; omega⟩
  have hi : i < l.length := by
   rcases Nat.lt_or_ge i l.length with h1 | h1
   ·
    exact h1
   ·
    rw [List.drop_eq_nil_iff.2 h1] at h; cases h
  have hr : rd_T89 l (i : Int) = v := by
   show l.getD ((i : Int).toNat) _ = v
   rw [Int.toNat_natCast, List.getD_eq_getElem?_getD]
   have : l[i]? = (l.drop i)[0]? := by rw [List.getElem?_drop]; simp
   rw [this, h]; rfl
  have ht : l.drop (i + 1) = m := by rw [← List.drop_drop, h]; rfl
  have := ih k (i + 1) ht (by simp at hk; omega)
  simp only [raddlelaw03_Long.l0]
  rw [if_pos z2_, if_pos z2_, hr, w64 z2_ z2_, show ((i : Int) + 1) = ((i + 1 : Nat) : Int) from rfl, this]
  by_cases hv : (v.f2.size : Int) > 300
  ·
   rw [if_pos hv]; simp [isLong, hv]
  ·
   rw [if_neg hv]; simp [isLong, hv]
theorem long_eq (k : Nat) (l : List S89) (hl : l.length ≤ 1000000) (hk : l.length + 1 ≤ k) : raddlelaw03_Long.f k l = some (l.any isLong) := by
 unfold raddlelaw03_Long.f
 have := long_l0 l hl l k 0 rfl z2_
 simpa using this
end Go.Proofs.Ytcbfliajgopdaaa.Plain
end
section
namespace Go.Proofs.Ytcbfliajgopdaaa.PAll
open Go.RowKit Go.Proofs.YtcbfliajgopdaaaW.PrintWords Go.Proofs.YtcbfliajgopdaaaW.PrintLast Go.Proofs.YtcbfliajgopdaaaW.PrintMore Go.Proofs.Ytcbfliajgopdaaa.ZipT Go.Proofs.YtcbfliajgopdaaaW.PrintWords.Kd Go.Proofs.YtcbfliajgopdaaaW.PrintMore.Kd
attribute [local go_sem] max2_int min2_int max_two min_two max_three min_three max_four min_four   -- for this text's walks alone
set_option linter.unusedVariables false
set_option linter.unusedSimpArgs false
def raddleref01_Row.l0 : Nat → List (S89) → Int → Option (Int)
 | 0, _, _ => none
 | k + 1, x0, x3 => if x3 < (x0.length : Int) then (if 0 ≤ x3 then ((raddleref01_Value.f ((rd_T89 x0 x3).f0) ((rd_T89 x0 x3).f1) ((rd_T89 x0 x3).f2)).bind fun t335 => (if t335 = true then (raddleref01_Row.l0 k x0 (wrap64 (x3 + 1))) else (some 1))) else (none)) else (some 0)
def raddleref01_Row.f (k : Nat) (l0 : List (S89)) : Option (Int) := if (l0.length : Int) > 12 then (some 2) else (raddleref01_Row.l0 k l0 0)
set_option maxHeartbeats 8000000 in
set_option maxRecDepth 100000 in
theorem raddleref01_Row.calls (k : Nat) (A0 : Option Addr) (c0 : Nat) (l0 : List (S89)) (r : Int) (w : World) (hr0 : Kd.C k89 w A0 l0.length l0) (hc0 : l0.length ≤ c0) (h : raddleref01_Row.f k l0 = some r) :
  Calls Try.prog 57 #[.slice A0 l0.length c0] w fun e w' => e = .returned (.int .i64 r) ∧ Below w.heap.size w w' := by
 have hu89 := Try.underlying89
 have HR0 := mk_ hr0
 have HC0 := mk_ hc0
 clear hr0 hc0
 have HB := mk_ (Below.refl w.heap.size w)
 have H : (if (l0.length : Int) > 12 then (some 2) else (raddleref01_Row.l0 k l0 0)) = some r := h
 clear h
 by_cases c2 : (l0.length : Int) > 12
 ·
  rw [if_pos c2] at H
  have c2b0 : decide (12 < (l0.length : Int)) = true := decide_eq_true c2
  have c2b1 : decide (12 < l0.length) = true := decide_eq_true z2_
  clear c2
  obtain rfl := Option.some.inj H
  go_enter Try.func57, Try.ntmps57
  go_wp2
  go_ret
  exact ⟨by first | rfl | (simp [errW_none, errW_some] <;> rfl) | (simp [*, errW_none, errW_some] <;> rfl), Short.hB HB⟩
 ·
  rw [if_neg c2] at H
  have c2b0 : decide (12 < (l0.length : Int)) = false := decide_eq_false c2
  have c2b1 : decide (12 < l0.length) = false := decide_eq_false z2_
  clear c2
  have H' := mk_ H
  clear H
  go_enter Try.func57, Try.ntmps57
  go_wp2
  go_loopg [3] k (fun kq v3 w' => ∃ (x3_1 : Int), v3 = .int .i64 x3_1 ∧ Aside0 (raddleref01_Row.l0 kq l0 x3_1 = some r) ∧ Aside0 (kq ≤ k) ∧ Aside0 (Below w.heap.size w w'))
  case atStart => exact ⟨(0), z3_, H', ⟨Nat.le_refl _⟩, ⟨Short.hB HB⟩⟩
  case round =>
   clear H'
   try clear c2
   try clear c2b0
   try clear c2b1
   try clear p2
   obtain ⟨x3_1, rfl, HA, HK1, HB⟩ := hrel
   cases gk with
   | zero => exact absurd HA.out (by simp [raddleref01_Row.l0])
   | succ k1 =>
    have H := HA.out
    clear HA
    simp only [raddleref01_Row.l0] at H
    by_cases c3 : x3_1 < (l0.length : Int)
    ·
     rw [if_pos c3] at H
     have c3b0 : decide (x3_1 < (l0.length : Int)) = true := decide_eq_true c3
     clear c3
     by_cases c4 : 0 ≤ x3_1
     ·
      rw [if_pos c4] at H
      have c4b0 : decide (0 ≤ x3_1) = true := decide_eq_true c4
      clear c4
      replace H := Option.bind_eq_some_iff.mp H
      obtain ⟨t335, A50, H⟩ := H
      replace H : (if t335 = true then (raddleref01_Row.l0 k1 l0 (wrap64 (x3_1 + 1))) else (some 1)) = some r := H
      have A5 := mk_ A50
      clear A50
      by_cases c6 : t335 = true
      ·
       subst c6
       have H1 : (raddleref01_Row.l0 k1 l0 (wrap64 (x3_1 + 1))) = some r := by rw [if_pos rfl] at H; exact H
       clear H
       have H := H1
       clear H1
       have H' := mk_ H
       clear H
       have p334 : 0 ≤ (x3_1 : Int) := of_decide_eq_true z0_
       have q334 : x3_1 < (l0.length : Int) := of_decide_eq_true z0_
       obtain ⟨ad334, e334, hx334_0, hx334_1, hx334_2⟩ := at_T89 HR0.out x3_1 p334 q334
       cases e334
       replace hx334_0 := (HB.out.cell (World.block_lt_of_cell? w _ hx334_0)).trans hx334_0
       replace hx334_1 := (HB.out.cell (World.block_lt_of_cell? w _ hx334_1)).trans hx334_1
       replace hx334_2 := (HB.out.cell (World.block_lt_of_cell? w _ hx334_2)).trans hx334_2
       replace p334 := eq_true p334
       replace q334 := eq_true q334
       go_wp2_with (first | ((with_reducible refine gate_callee (f := 92) rfl ?_); refine Short.gL (some 17) Try.func92 #[.agg #[.int .i64 ((rd_T89 l0 x3_1).f0), .int .i64 ((rd_T89 l0 x3_1).f1), .string ((rd_T89 l0 x3_1).f2)]] (h := ?_); (with_reducible refine (raddleref01_Value.calls ((rd_T89 l0 x3_1).f0) ((rd_T89 l0 x3_1).f1) ((rd_T89 l0 x3_1).f2) true _ A5.out).mono ?_); rintro e w7 ⟨rfl, hb⟩; refine ⟨_, rfl, ?_⟩; have n0_ := mk_ (below_step (Short.hB HB) hb); clear HB; revert n0_; intro HB; (try clear hb)))
       go_roundg k1
       case measure => have := HK1.out; omega
       case rel => exact ⟨(wrap64 (x3_1 + 1)), z3_, H', ⟨by have := HK1.out; omega⟩, ⟨Short.hB HB⟩⟩
      ·
       replace c6 := Bool.eq_false_iff.mpr c6
       subst c6
       have H1 : (some 1) = some r := by rw [if_neg (show ¬ (false = true) by decide)] at H; exact H
       clear H
       have H := H1
       clear H1
       obtain rfl := Option.some.inj H
       have p334 : 0 ≤ (x3_1 : Int) := of_decide_eq_true z0_
       have q334 : x3_1 < (l0.length : Int) := of_decide_eq_true z0_
       obtain ⟨ad334, e334, hx334_0, hx334_1, hx334_2⟩ := at_T89 HR0.out x3_1 p334 q334
       cases e334
       replace hx334_0 := (HB.out.cell (World.block_lt_of_cell? w _ hx334_0)).trans hx334_0
       replace hx334_1 := (HB.out.cell (World.block_lt_of_cell? w _ hx334_1)).trans hx334_1
       replace hx334_2 := (HB.out.cell (World.block_lt_of_cell? w _ hx334_2)).trans hx334_2
       replace p334 := eq_true p334
       replace q334 := eq_true q334
       go_wp2_with (first | ((with_reducible refine gate_callee (f := 92) rfl ?_); refine Short.gL (some 17) Try.func92 #[.agg #[.int .i64 ((rd_T89 l0 x3_1).f0), .int .i64 ((rd_T89 l0 x3_1).f1), .string ((rd_T89 l0 x3_1).f2)]] (h := ?_); (with_reducible refine (raddleref01_Value.calls ((rd_T89 l0 x3_1).f0) ((rd_T89 l0 x3_1).f1) ((rd_T89 l0 x3_1).f2) false _ A5.out).mono ?_); rintro e w8 ⟨rfl, hb⟩; refine ⟨_, rfl, ?_⟩; have n0_ := mk_ (below_step (Short.hB HB) hb); clear HB; revert n0_; intro HB; (try clear hb)))
       go_ret
       exact ⟨by first | rfl | (simp [errW_none, errW_some] <;> rfl) | (simp [*, errW_none, errW_some] <;> rfl), Short.hB HB⟩
     ·
      rw [if_neg c4] at H
      exact absurd H (by simp)
    ·
     rw [if_neg c3] at H
     have c3b0 : decide (x3_1 < (l0.length : Int)) = false := decide_eq_false c3
     clear c3
     obtain rfl := Option.some.inj H
     go_wp2
     go_ret
     exact ⟨by first | rfl | (simp [errW_none, errW_some] <;> rfl) | (simp [*, errW_none, errW_some] <;> rfl), Short.hB HB⟩
def raddlekeep_Ops.l0 : Nat → List (S54) → List (S54) → Int → Option (Bool)
 | 0, _, _, _ => none
 | k + 1, x0, x1, x5 => if x5 < (x0.length : Int) then (if 0 ≤ x5 then (if x5 < (x1.length : Int) then ((raddlekeep_Op.f k ((rd_T54 x0 x5).f0.f0) ((rd_T54 x0 x5).f0.f1) ((rd_T54 x0 x5).f1) ((rd_T54 x0 x5).f2.f0) ((rd_T54 x0 x5).f2.f1) ((rd_T54 x0 x5).f2.f2) ((rd_T54 x0 x5).f3) ((rd_T54 x0 x5).f4) ((rd_T54 x0 x5).f5) ((rd_T54 x0 x5).f6) ((rd_T54 x0 x5).f7) ((rd_T54 x0 x5).f8) ((rd_T54 x1 x5).f0.f0) ((rd_T54 x1 x5).f0.f1) ((rd_T54 x1 x5).f1) ((rd_T54 x1 x5).f2.f0) ((rd_T54 x1 x5).f2.f1) ((rd_T54 x1 x5).f2.f2) ((rd_T54 x1 x5).f3) ((rd_T54 x1 x5).f4) ((rd_T54 x1 x5).f5) ((rd_T54 x1 x5).f6) ((rd_T54 x1 x5).f7) ((rd_T54 x1 x5).f8)).bind fun t338 => (if t338 = true then (raddlekeep_Ops.l0 k x0 x1 (wrap64 (x5 + 1))) else (some false))) else (none)) else (none)) else (some true)
def raddlekeep_Ops.f (k : Nat) (l0 : List (S54)) (l1 : List (S54)) : Option (Bool) := if (l0.length : Int) = (l1.length : Int) then (raddlekeep_Ops.l0 k l0 l1 0) else (some false)
def raddlekeep_Ops.T6 : Bool × List (List Nat × List Nat) := (true, [([], []), ([], []), ([0, 1], [0, 1]), ([2], [2]), ([], []), ([], []), ([4, 5], [4, 5]), ([6], [6]), ([3, 7], [3, 7]), ([8], [8])])
def raddlekeep_Ops.B6 : List Nat := [0, 0, 3, 7, 0, 0, 48, 112, 255, 511]
theorem raddlekeep_Ops.tab6 : rtab .any (opsOf Try.f20 6) = raddlekeep_Ops.T6 := by kernel_rfl
theorem raddlekeep_Ops.bits6 : waitsOk raddlekeep_Ops.T6.2 raddlekeep_Ops.B6 = true := by kernel_rfl
set_option maxHeartbeats 8000000 in
set_option maxRecDepth 100000 in
theorem raddlekeep_Ops.calls (k : Nat) (A0 : Option Addr) (c0 : Nat) (l0 : List (S54)) (A1 : Option Addr) (c1 : Nat) (l1 : List (S54)) (r : Bool) (w : World) (hr0 : Kd.C k54 w A0 l0.length l0) (hc0 : l0.length ≤ c0) (hr1 : Kd.C k54 w A1 l1.length l1) (hc1 : l1.length ≤ c1) (h : raddlekeep_Ops.f k l0 l1 = some r) :
  Calls Try.prog 20 #[.slice A0 l0.length c0, .slice A1 l1.length c1] w fun e w' => e = .returned (.bool r) ∧ Below w.heap.size w w' := by
 have hu54 := Try.underlying54
 have HR0 := mk_ hr0
 have HC0 := mk_ hc0
 clear hr0 hc0
 have HR1 := mk_ hr1
 have HC1 := mk_ hc1
 clear hr1 hc1
 have HB := mk_ (Below.refl w.heap.size w)
 have H : (if (l0.length : Int) = (l1.length : Int) then (raddlekeep_Ops.l0 k l0 l1 0) else (some false)) = some r := h
 clear h
 by_cases c3 : (l0.length : Int) = (l1.length : Int)
 ·
  rw [if_pos c3] at H
  have c3b0 : ((l0.length : Int) == (l1.length : Int)) = true := beq_iff_eq.mpr c3
  have c3b1 : ((l0.length : Int) != (l1.length : Int)) = false := bne_eq_false_iff_eq.mpr c3
  have c3b2 : (l0.length == l1.length) = true := by first | simpa using c3 | (simp at c3 ⊢; omega)
  clear c3
  have H' := mk_ H
  clear H
  go_enter Try.func20, Try.ntmps20
  go_wp2
  go_loopg [5] k (fun kq v5 w' => ∃ (x5_1 : Int), v5 = .int .i64 x5_1 ∧ Aside0 (raddlekeep_Ops.l0 kq l0 l1 x5_1 = some r) ∧ Aside0 (kq ≤ k) ∧ Aside0 (Below w.heap.size w w'))
  case atStart => exact ⟨(0), z3_, H', ⟨Nat.le_refl _⟩, ⟨Short.hB HB⟩⟩
  case round =>
   clear H'
   try clear c1
   try clear c2
   try clear p2
   try clear c3
   try clear c3b0
   try clear c3b1
   try clear c3b2
   obtain ⟨x5_1, rfl, HA, HK1, HB⟩ := hrel
   cases gk with
   | zero => exact absurd HA.out (by simp [raddlekeep_Ops.l0])
   | succ k1 =>
    have H := HA.out
    clear HA
    simp only [raddlekeep_Ops.l0] at H
    by_cases c4 : x5_1 < (l0.length : Int)
    ·
     rw [if_pos c4] at H
     have c4b0 : decide (x5_1 < (l0.length : Int)) = true := decide_eq_true c4
     clear c4
     by_cases c5 : 0 ≤ x5_1
     ·
      rw [if_pos c5] at H
      have c5b0 : decide (0 ≤ x5_1) = true := decide_eq_true c5
      clear c5
      by_cases c6 : x5_1 < (l1.length : Int)
      ·
       rw [if_pos c6] at H
       have c6b0 : decide (x5_1 < (l1.length : Int)) = true := decide_eq_true c6
       clear c6
       replace H := Option.bind_eq_some_iff.mp H
       obtain ⟨t338, A70, H⟩ := H
       replace H : (if t338 = true then (raddlekeep_Ops.l0 k1 l0 l1 (wrap64 (x5_1 + 1))) else (some false)) = some r := H
       have A7 := mk_ A70
       clear A70
       by_cases c8 : t338 = true
       ·
        subst c8
        have H1 : (raddlekeep_Ops.l0 k1 l0 l1 (wrap64 (x5_1 + 1))) = some r := by rw [if_pos rfl] at H; exact H
        clear H
        have H := H1
        clear H1
        have H' := mk_ H
        clear H
        try go_wp2
        have n0_ := mk_ (below_drew1 HB.out)
        clear HB
        revert n0_
        intro HB
        have p336 : 0 ≤ (x5_1 : Int) := of_decide_eq_true z0_
        have q336 : x5_1 < (l0.length : Int) := of_decide_eq_true z0_
        obtain ⟨ad336, A336_2, c336_2, A336_10, c336_10, A336_11, c336_11, e336, hx336_0, hx336_1, hx336_2, hx336_3, hx336_4, hx336_5, hx336_6, hx336_7, hx336_8, hx336_9, hx336_10, hx336_11, hl336_2, hi336_2, hl336_10, hi336_10, hl336_11, hi336_11⟩ := at_T54 HR0.out x5_1 p336 q336
        have hw336_11 := hx336_11
        have hw336_10 := hx336_10
        have hw336_9 := hx336_9
        have hw336_8 := hx336_8
        have hw336_7 := hx336_7
        have hw336_6 := hx336_6
        have hw336_5 := hx336_5
        have hw336_4 := hx336_4
        have hw336_3 := hx336_3
        have hw336_2 := hx336_2
        have hw336_1 := hx336_1
        have hw336_0 := hx336_0
        cases e336
        replace hx336_0 := (HB.out.cell (World.block_lt_of_cell? w _ hx336_0)).trans hx336_0
        replace hx336_1 := (HB.out.cell (World.block_lt_of_cell? w _ hx336_1)).trans hx336_1
        replace hx336_2 := (HB.out.cell (World.block_lt_of_cell? w _ hx336_2)).trans hx336_2
        replace hx336_3 := (HB.out.cell (World.block_lt_of_cell? w _ hx336_3)).trans hx336_3
        replace hx336_4 := (HB.out.cell (World.block_lt_of_cell? w _ hx336_4)).trans hx336_4
        replace hx336_5 := (HB.out.cell (World.block_lt_of_cell? w _ hx336_5)).trans hx336_5
        replace hx336_6 := (HB.out.cell (World.block_lt_of_cell? w _ hx336_6)).trans hx336_6
        replace hx336_7 := (HB.out.cell (World.block_lt_of_cell? w _ hx336_7)).trans hx336_7
        replace hx336_8 := (HB.out.cell (World.block_lt_of_cell? w _ hx336_8)).trans hx336_8
        replace hx336_9 := (HB.out.cell (World.block_lt_of_cell? w _ hx336_9)).trans hx336_9
        replace hx336_10 := (HB.out.cell (World.block_lt_of_cell? w _ hx336_10)).trans hx336_10
        replace hx336_11 := (HB.out.cell (World.block_lt_of_cell? w _ hx336_11)).trans hx336_11
        have HR336_2 := mk_ hi336_2
        have HC336_2 := mk_ hl336_2
        clear hi336_2 hl336_2
        have HR336_10 := mk_ hi336_10
        have HC336_10 := mk_ hl336_10
        clear hi336_10 hl336_10
        have HR336_11 := mk_ hi336_11
        have HC336_11 := mk_ hl336_11
        clear hi336_11 hl336_11
        replace p336 := eq_true p336
        replace q336 := eq_true q336
        have p337 : 0 ≤ (x5_1 : Int) := of_decide_eq_true z0_
        have q337 : x5_1 < (l1.length : Int) := of_decide_eq_true z0_
        obtain ⟨ad337, A337_2, c337_2, A337_10, c337_10, A337_11, c337_11, e337, hx337_0, hx337_1, hx337_2, hx337_3, hx337_4, hx337_5, hx337_6, hx337_7, hx337_8, hx337_9, hx337_10, hx337_11, hl337_2, hi337_2, hl337_10, hi337_10, hl337_11, hi337_11⟩ := at_T54 HR1.out x5_1 p337 q337
        have hw337_11 := hx337_11
        have hw337_10 := hx337_10
        have hw337_9 := hx337_9
        have hw337_8 := hx337_8
        have hw337_7 := hx337_7
        have hw337_6 := hx337_6
        have hw337_5 := hx337_5
        have hw337_4 := hx337_4
        have hw337_3 := hx337_3
        have hw337_2 := hx337_2
        have hw337_1 := hx337_1
        have hw337_0 := hx337_0
        cases e337
        replace hx337_0 := (HB.out.cell (World.block_lt_of_cell? w _ hx337_0)).trans hx337_0
        replace hx337_1 := (HB.out.cell (World.block_lt_of_cell? w _ hx337_1)).trans hx337_1
        replace hx337_2 := (HB.out.cell (World.block_lt_of_cell? w _ hx337_2)).trans hx337_2
        replace hx337_3 := (HB.out.cell (World.block_lt_of_cell? w _ hx337_3)).trans hx337_3
        replace hx337_4 := (HB.out.cell (World.block_lt_of_cell? w _ hx337_4)).trans hx337_4
        replace hx337_5 := (HB.out.cell (World.block_lt_of_cell? w _ hx337_5)).trans hx337_5
        replace hx337_6 := (HB.out.cell (World.block_lt_of_cell? w _ hx337_6)).trans hx337_6
        replace hx337_7 := (HB.out.cell (World.block_lt_of_cell? w _ hx337_7)).trans hx337_7
        replace hx337_8 := (HB.out.cell (World.block_lt_of_cell? w _ hx337_8)).trans hx337_8
        replace hx337_9 := (HB.out.cell (World.block_lt_of_cell? w _ hx337_9)).trans hx337_9
        replace hx337_10 := (HB.out.cell (World.block_lt_of_cell? w _ hx337_10)).trans hx337_10
        replace hx337_11 := (HB.out.cell (World.block_lt_of_cell? w _ hx337_11)).trans hx337_11
        have HR337_2 := mk_ hi337_2
        have HC337_2 := mk_ hl337_2
        clear hi337_2 hl337_2
        have HR337_10 := mk_ hi337_10
        have HC337_10 := mk_ hl337_10
        clear hi337_10 hl337_10
        have HR337_11 := mk_ hi337_11
        have HC337_11 := mk_ hl337_11
        clear hi337_11 hl337_11
        replace p337 := eq_true p337
        replace q337 := eq_true q337
        refine start_ (n := 10) (S := fun w' => w'.cell? (ad336.add ((x5_1).toNat * 12)) = some (.int .i64 ((rd_T54 l0 x5_1).f0.f0)) ∧ w'.cell? ⟨(ad336.add ((x5_1).toNat * 12)).block, (ad336.add ((x5_1).toNat * 12)).off + 1, none⟩ = some (.int .i64 ((rd_T54 l0 x5_1).f0.f1)) ∧ w'.cell? ⟨(ad336.add ((x5_1).toNat * 12)).block, (ad336.add ((x5_1).toNat * 12)).off + 2, none⟩ = some (.slice A336_2 ((rd_T54 l0 x5_1).f1).length c336_2) ∧ w'.cell? ⟨(ad336.add ((x5_1).toNat * 12)).block, (ad336.add ((x5_1).toNat * 12)).off + 3, none⟩ = some (.int .i64 ((rd_T54 l0 x5_1).f2.f0)) ∧ w'.cell? ⟨(ad336.add ((x5_1).toNat * 12)).block, (ad336.add ((x5_1).toNat * 12)).off + 4, none⟩ = some (.int .i64 ((rd_T54 l0 x5_1).f2.f1)) ∧ w'.cell? ⟨(ad336.add ((x5_1).toNat * 12)).block, (ad336.add ((x5_1).toNat * 12)).off + 5, none⟩ = some (.int .i64 ((rd_T54 l0 x5_1).f2.f2)) ∧ w'.cell? ⟨(ad336.add ((x5_1).toNat * 12)).block, (ad336.add ((x5_1).toNat * 12)).off + 6, none⟩ = some (.int .i64 ((rd_T54 l0 x5_1).f3)) ∧ w'.cell? ⟨(ad336.add ((x5_1).toNat * 12)).block, (ad336.add ((x5_1).toNat * 12)).off + 7, none⟩ = some (.int .i64 ((rd_T54 l0 x5_1).f4)) ∧ w'.cell? ⟨(ad336.add ((x5_1).toNat * 12)).block, (ad336.add ((x5_1).toNat * 12)).off + 8, none⟩ = some (.string ((rd_T54 l0 x5_1).f5)) ∧ w'.cell? ⟨(ad336.add ((x5_1).toNat * 12)).block, (ad336.add ((x5_1).toNat * 12)).off + 9, none⟩ = some (.int .i64 ((rd_T54 l0 x5_1).f6)) ∧ w'.cell? ⟨(ad336.add ((x5_1).toNat * 12)).block, (ad336.add ((x5_1).toNat * 12)).off + 10, none⟩ = some (.slice A336_10 ((rd_T54 l0 x5_1).f7).length c336_10) ∧ w'.cell? ⟨(ad336.add ((x5_1).toNat * 12)).block, (ad336.add ((x5_1).toNat * 12)).off + 11, none⟩ = some (.slice A336_11 ((rd_T54 l0 x5_1).f8).length c336_11) ∧ w'.cell? (ad337.add ((x5_1).toNat * 12)) = some (.int .i64 ((rd_T54 l1 x5_1).f0.f0)) ∧ w'.cell? ⟨(ad337.add ((x5_1).toNat * 12)).block, (ad337.add ((x5_1).toNat * 12)).off + 1, none⟩ = some (.int .i64 ((rd_T54 l1 x5_1).f0.f1)) ∧ w'.cell? ⟨(ad337.add ((x5_1).toNat * 12)).block, (ad337.add ((x5_1).toNat * 12)).off + 2, none⟩ = some (.slice A337_2 ((rd_T54 l1 x5_1).f1).length c337_2) ∧ w'.cell? ⟨(ad337.add ((x5_1).toNat * 12)).block, (ad337.add ((x5_1).toNat * 12)).off + 3, none⟩ = some (.int .i64 ((rd_T54 l1 x5_1).f2.f0)) ∧ w'.cell? ⟨(ad337.add ((x5_1).toNat * 12)).block, (ad337.add ((x5_1).toNat * 12)).off + 4, none⟩ = some (.int .i64 ((rd_T54 l1 x5_1).f2.f1)) ∧ w'.cell? ⟨(ad337.add ((x5_1).toNat * 12)).block, (ad337.add ((x5_1).toNat * 12)).off + 5, none⟩ = some (.int .i64 ((rd_T54 l1 x5_1).f2.f2)) ∧ w'.cell? ⟨(ad337.add ((x5_1).toNat * 12)).block, (ad337.add ((x5_1).toNat * 12)).off + 6, none⟩ = some (.int .i64 ((rd_T54 l1 x5_1).f3)) ∧ w'.cell? ⟨(ad337.add ((x5_1).toNat * 12)).block, (ad337.add ((x5_1).toNat * 12)).off + 7, none⟩ = some (.int .i64 ((rd_T54 l1 x5_1).f4)) ∧ w'.cell? ⟨(ad337.add ((x5_1).toNat * 12)).block, (ad337.add ((x5_1).toNat * 12)).off + 8, none⟩ = some (.string ((rd_T54 l1 x5_1).f5)) ∧ w'.cell? ⟨(ad337.add ((x5_1).toNat * 12)).block, (ad337.add ((x5_1).toNat * 12)).off + 9, none⟩ = some (.int .i64 ((rd_T54 l1 x5_1).f6)) ∧ w'.cell? ⟨(ad337.add ((x5_1).toNat * 12)).block, (ad337.add ((x5_1).toNat * 12)).off + 10, none⟩ = some (.slice A337_10 ((rd_T54 l1 x5_1).f7).length c337_10) ∧ w'.cell? ⟨(ad337.add ((x5_1).toNat * 12)).block, (ad337.add ((x5_1).toNat * 12)).off + 11, none⟩ = some (.slice A337_11 ((rd_T54 l1 x5_1).f8).length c337_11)) (ds := []) (Steps.Bs 10 0) z1_ rfl rfl ⟨((HB.out.cell (World.block_lt_of_cell? w _ hw336_0)).trans hw336_0), ((HB.out.cell (World.block_lt_of_cell? w _ hw336_1)).trans hw336_1), ((HB.out.cell (World.block_lt_of_cell? w _ hw336_2)).trans hw336_2), ((HB.out.cell (World.block_lt_of_cell? w _ hw336_3)).trans hw336_3), ((HB.out.cell (World.block_lt_of_cell? w _ hw336_4)).trans hw336_4), ((HB.out.cell (World.block_lt_of_cell? w _ hw336_5)).trans hw336_5), ((HB.out.cell (World.block_lt_of_cell? w _ hw336_6)).trans hw336_6), ((HB.out.cell (World.block_lt_of_cell? w _ hw336_7)).trans hw336_7), ((HB.out.cell (World.block_lt_of_cell? w _ hw336_8)).trans hw336_8), ((HB.out.cell (World.block_lt_of_cell? w _ hw336_9)).trans hw336_9), ((HB.out.cell (World.block_lt_of_cell? w _ hw336_10)).trans hw336_10), ((HB.out.cell (World.block_lt_of_cell? w _ hw336_11)).trans hw336_11), ((HB.out.cell (World.block_lt_of_cell? w _ hw337_0)).trans hw337_0), ((HB.out.cell (World.block_lt_of_cell? w _ hw337_1)).trans hw337_1), ((HB.out.cell (World.block_lt_of_cell? w _ hw337_2)).trans hw337_2), ((HB.out.cell (World.block_lt_of_cell? w _ hw337_3)).trans hw337_3), ((HB.out.cell (World.block_lt_of_cell? w _ hw337_4)).trans hw337_4), ((HB.out.cell (World.block_lt_of_cell? w _ hw337_5)).trans hw337_5), ((HB.out.cell (World.block_lt_of_cell? w _ hw337_6)).trans hw337_6), ((HB.out.cell (World.block_lt_of_cell? w _ hw337_7)).trans hw337_7), ((HB.out.cell (World.block_lt_of_cell? w _ hw337_8)).trans hw337_8), ((HB.out.cell (World.block_lt_of_cell? w _ hw337_9)).trans hw337_9), ((HB.out.cell (World.block_lt_of_cell? w _ hw337_10)).trans hw337_10), ((HB.out.cell (World.block_lt_of_cell? w _ hw337_11)).trans hw337_11)⟩ (fun hHeld => ?_); refine with_tabW raddlekeep_Ops.tab6 raddlekeep_Ops.bits6 (fun HT_ HW_ => ?_)
        generalize wr.drew = w9 at HB HR336_10 HR336_11 HR336_2 HR337_10 HR337_11 HR337_2 hx336_0 hx336_1 hx336_10 hx336_11 hx336_2 hx336_3 hx336_4 hx336_5 hx336_6 hx336_7 hx336_8 hx336_9 hx337_0 hx337_1 hx337_10 hx337_11 hx337_2 hx337_3 hx337_4 hx337_5 hx337_6 hx337_7 hx337_8 hx337_9 hHeld ⊢
        refine Steps.pI_ 0 (some 17) (Steps.Bs 10 1) (any_of HT_.out z1_) (h := ?_)
        refine Steps.pI_ 1 (some 18) (Steps.Bs 10 3) (any_of HT_.out z1_) (h := ?_)
        refine Steps.pI_ 2 (some 19) (Steps.Bs 10 7) (any_of HT_.out z1_) (h := ?_)
        refine Steps.pI_ 4 (some 21) (Steps.Bs 10 23) (any_of HT_.out z1_) (h := ?_)
        refine Steps.pI_ 5 (some 22) (Steps.Bs 10 55) (any_of HT_.out z1_) (h := ?_)
        refine Steps.pI_ 6 (some 23) (Steps.Bs 10 119) (any_of HT_.out z1_) (h := ?_)
        refine Steps.tI_ 3 (some 20) (Steps.Bs 10 127) (take_ofW HT_.out HW_.out z1_) hHeld (h := ?_)
        refine Steps.tI_ 7 (some 24) (Steps.Bs 10 255) (take_ofW HT_.out HW_.out z1_) hHeld (h := ?_)
        refine one_ (i := 8) (N := some 25) (Steps.Bs 10 511) rfl rfl (one_of HT_.out z1_) z5_ (fun K hK => ?_)
        refine goes_ Try.func46 z1_ rfl #[.agg #[.int .i64 ((rd_T54 l0 x5_1).f0.f0), .int .i64 ((rd_T54 l0 x5_1).f0.f1), .slice A336_2 ((rd_T54 l0 x5_1).f1).length c336_2, .int .i64 ((rd_T54 l0 x5_1).f2.f0), .int .i64 ((rd_T54 l0 x5_1).f2.f1), .int .i64 ((rd_T54 l0 x5_1).f2.f2), .int .i64 ((rd_T54 l0 x5_1).f3), .int .i64 ((rd_T54 l0 x5_1).f4), .string ((rd_T54 l0 x5_1).f5), .int .i64 ((rd_T54 l0 x5_1).f6), .slice A336_10 ((rd_T54 l0 x5_1).f7).length c336_10, .slice A336_11 ((rd_T54 l0 x5_1).f8).length c336_11], .agg #[.int .i64 ((rd_T54 l1 x5_1).f0.f0), .int .i64 ((rd_T54 l1 x5_1).f0.f1), .slice A337_2 ((rd_T54 l1 x5_1).f1).length c337_2, .int .i64 ((rd_T54 l1 x5_1).f2.f0), .int .i64 ((rd_T54 l1 x5_1).f2.f1), .int .i64 ((rd_T54 l1 x5_1).f2.f2), .int .i64 ((rd_T54 l1 x5_1).f3), .int .i64 ((rd_T54 l1 x5_1).f4), .string ((rd_T54 l1 x5_1).f5), .int .i64 ((rd_T54 l1 x5_1).f6), .slice A337_10 ((rd_T54 l1 x5_1).f7).length c337_10, .slice A337_11 ((rd_T54 l1 x5_1).f8).length c337_11]] (by rfl) rfl rfl z4_ ?_
        with_reducible refine (raddlekeep_Op.calls k1 ((rd_T54 l0 x5_1).f0.f0) ((rd_T54 l0 x5_1).f0.f1) _ _ ((rd_T54 l0 x5_1).f1) ((rd_T54 l0 x5_1).f2.f0) ((rd_T54 l0 x5_1).f2.f1) ((rd_T54 l0 x5_1).f2.f2) ((rd_T54 l0 x5_1).f3) ((rd_T54 l0 x5_1).f4) ((rd_T54 l0 x5_1).f5) ((rd_T54 l0 x5_1).f6) _ _ ((rd_T54 l0 x5_1).f7) _ _ ((rd_T54 l0 x5_1).f8) ((rd_T54 l1 x5_1).f0.f0) ((rd_T54 l1 x5_1).f0.f1) _ _ ((rd_T54 l1 x5_1).f1) ((rd_T54 l1 x5_1).f2.f0) ((rd_T54 l1 x5_1).f2.f1) ((rd_T54 l1 x5_1).f2.f2) ((rd_T54 l1 x5_1).f3) ((rd_T54 l1 x5_1).f4) ((rd_T54 l1 x5_1).f5) ((rd_T54 l1 x5_1).f6) _ _ ((rd_T54 l1 x5_1).f7) _ _ ((rd_T54 l1 x5_1).f8) true _ ?side1 ?side2 ?side3 ?side4 ?side5 ?side6 ?side7 ?side8 ?side9 ?side10 ?side11 ?side12 A7.out).mono ?_
        (case side1 => exact cX_ (C_below HR336_2.out HB.out))
        (case side2 => exact HC336_2.out)
        (case side3 => exact cX_ (C_below HR336_10.out HB.out))
        (case side4 => exact HC336_10.out)
        (case side5 => exact cX_ (C_below HR336_11.out HB.out))
        (case side6 => exact HC336_11.out)
        (case side7 => exact cX_ (C_below HR337_2.out HB.out))
        (case side8 => exact HC337_2.out)
        (case side9 => exact cX_ (C_below HR337_10.out HB.out))
        (case side10 => exact HC337_10.out)
        (case side11 => exact cX_ (C_below HR337_11.out HB.out))
        (case side12 => exact HC337_11.out)
        rintro e w10 ⟨rfl, hb⟩
        refine ⟨_, rfl, ?_⟩
        have n0_ := mk_ (below_step (Short.hB HB) hb)
        clear HB
        revert n0_
        intro HB
        (try clear hb)
        (try clear hb2)
        (try clear hk)
        (try clear hi)
        refine hK.out _ _ ⟨((HB.out.cell (World.block_lt_of_cell? w _ hw336_0)).trans hw336_0), ((HB.out.cell (World.block_lt_of_cell? w _ hw336_1)).trans hw336_1), ((HB.out.cell (World.block_lt_of_cell? w _ hw336_2)).trans hw336_2), ((HB.out.cell (World.block_lt_of_cell? w _ hw336_3)).trans hw336_3), ((HB.out.cell (World.block_lt_of_cell? w _ hw336_4)).trans hw336_4), ((HB.out.cell (World.block_lt_of_cell? w _ hw336_5)).trans hw336_5), ((HB.out.cell (World.block_lt_of_cell? w _ hw336_6)).trans hw336_6), ((HB.out.cell (World.block_lt_of_cell? w _ hw336_7)).trans hw336_7), ((HB.out.cell (World.block_lt_of_cell? w _ hw336_8)).trans hw336_8), ((HB.out.cell (World.block_lt_of_cell? w _ hw336_9)).trans hw336_9), ((HB.out.cell (World.block_lt_of_cell? w _ hw336_10)).trans hw336_10), ((HB.out.cell (World.block_lt_of_cell? w _ hw336_11)).trans hw336_11), ((HB.out.cell (World.block_lt_of_cell? w _ hw337_0)).trans hw337_0), ((HB.out.cell (World.block_lt_of_cell? w _ hw337_1)).trans hw337_1), ((HB.out.cell (World.block_lt_of_cell? w _ hw337_2)).trans hw337_2), ((HB.out.cell (World.block_lt_of_cell? w _ hw337_3)).trans hw337_3), ((HB.out.cell (World.block_lt_of_cell? w _ hw337_4)).trans hw337_4), ((HB.out.cell (World.block_lt_of_cell? w _ hw337_5)).trans hw337_5), ((HB.out.cell (World.block_lt_of_cell? w _ hw337_6)).trans hw337_6), ((HB.out.cell (World.block_lt_of_cell? w _ hw337_7)).trans hw337_7), ((HB.out.cell (World.block_lt_of_cell? w _ hw337_8)).trans hw337_8), ((HB.out.cell (World.block_lt_of_cell? w _ hw337_9)).trans hw337_9), ((HB.out.cell (World.block_lt_of_cell? w _ hw337_10)).trans hw337_10), ((HB.out.cell (World.block_lt_of_cell? w _ hw337_11)).trans hw337_11)⟩ (fun hHeld => ?_)
        clear hK K
        refine norm_ (a' := ?_) ?_ ?_
        rotate_left
        ·
         show Act.put _ (some 25) _ = _
         simp only [Act.put, List.setIfInBounds_toArray, List.set_cons_zero, List.set_cons_succ, i64_w, i32_w]
         rfl
        refine Steps.pI_ 9 (some 26) (Steps.Bs 10 1023) (any_of HT_.out z1_) (h := ?_)
        refine done_ (done_of HT_.out z1_) ?_
        try go_wp2
        go_roundg k1
        case measure => have := HK1.out; omega
        case rel => exact ⟨(wrap64 (x5_1 + 1)), z3_, H', ⟨by have := HK1.out; omega⟩, ⟨Short.hB HB⟩⟩
       ·
        replace c8 := Bool.eq_false_iff.mpr c8
        subst c8
        have H1 : (some false) = some r := by rw [if_neg (show ¬ (false = true) by decide)] at H; exact H
        clear H
        have H := H1
        clear H1
        obtain rfl := Option.some.inj H
        try go_wp2
        have n0_ := mk_ (below_drew1 HB.out)
        clear HB
        revert n0_
        intro HB
        have p336 : 0 ≤ (x5_1 : Int) := of_decide_eq_true z0_
        have q336 : x5_1 < (l0.length : Int) := of_decide_eq_true z0_
        obtain ⟨ad336, A336_2, c336_2, A336_10, c336_10, A336_11, c336_11, e336, hx336_0, hx336_1, hx336_2, hx336_3, hx336_4, hx336_5, hx336_6, hx336_7, hx336_8, hx336_9, hx336_10, hx336_11, hl336_2, hi336_2, hl336_10, hi336_10, hl336_11, hi336_11⟩ := at_T54 HR0.out x5_1 p336 q336
        have hw336_11 := hx336_11
        have hw336_10 := hx336_10
        have hw336_9 := hx336_9
        have hw336_8 := hx336_8
        have hw336_7 := hx336_7
        have hw336_6 := hx336_6
        have hw336_5 := hx336_5
        have hw336_4 := hx336_4
        have hw336_3 := hx336_3
        have hw336_2 := hx336_2
        have hw336_1 := hx336_1
        have hw336_0 := hx336_0
        cases e336
        replace hx336_0 := (HB.out.cell (World.block_lt_of_cell? w _ hx336_0)).trans hx336_0
        replace hx336_1 := (HB.out.cell (World.block_lt_of_cell? w _ hx336_1)).trans hx336_1
        replace hx336_2 := (HB.out.cell (World.block_lt_of_cell? w _ hx336_2)).trans hx336_2
        replace hx336_3 := (HB.out.cell (World.block_lt_of_cell? w _ hx336_3)).trans hx336_3
        replace hx336_4 := (HB.out.cell (World.block_lt_of_cell? w _ hx336_4)).trans hx336_4
        replace hx336_5 := (HB.out.cell (World.block_lt_of_cell? w _ hx336_5)).trans hx336_5
        replace hx336_6 := (HB.out.cell (World.block_lt_of_cell? w _ hx336_6)).trans hx336_6
        replace hx336_7 := (HB.out.cell (World.block_lt_of_cell? w _ hx336_7)).trans hx336_7
        replace hx336_8 := (HB.out.cell (World.block_lt_of_cell? w _ hx336_8)).trans hx336_8
        replace hx336_9 := (HB.out.cell (World.block_lt_of_cell? w _ hx336_9)).trans hx336_9
        replace hx336_10 := (HB.out.cell (World.block_lt_of_cell? w _ hx336_10)).trans hx336_10
        replace hx336_11 := (HB.out.cell (World.block_lt_of_cell? w _ hx336_11)).trans hx336_11
        have HR336_2 := mk_ hi336_2
        have HC336_2 := mk_ hl336_2
        clear hi336_2 hl336_2
        have HR336_10 := mk_ hi336_10
        have HC336_10 := mk_ hl336_10
        clear hi336_10 hl336_10
        have HR336_11 := mk_ hi336_11
        have HC336_11 := mk_ hl336_11
        clear hi336_11 hl336_11
        replace p336 := eq_true p336
        replace q336 := eq_true q336
        have p337 : 0 ≤ (x5_1 : Int) := of_decide_eq_true z0_
        have q337 : x5_1 < (l1.length : Int) := of_decide_eq_true z0_
        obtain ⟨ad337, A337_2, c337_2, A337_10, c337_10, A337_11, c337_11, e337, hx337_0, hx337_1, hx337_2, hx337_3, hx337_4, hx337_5, hx337_6, hx337_7, hx337_8, hx337_9, hx337_10, hx337_11, hl337_2, hi337_2, hl337_10, hi337_10, hl337_11, hi337_11⟩ := at_T54 HR1.out x5_1 p337 q337
        have hw337_11 := hx337_11
        have hw337_10 := hx337_10
        have hw337_9 := hx337_9
        have hw337_8 := hx337_8
        have hw337_7 := hx337_7
        have hw337_6 := hx337_6
        have hw337_5 := hx337_5
        have hw337_4 := hx337_4
        have hw337_3 := hx337_3
        have hw337_2 := hx337_2
        have hw337_1 := hx337_1
        have hw337_0 := hx337_0
        cases e337
        replace hx337_0 := (HB.out.cell (World.block_lt_of_cell? w _ hx337_0)).trans hx337_0
        replace hx337_1 := (HB.out.cell (World.block_lt_of_cell? w _ hx337_1)).trans hx337_1
        replace hx337_2 := (HB.out.cell (World.block_lt_of_cell? w _ hx337_2)).trans hx337_2
        replace hx337_3 := (HB.out.cell (World.block_lt_of_cell? w _ hx337_3)).trans hx337_3
        replace hx337_4 := (HB.out.cell (World.block_lt_of_cell? w _ hx337_4)).trans hx337_4
        replace hx337_5 := (HB.out.cell (World.block_lt_of_cell? w _ hx337_5)).trans hx337_5
        replace hx337_6 := (HB.out.cell (World.block_lt_of_cell? w _ hx337_6)).trans hx337_6
        replace hx337_7 := (HB.out.cell (World.block_lt_of_cell? w _ hx337_7)).trans hx337_7
        replace hx337_8 := (HB.out.cell (World.block_lt_of_cell? w _ hx337_8)).trans hx337_8
        replace hx337_9 := (HB.out.cell (World.block_lt_of_cell? w _ hx337_9)).trans hx337_9
        replace hx337_10 := (HB.out.cell (World.block_lt_of_cell? w _ hx337_10)).trans hx337_10
        replace hx337_11 := (HB.out.cell (World.block_lt_of_cell? w _ hx337_11)).trans hx337_11
        have HR337_2 := mk_ hi337_2
        have HC337_2 := mk_ hl337_2
        clear hi337_2 hl337_2
        have HR337_10 := mk_ hi337_10
        have HC337_10 := mk_ hl337_10
        clear hi337_10 hl337_10
        have HR337_11 := mk_ hi337_11
        have HC337_11 := mk_ hl337_11
        clear hi337_11 hl337_11
        replace p337 := eq_true p337
        replace q337 := eq_true q337
        refine start_ (n := 10) (S := fun w' => w'.cell? (ad336.add ((x5_1).toNat * 12)) = some (.int .i64 ((rd_T54 l0 x5_1).f0.f0)) ∧ w'.cell? ⟨(ad336.add ((x5_1).toNat * 12)).block, (ad336.add ((x5_1).toNat * 12)).off + 1, none⟩ = some (.int .i64 ((rd_T54 l0 x5_1).f0.f1)) ∧ w'.cell? ⟨(ad336.add ((x5_1).toNat * 12)).block, (ad336.add ((x5_1).toNat * 12)).off + 2, none⟩ = some (.slice A336_2 ((rd_T54 l0 x5_1).f1).length c336_2) ∧ w'.cell? ⟨(ad336.add ((x5_1).toNat * 12)).block, (ad336.add ((x5_1).toNat * 12)).off + 3, none⟩ = some (.int .i64 ((rd_T54 l0 x5_1).f2.f0)) ∧ w'.cell? ⟨(ad336.add ((x5_1).toNat * 12)).block, (ad336.add ((x5_1).toNat * 12)).off + 4, none⟩ = some (.int .i64 ((rd_T54 l0 x5_1).f2.f1)) ∧ w'.cell? ⟨(ad336.add ((x5_1).toNat * 12)).block, (ad336.add ((x5_1).toNat * 12)).off + 5, none⟩ = some (.int .i64 ((rd_T54 l0 x5_1).f2.f2)) ∧ w'.cell? ⟨(ad336.add ((x5_1).toNat * 12)).block, (ad336.add ((x5_1).toNat * 12)).off + 6, none⟩ = some (.int .i64 ((rd_T54 l0 x5_1).f3)) ∧ w'.cell? ⟨(ad336.add ((x5_1).toNat * 12)).block, (ad336.add ((x5_1).toNat * 12)).off + 7, none⟩ = some (.int .i64 ((rd_T54 l0 x5_1).f4)) ∧ w'.cell? ⟨(ad336.add ((x5_1).toNat * 12)).block, (ad336.add ((x5_1).toNat * 12)).off + 8, none⟩ = some (.string ((rd_T54 l0 x5_1).f5)) ∧ w'.cell? ⟨(ad336.add ((x5_1).toNat * 12)).block, (ad336.add ((x5_1).toNat * 12)).off + 9, none⟩ = some (.int .i64 ((rd_T54 l0 x5_1).f6)) ∧ w'.cell? ⟨(ad336.add ((x5_1).toNat * 12)).block, (ad336.add ((x5_1).toNat * 12)).off + 10, none⟩ = some (.slice A336_10 ((rd_T54 l0 x5_1).f7).length c336_10) ∧ w'.cell? ⟨(ad336.add ((x5_1).toNat * 12)).block, (ad336.add ((x5_1).toNat * 12)).off + 11, none⟩ = some (.slice A336_11 ((rd_T54 l0 x5_1).f8).length c336_11) ∧ w'.cell? (ad337.add ((x5_1).toNat * 12)) = some (.int .i64 ((rd_T54 l1 x5_1).f0.f0)) ∧ w'.cell? ⟨(ad337.add ((x5_1).toNat * 12)).block, (ad337.add ((x5_1).toNat * 12)).off + 1, none⟩ = some (.int .i64 ((rd_T54 l1 x5_1).f0.f1)) ∧ w'.cell? ⟨(ad337.add ((x5_1).toNat * 12)).block, (ad337.add ((x5_1).toNat * 12)).off + 2, none⟩ = some (.slice A337_2 ((rd_T54 l1 x5_1).f1).length c337_2) ∧ w'.cell? ⟨(ad337.add ((x5_1).toNat * 12)).block, (ad337.add ((x5_1).toNat * 12)).off + 3, none⟩ = some (.int .i64 ((rd_T54 l1 x5_1).f2.f0)) ∧ w'.cell? ⟨(ad337.add ((x5_1).toNat * 12)).block, (ad337.add ((x5_1).toNat * 12)).off + 4, none⟩ = some (.int .i64 ((rd_T54 l1 x5_1).f2.f1)) ∧ w'.cell? ⟨(ad337.add ((x5_1).toNat * 12)).block, (ad337.add ((x5_1).toNat * 12)).off + 5, none⟩ = some (.int .i64 ((rd_T54 l1 x5_1).f2.f2)) ∧ w'.cell? ⟨(ad337.add ((x5_1).toNat * 12)).block, (ad337.add ((x5_1).toNat * 12)).off + 6, none⟩ = some (.int .i64 ((rd_T54 l1 x5_1).f3)) ∧ w'.cell? ⟨(ad337.add ((x5_1).toNat * 12)).block, (ad337.add ((x5_1).toNat * 12)).off + 7, none⟩ = some (.int .i64 ((rd_T54 l1 x5_1).f4)) ∧ w'.cell? ⟨(ad337.add ((x5_1).toNat * 12)).block, (ad337.add ((x5_1).toNat * 12)).off + 8, none⟩ = some (.string ((rd_T54 l1 x5_1).f5)) ∧ w'.cell? ⟨(ad337.add ((x5_1).toNat * 12)).block, (ad337.add ((x5_1).toNat * 12)).off + 9, none⟩ = some (.int .i64 ((rd_T54 l1 x5_1).f6)) ∧ w'.cell? ⟨(ad337.add ((x5_1).toNat * 12)).block, (ad337.add ((x5_1).toNat * 12)).off + 10, none⟩ = some (.slice A337_10 ((rd_T54 l1 x5_1).f7).length c337_10) ∧ w'.cell? ⟨(ad337.add ((x5_1).toNat * 12)).block, (ad337.add ((x5_1).toNat * 12)).off + 11, none⟩ = some (.slice A337_11 ((rd_T54 l1 x5_1).f8).length c337_11)) (ds := []) (Steps.Bs 10 0) z1_ rfl rfl ⟨((HB.out.cell (World.block_lt_of_cell? w _ hw336_0)).trans hw336_0), ((HB.out.cell (World.block_lt_of_cell? w _ hw336_1)).trans hw336_1), ((HB.out.cell (World.block_lt_of_cell? w _ hw336_2)).trans hw336_2), ((HB.out.cell (World.block_lt_of_cell? w _ hw336_3)).trans hw336_3), ((HB.out.cell (World.block_lt_of_cell? w _ hw336_4)).trans hw336_4), ((HB.out.cell (World.block_lt_of_cell? w _ hw336_5)).trans hw336_5), ((HB.out.cell (World.block_lt_of_cell? w _ hw336_6)).trans hw336_6), ((HB.out.cell (World.block_lt_of_cell? w _ hw336_7)).trans hw336_7), ((HB.out.cell (World.block_lt_of_cell? w _ hw336_8)).trans hw336_8), ((HB.out.cell (World.block_lt_of_cell? w _ hw336_9)).trans hw336_9), ((HB.out.cell (World.block_lt_of_cell? w _ hw336_10)).trans hw336_10), ((HB.out.cell (World.block_lt_of_cell? w _ hw336_11)).trans hw336_11), ((HB.out.cell (World.block_lt_of_cell? w _ hw337_0)).trans hw337_0), ((HB.out.cell (World.block_lt_of_cell? w _ hw337_1)).trans hw337_1), ((HB.out.cell (World.block_lt_of_cell? w _ hw337_2)).trans hw337_2), ((HB.out.cell (World.block_lt_of_cell? w _ hw337_3)).trans hw337_3), ((HB.out.cell (World.block_lt_of_cell? w _ hw337_4)).trans hw337_4), ((HB.out.cell (World.block_lt_of_cell? w _ hw337_5)).trans hw337_5), ((HB.out.cell (World.block_lt_of_cell? w _ hw337_6)).trans hw337_6), ((HB.out.cell (World.block_lt_of_cell? w _ hw337_7)).trans hw337_7), ((HB.out.cell (World.block_lt_of_cell? w _ hw337_8)).trans hw337_8), ((HB.out.cell (World.block_lt_of_cell? w _ hw337_9)).trans hw337_9), ((HB.out.cell (World.block_lt_of_cell? w _ hw337_10)).trans hw337_10), ((HB.out.cell (World.block_lt_of_cell? w _ hw337_11)).trans hw337_11)⟩ (fun hHeld => ?_); refine with_tabW raddlekeep_Ops.tab6 raddlekeep_Ops.bits6 (fun HT_ HW_ => ?_)
        generalize wr.drew = w11 at HB HR336_10 HR336_11 HR336_2 HR337_10 HR337_11 HR337_2 hx336_0 hx336_1 hx336_10 hx336_11 hx336_2 hx336_3 hx336_4 hx336_5 hx336_6 hx336_7 hx336_8 hx336_9 hx337_0 hx337_1 hx337_10 hx337_11 hx337_2 hx337_3 hx337_4 hx337_5 hx337_6 hx337_7 hx337_8 hx337_9 hHeld ⊢
        refine Steps.pI_ 0 (some 17) (Steps.Bs 10 1) (any_of HT_.out z1_) (h := ?_)
        refine Steps.pI_ 1 (some 18) (Steps.Bs 10 3) (any_of HT_.out z1_) (h := ?_)
        refine Steps.pI_ 2 (some 19) (Steps.Bs 10 7) (any_of HT_.out z1_) (h := ?_)
        refine Steps.pI_ 4 (some 21) (Steps.Bs 10 23) (any_of HT_.out z1_) (h := ?_)
        refine Steps.pI_ 5 (some 22) (Steps.Bs 10 55) (any_of HT_.out z1_) (h := ?_)
        refine Steps.pI_ 6 (some 23) (Steps.Bs 10 119) (any_of HT_.out z1_) (h := ?_)
        refine Steps.tI_ 3 (some 20) (Steps.Bs 10 127) (take_ofW HT_.out HW_.out z1_) hHeld (h := ?_)
        refine Steps.tI_ 7 (some 24) (Steps.Bs 10 255) (take_ofW HT_.out HW_.out z1_) hHeld (h := ?_)
        refine one_ (i := 8) (N := some 25) (Steps.Bs 10 511) rfl rfl (one_of HT_.out z1_) z5_ (fun K hK => ?_)
        refine goes_ Try.func46 z1_ rfl #[.agg #[.int .i64 ((rd_T54 l0 x5_1).f0.f0), .int .i64 ((rd_T54 l0 x5_1).f0.f1), .slice A336_2 ((rd_T54 l0 x5_1).f1).length c336_2, .int .i64 ((rd_T54 l0 x5_1).f2.f0), .int .i64 ((rd_T54 l0 x5_1).f2.f1), .int .i64 ((rd_T54 l0 x5_1).f2.f2), .int .i64 ((rd_T54 l0 x5_1).f3), .int .i64 ((rd_T54 l0 x5_1).f4), .string ((rd_T54 l0 x5_1).f5), .int .i64 ((rd_T54 l0 x5_1).f6), .slice A336_10 ((rd_T54 l0 x5_1).f7).length c336_10, .slice A336_11 ((rd_T54 l0 x5_1).f8).length c336_11], .agg #[.int .i64 ((rd_T54 l1 x5_1).f0.f0), .int .i64 ((rd_T54 l1 x5_1).f0.f1), .slice A337_2 ((rd_T54 l1 x5_1).f1).length c337_2, .int .i64 ((rd_T54 l1 x5_1).f2.f0), .int .i64 ((rd_T54 l1 x5_1).f2.f1), .int .i64 ((rd_T54 l1 x5_1).f2.f2), .int .i64 ((rd_T54 l1 x5_1).f3), .int .i64 ((rd_T54 l1 x5_1).f4), .string ((rd_T54 l1 x5_1).f5), .int .i64 ((rd_T54 l1 x5_1).f6), .slice A337_10 ((rd_T54 l1 x5_1).f7).length c337_10, .slice A337_11 ((rd_T54 l1 x5_1).f8).length c337_11]] (by rfl) rfl rfl z4_ ?_
        with_reducible refine (raddlekeep_Op.calls k1 ((rd_T54 l0 x5_1).f0.f0) ((rd_T54 l0 x5_1).f0.f1) _ _ ((rd_T54 l0 x5_1).f1) ((rd_T54 l0 x5_1).f2.f0) ((rd_T54 l0 x5_1).f2.f1) ((rd_T54 l0 x5_1).f2.f2) ((rd_T54 l0 x5_1).f3) ((rd_T54 l0 x5_1).f4) ((rd_T54 l0 x5_1).f5) ((rd_T54 l0 x5_1).f6) _ _ ((rd_T54 l0 x5_1).f7) _ _ ((rd_T54 l0 x5_1).f8) ((rd_T54 l1 x5_1).f0.f0) ((rd_T54 l1 x5_1).f0.f1) _ _ ((rd_T54 l1 x5_1).f1) ((rd_T54 l1 x5_1).f2.f0) ((rd_T54 l1 x5_1).f2.f1) ((rd_T54 l1 x5_1).f2.f2) ((rd_T54 l1 x5_1).f3) ((rd_T54 l1 x5_1).f4) ((rd_T54 l1 x5_1).f5) ((rd_T54 l1 x5_1).f6) _ _ ((rd_T54 l1 x5_1).f7) _ _ ((rd_T54 l1 x5_1).f8) false _ ?side1 ?side2 ?side3 ?side4 ?side5 ?side6 ?side7 ?side8 ?side9 ?side10 ?side11 ?side12 A7.out).mono ?_
        (case side1 => exact cX_ (C_below HR336_2.out HB.out))
        (case side2 => exact HC336_2.out)
        (case side3 => exact cX_ (C_below HR336_10.out HB.out))
        (case side4 => exact HC336_10.out)
        (case side5 => exact cX_ (C_below HR336_11.out HB.out))
        (case side6 => exact HC336_11.out)
        (case side7 => exact cX_ (C_below HR337_2.out HB.out))
        (case side8 => exact HC337_2.out)
        (case side9 => exact cX_ (C_below HR337_10.out HB.out))
        (case side10 => exact HC337_10.out)
        (case side11 => exact cX_ (C_below HR337_11.out HB.out))
        (case side12 => exact HC337_11.out)
        rintro e w12 ⟨rfl, hb⟩
        refine ⟨_, rfl, ?_⟩
        have n0_ := mk_ (below_step (Short.hB HB) hb)
        clear HB
        revert n0_
        intro HB
        (try clear hb)
        (try clear hb2)
        (try clear hk)
        (try clear hi)
        refine hK.out _ _ ⟨((HB.out.cell (World.block_lt_of_cell? w _ hw336_0)).trans hw336_0), ((HB.out.cell (World.block_lt_of_cell? w _ hw336_1)).trans hw336_1), ((HB.out.cell (World.block_lt_of_cell? w _ hw336_2)).trans hw336_2), ((HB.out.cell (World.block_lt_of_cell? w _ hw336_3)).trans hw336_3), ((HB.out.cell (World.block_lt_of_cell? w _ hw336_4)).trans hw336_4), ((HB.out.cell (World.block_lt_of_cell? w _ hw336_5)).trans hw336_5), ((HB.out.cell (World.block_lt_of_cell? w _ hw336_6)).trans hw336_6), ((HB.out.cell (World.block_lt_of_cell? w _ hw336_7)).trans hw336_7), ((HB.out.cell (World.block_lt_of_cell? w _ hw336_8)).trans hw336_8), ((HB.out.cell (World.block_lt_of_cell? w _ hw336_9)).trans hw336_9), ((HB.out.cell (World.block_lt_of_cell? w _ hw336_10)).trans hw336_10), ((HB.out.cell (World.block_lt_of_cell? w _ hw336_11)).trans hw336_11), ((HB.out.cell (World.block_lt_of_cell? w _ hw337_0)).trans hw337_0), ((HB.out.cell (World.block_lt_of_cell? w _ hw337_1)).trans hw337_1), ((HB.out.cell (World.block_lt_of_cell? w _ hw337_2)).trans hw337_2), ((HB.out.cell (World.block_lt_of_cell? w _ hw337_3)).trans hw337_3), ((HB.out.cell (World.block_lt_of_cell? w _ hw337_4)).trans hw337_4), ((HB.out.cell (World.block_lt_of_cell? w _ hw337_5)).trans hw337_5), ((HB.out.cell (World.block_lt_of_cell? w _ hw337_6)).trans hw337_6), ((HB.out.cell (World.block_lt_of_cell? w _ hw337_7)).trans hw337_7), ((HB.out.cell (World.block_lt_of_cell? w _ hw337_8)).trans hw337_8), ((HB.out.cell (World.block_lt_of_cell? w _ hw337_9)).trans hw337_9), ((HB.out.cell (World.block_lt_of_cell? w _ hw337_10)).trans hw337_10), ((HB.out.cell (World.block_lt_of_cell? w _ hw337_11)).trans hw337_11)⟩ (fun hHeld => ?_)
        clear hK K
        refine norm_ (a' := ?_) ?_ ?_
        rotate_left
        ·
         show Act.put _ (some 25) _ = _
         simp only [Act.put, List.setIfInBounds_toArray, List.set_cons_zero, List.set_cons_succ, i64_w, i32_w]
         rfl
        refine Steps.pI_ 9 (some 26) (Steps.Bs 10 1023) (any_of HT_.out z1_) (h := ?_)
        refine done_ (done_of HT_.out z1_) ?_
        try go_wp2
        go_ret
        exact ⟨by first | rfl | (simp [errW_none, errW_some] <;> rfl) | (simp [*, errW_none, errW_some] <;> rfl), Short.hB HB⟩
      ·
       rw [if_neg c6] at H
       exact absurd H (by simp)
     ·
      rw [if_neg c5] at H
      exact absurd H (by simp)
    ·
     rw [if_neg c4] at H
     have c4b0 : decide (x5_1 < (l0.length : Int)) = false := decide_eq_false c4
     clear c4
     obtain rfl := Option.some.inj H
     go_wp2
     go_ret
     exact ⟨by first | rfl | (simp [errW_none, errW_some] <;> rfl) | (simp [*, errW_none, errW_some] <;> rfl), Short.hB HB⟩
 ·
  rw [if_neg c3] at H
  have c3b0 : ((l0.length : Int) == (l1.length : Int)) = false := beq_eq_false_iff_ne.mpr c3
  have c3b1 : ((l0.length : Int) != (l1.length : Int)) = true := bne_iff_ne.mpr c3
  have c3b2 : (l0.length == l1.length) = false := by first | simpa using c3 | (simp at c3 ⊢; omega)
  obtain rfl := Option.some.inj H
  go_enter Try.func20, Try.ntmps20
  go_wp2
  go_ret
  exact ⟨by first | rfl | (simp [errW_none, errW_some] <;> rfl) | (simp [*, errW_none, errW_some] <;> rfl), Short.hB HB⟩
end Go.Proofs.Ytcbfliajgopdaaa.PAll
end
section
namespace Go.Proofs.Ytcbfliajgopdaaa.Plain
open Go.RowKit Go.Proofs.Ytcbfliajgopdaaa.PAll Go.Proofs.YtcbfliajgopdaaaW.PrintWords Go.Proofs.YtcbfliajgopdaaaW.PrintLast Go.Proofs.YtcbfliajgopdaaaW.PrintMore Go.Proofs.Ytcbfliajgopdaaa.ZipT Go.Proofs.YtcbfliajgopdaaaW.PrintWords.Kd Go.Proofs.YtcbfliajgopdaaaW.PrintMore.Kd
set_option linter.unusedVariables false
set_option linter.unusedSimpArgs false
abbrev V := S89
theorem dropL_lt {α : Type} {l : List α} {i : Nat} {v : α} {m : List α} (h : l.drop i = v :: m) : i < l.length := by
 rcases Nat.lt_or_ge i l.length with h1 | h1
 ·
  exact h1
 ·
  rw [List.drop_eq_nil_iff.2 h1] at h; cases h
theorem dropL_tail {α : Type} {l : List α} {i : Nat} {v : α} {m : List α} (h : l.drop i = v :: m) : l.drop (i + 1) = m := by
 rw [← List.drop_drop, h]; rfl
theorem dropL_end {α : Type} {l : List α} {i : Nat} (h : l.drop i = []) : l.length ≤ i := List.drop_eq_nil_iff.1 h
theorem rdT_drop {l : List V} {i : Nat} {v : V} {m : List V} (h : l.drop i = v :: m) : rd_T89 l (i : Int) = v := by
 show l.getD ((i : Int).toNat) _ = v
 rw [Int.toNat_natCast, List.getD_eq_getElem?_getD]
 have : l[i]? = (l.drop i)[0]? := by rw [List.getElem?_drop]; simp
 rw [this, h]; rfl
theorem rdI_drop {l : List Int} {i : Nat} {v : Int} {m : List Int} (h : l.drop i = v :: m) : rd l (i : Int) = v := rd_drop h
theorem V_ext {a b : V} (h0 : a.f0 = b.f0) (h1 : a.f1 = b.f1) (h2 : a.f2 = b.f2) : a = b := by cases a; cases b; simp_all
instance : DecidableEq V := fun a b => decidable_of_iff (a.f0 = b.f0 ∧ a.f1 = b.f1 ∧ a.f2 = b.f2) ⟨fun ⟨h0, h1, h2⟩ => V_ext h0 h1 h2, fun h => by subst h; exact ⟨rfl, rfl, rfl⟩⟩
def okV (v : V) : Prop := vOk v.f0 v.f1 v.f2
instance (v : V) : Decidable (okV v) := by unfold okV; infer_instance
def okR (l : List V) : Bool := l.all fun v => decide (okV v)
def rowE (l : List V) : Int := if l.length > 12 then 2 else if okR l = true then 0 else 1
theorem rowE_zero (l : List V) : rowE l = 0 ↔ l.length ≤ 12 ∧ ∀ v ∈ l, okV v := by
 unfold rowE okR
 by_cases h : l.length > 12
 ·
  rw [if_pos h]; constructor
  ·
   intro h; omega
  ·
   intro h; omega
 ·
  rw [if_neg h]
  by_cases h2 : (l.all fun v => decide (okV v)) = true
  ·
   rw [if_pos h2]
   refine ⟨fun _ => ⟨by omega, fun v hv => ?_⟩, fun _ => rfl⟩
   have := List.all_eq_true.1 h2 v hv
   exact of_decide_eq_true this
  ·
   rw [if_neg h2]
   refine ⟨fun h => by omega, fun ⟨_, h3⟩ => absurd (List.all_eq_true.2 fun v hv => decide_eq_true (h3 v hv)) h2⟩
theorem wrong_eq (v : V) : row_wrong.f v.f0 v.f1 v.f2 = some (!decide (okV v)) := by
 unfold row_wrong.f okV
 rw [check_eq, Option.bind_some]
 by_cases h : vOk v.f0 v.f1 v.f2
 ·
  rw [if_pos h, decide_eq_true h]; rfl
 ·
  rw [if_neg h, decide_eq_false h]; rfl
theorem index_wrong (l : List V) (hl : l.length ≤ 1000000) (m : List V) : ∀ (k i : Nat), l.drop i = m → m.length < k →
  ∃ r, slices_IndexFunc_at_row_wrong.l0 k l (l.length : Int) (i : Int) = some r ∧ (r ≥ 0 ↔ m.all (fun v => decide (okV v)) = false) := by
 induction m with
 | nil =>
  intro k i h hk
  obtain ⟨k, rfl⟩ : ∃ j, k = j + 1 := ⟨k - 1, by omega⟩
  have := dropL_end h
  refine ⟨-1, ?_, by simp⟩
  simp only [slices_IndexFunc_at_row_wrong.l0]
  rw [if_neg z2_]
 | cons v m ih =>
  intro k i h hk
  obtain ⟨k, rfl⟩ : ∃ j, k = j + 1 := ⟨k - 1, by omega⟩
  have hi := dropL_lt h
  simp only [slices_IndexFunc_at_row_wrong.l0]
  rw [if_pos z2_, if_pos z2_, if_pos z2_, rdT_drop h, wrong_eq, Option.bind_some]
  by_cases ho : okV v
  ·
   obtain ⟨r, h1, h2⟩ := ih k (i + 1) (dropL_tail h) (by simp at hk; omega)
   refine ⟨r, ?_, ?_⟩
   ·
    rw [decide_eq_true ho, if_neg z5_, w64 z2_ z2_]; exact h1
   ·
    rw [h2]; simp [ho]
  ·
   refine ⟨i, ?_, ?_⟩
   ·
    rw [decide_eq_false ho, if_pos z5_]
   ·
    simp [ho]
theorem rcheck_eq (k : Nat) (l : List V) (hl : l.length ≤ 1000000) (hk : l.length + 1 ≤ k) : row_Check.f k l = some (rowE l) := by
 unfold row_Check.f rowE
 by_cases h : (l.length : Int) > 12
 ·
  rw [if_pos h, if_pos z2_]
 ·
  obtain ⟨r, h1, h2⟩ := index_wrong l hl l k 0 rfl z2_
  rw [if_neg h, if_neg z2_]
  unfold slices_ContainsFunc_at_row_wrong.f slices_IndexFunc_at_row_wrong.f
  rw [show ((0 : Nat) : Int) = 0 from rfl] at h1
  rw [h1, Option.bind_some, Option.bind_some]
  unfold okR
  cases hz : (l.all fun v => decide (okV v))
  ·
   rw [hz] at h2; rw [decide_eq_true (h2.2 rfl)]; simp
  ·
   rw [hz] at h2; rw [decide_eq_false (fun h => by simpa using h2.1 h)]; simp
theorem refRow_l0 (l : List V) (hl : l.length ≤ 1000000) (m : List V) : ∀ (k i : Nat), l.drop i = m → m.length < k →
  raddleref01_Row.l0 k l (i : Int) = some (if m.all (fun v => decide (okV v)) = true then 0 else 1) := by
 induction m with
 | nil =>
  intro k i h hk
  obtain ⟨k, rfl⟩ : ∃ j, k = j + 1 := ⟨k - 1, by omega⟩
  have := dropL_end h
  simp only [raddleref01_Row.l0]
  rw [if_neg z2_]; rfl
 | cons v m ih =>
  intro k i h hk
  obtain ⟨k, rfl⟩ : ∃ j, k = j + 1 := ⟨k - 1, by omega⟩
  have hi := dropL_lt h
  simp only [raddleref01_Row.l0]
  rw [if_pos z2_, if_pos z2_, rdT_drop h, rvalue_eq, Option.bind_some]
  by_cases ho : okV v
  ·
   rw [decide_eq_true (show vOk v.f0 v.f1 v.f2 from ho), if_pos rfl, w64 z2_ z2_]
   have := ih k (i + 1) (dropL_tail h) (by simp at hk; omega)
   rw [show ((i : Int) + 1) = ((i + 1 : Nat) : Int) from rfl, this]
   simp [ho]
  ·
   rw [decide_eq_false (show ¬ vOk v.f0 v.f1 v.f2 from ho), if_neg z5_]
   simp [ho]
theorem refRow_eq (k : Nat) (l : List V) (hl : l.length ≤ 1000000) (hk : l.length + 1 ≤ k) : raddleref01_Row.f k l = some (rowE l) := by
 unfold raddleref01_Row.f rowE
 by_cases h : (l.length : Int) > 12
 ·
  rw [if_pos h, if_pos z2_]
 ·
  rw [if_neg h, if_neg z2_]
  have := refRow_l0 l hl l k 0 rfl z2_
  exact this
def vB (v : V) : List Int := sVB v.f0 v.f1 v.f2
def rowVs (l : List V) : List Int := l.flatMap vB
def rowB (l : List V) : List Int := (l.length : Int) :: rowVs l
theorem vB_len {v : V} (h : okV v) : 1 ≤ (vB v).length ∧ (vB v).length ≤ 26 := by
 unfold vB; rw [sVB_length h]; unfold okV vOk at h; repeat' split
 all_goals omega
theorem rowVs_len (l : List V) (h : ∀ v ∈ l, okV v) : (rowVs l).length ≤ l.length * 26 ∧ l.length ≤ (rowVs l).length := by
 induction l with
 | nil => simp [rowVs]
 | cons v l ih =>
  have h1 := vB_len (h v List.mem_cons_self)
  have h2 := ih fun x hx => h x (List.mem_cons_of_mem _ hx)
  simp only [rowVs, List.flatMap_cons, List.length_append, List.length_cons] at *
  omega
theorem rowVs_bytes (l : List V) (h : ∀ v ∈ l, okV v) : Bytes (rowVs l) := by
 induction l with
 | nil => exact Bytes.nil
 | cons v l ih =>
  simp only [rowVs, List.flatMap_cons]
  exact (sVB_bytes (h v List.mem_cons_self)).append (ih fun x hx => h x (List.mem_cons_of_mem _ hx))
theorem rowBytes_l0 (l : List V) (hl : l.length ≤ 1000) (ho : ∀ v ∈ l, okV v) (m : List V) : ∀ (k i : Nat) (out : List Int), l.drop i = m → out.length + m.length * 26 ≤ 1000000 → m.length + 40 ≤ k →
    row_Bytes.l0 k out l (l.length : Int) (i : Int) = some (out ++ rowVs m, 0) := by
  induction m with
  | nil =>
    intro k i out h hb hk
    obtain ⟨k, rfl⟩ : ∃ j, k = j + 1 := ⟨k - 1, by omega⟩
    have := dropL_end h
    simp only [row_Bytes.l0]
    rw [if_neg z2_]; simp [rowVs]
  | cons v m ih =>
    intro k i out h hb hk
    obtain ⟨k, rfl⟩ : ∃ j, k = j + 1 := ⟨k - 1, by omega⟩
    have hi := dropL_lt h
    have hv : okV v := ho v (by have : v ∈ l.drop i := by rw [h]; exact List.mem_cons_self
                                exact List.mem_of_mem_drop this)
    have hvl := vB_len hv
    simp only [List.length_cons] at hb hk
    simp only [row_Bytes.l0]
    rw [if_pos z2_, if_pos z2_, if_pos z2_, rdT_drop h, vbytes_eq _ _ _ _ z2_, if_pos (show vOk v.f0 v.f1 v.f2 from hv), Option.bind_some]
    simp only
    rw [if_pos (by show out.length + (vB v).length < _; omega), w64 z2_ z2_]
    have := ih k (i + 1) (out ++ vB v) (dropL_tail h) (by rw [List.length_append]; omega) z2_
    rw [show ((i : Int) + 1) = ((i + 1 : Nat) : Int) from rfl]
    refine Eq.trans this ?_
    simp [rowVs]
theorem rowBytes_eq (k : Nat) (l : List V) (hl : l.length ≤ 1000000) (hk : l.length + 60 ≤ k) : row_Bytes.f k l = some (if rowE l = 0 then (rowB l, 0) else ([], rowE l)) := by
 unfold row_Bytes.f
 rw [rcheck_eq k l hl z2_, Option.bind_some]
 by_cases h : rowE l = 0
 ·
  obtain ⟨h1, h2⟩ := (rowE_zero l).1 h
  have hz := rowBytes_l0 l z2_ h2 l k 0 [((l.length : Int)) % 256] rfl (by rw [List.length_singleton]; omega) z2_
  rw [show ((0 : Nat) : Int) = 0 from rfl] at hz
  rw [if_pos h, if_pos h, hz]
  have : (l.length : Int) % 256 = l.length := by omega
  rw [this]; rfl
 ·
  rw [if_neg h, if_neg h]
def vals (l : List Int) : Nat → Int → List V → List V × Int × Int
 | 0, at_, acc => (acc, at_, 0)
 | n + 1, at_, acc => if (sVRead l at_).2.2.2.2 = 0 then vals l n (sVRead l at_).2.2.2.1 (acc ++ [⟨(sVRead l at_).1, (sVRead l at_).2.1, (sVRead l at_).2.2.1⟩]) else ([], 0, 3)
def sRowRead (l : List Int) (at_ : Int) : List V × Int × Int :=
 if 0 ≤ at_ ∧ at_ ≤ l.length then (if at_ = l.length ∨ rd l at_ > 12 then ([], 0, 3) else vals l (rd l at_).toNat (at_ + 1) []) else ([], 0, 1)
theorem rowRead_l0 (l : List Int) (hb : Bytes l) (hl : l.length ≤ 1000000) (many : Nat) (hm : many ≤ 12) (n : Nat) : ∀ (k : Nat) (at_ : Int) (acc : List V), n ≤ many → 0 ≤ at_ → at_ ≤ l.length → acc.length + n ≤ 100 → n + 40 ≤ k →
  row_Read.l0 k l acc at_ (many : Int) ((many - n : Nat) : Int) = some (vals l n at_ acc) := by
 induction n with
 | zero =>
  intro k at_ acc hn h0 h1 ha hk
  obtain ⟨k, rfl⟩ : ∃ j, k = j + 1 := ⟨k - 1, by omega⟩
  simp only [row_Read.l0]
  rw [if_neg z2_]; rfl
 | succ n ih =>
  intro k at_ acc hn h0 h1 ha hk
  obtain ⟨k, rfl⟩ : ∃ j, k = j + 1 := ⟨k - 1, by omega⟩
  simp only [row_Read.l0, vals]
  rw [if_pos z2_, vread_eq _ _ _ hb hl z2_ z2_, Option.bind_some]
  by_cases hz : (sVRead l at_).2.2.2.2 = 0
  ·
   obtain ⟨_, _, h3, h4, _⟩ := vread_sub hb hz
   rw [if_pos hz, if_pos hz, if_pos z2_, w64 z2_ z2_, show (((many - (n + 1) : Nat) : Int) + 1) = ((many - n : Nat) : Int) from by omega]
   exact ih k _ _ z2_ z2_ h4 (by rw [List.length_append, List.length_singleton]; omega) z2_
  ·
   rw [if_neg hz, if_neg hz]
theorem rowRead_eq (k : Nat) (l : List Int) (at_ : Int) (hb : Bytes l) (hl : l.length ≤ 1000000) (ha : at_ ≤ 9223372036854775807) (hk : 80 ≤ k) : row_Read.f k l at_ = some (sRowRead l at_) := by
 unfold row_Read.f sRowRead
 rw [get_eq _ _ _ _ hb hl ha z2_, Option.bind_some, sGet_one]
 by_cases h : 0 ≤ at_ ∧ at_ ≤ l.length
 rotate_left
 ·
  rw [if_neg h, if_neg h, if_neg z5_]
 rw [if_pos h, if_pos h]
 have hr := hb.rd at_
 unfold Byte at hr
 by_cases h2 : at_ = l.length
 ·
  rw [if_pos h2, if_neg (show ¬ (((0, 0, 3) : Int × Int × Int).2.2 = 0) by decide), if_pos (Or.inl h2)]
 ·
  rw [if_neg h2]
  simp only
  rw [if_pos trivial]
  by_cases h3 : rd l at_ > 12
  ·
   rw [if_pos h3, if_pos (Or.inr h3)]
  ·
   rw [if_neg h3, if_neg z2_]
   have := rowRead_l0 l hb hl (rd l at_).toNat z2_ (rd l at_).toNat k (at_ + 1) [] z2_ z2_ z2_ (by simp; omega) z2_
   rw [Nat.sub_self, Int.toNat_of_nonneg hr.1] at this
   exact this
end Go.Proofs.Ytcbfliajgopdaaa.Plain
end
section
namespace Go.Proofs.Ytcbfliajgopdaaa.Plain
open Go.RowKit Go.Proofs.Ytcbfliajgopdaaa.PAll Go.Proofs.YtcbfliajgopdaaaW.PrintWords Go.Proofs.YtcbfliajgopdaaaW.PrintLast Go.Proofs.YtcbfliajgopdaaaW.PrintMore Go.Proofs.Ytcbfliajgopdaaa.ZipT Go.Proofs.YtcbfliajgopdaaaW.PrintWords.Kd Go.Proofs.YtcbfliajgopdaaaW.PrintMore.Kd
set_option linter.unusedVariables false
set_option linter.unusedSimpArgs false
theorem keepRow_l0 (a b : List V) (ha : a.length ≤ 1000000) (hl : a.length = b.length) (m : List V) : ∀ (k i : Nat), a.drop i = m → m.length < k →
  raddlekeep_Row.l0 k a b (i : Int) = some (decide (m = b.drop i)) := by
 induction m with
 | nil =>
  intro k i h hk
  obtain ⟨k, rfl⟩ : ∃ j, k = j + 1 := ⟨k - 1, by omega⟩
  have h1 := dropL_end h
  simp only [raddlekeep_Row.l0]
  rw [if_neg z2_, List.drop_eq_nil_iff.2 z2_]; simp
 | cons v m ih =>
  intro k i h hk
  obtain ⟨k, rfl⟩ : ∃ j, k = j + 1 := ⟨k - 1, by omega⟩
  have h1 := dropL_lt h
  simp only [raddlekeep_Row.l0]
  cases hd : b.drop i with
  | nil => have h2 := dropL_end hd; omega
  | cons t n =>
   rw [if_pos z2_, if_pos z2_, if_pos z2_, rdT_drop h, rdT_drop hd, keepValue_eq, Option.bind_some, w64 z2_ z2_]
   by_cases hz : v.f0 = t.f0 ∧ v.f1 = t.f1 ∧ v.f2 = t.f2
   ·
    have hv : v = t := V_ext hz.1 hz.2.1 hz.2.2
    have := ih k (i + 1) (dropL_tail h) (by simp at hk; omega)
    rw [decide_eq_true hz, if_pos rfl, show ((i : Int) + 1) = ((i + 1 : Nat) : Int) from rfl, this, dropL_tail hd, hv]
    simp
   ·
    have hv : v ≠ t := fun e => hz (by subst e; exact ⟨rfl, rfl, rfl⟩)
    rw [decide_eq_false hz, if_neg z5_]
    simp [hv]
theorem keepRow_eq (k : Nat) (a b : List V) (ha : a.length ≤ 1000000) (hk : a.length + 1 ≤ k) : raddlekeep_Row.f k a b = some (decide (a = b)) := by
 unfold raddlekeep_Row.f
 by_cases hl : (a.length : Int) = b.length
 ·
  rw [if_pos hl]
  exact keepRow_l0 a b ha z2_ a k 0 rfl z2_
 ·
  rw [if_neg hl, decide_eq_false (fun e => hl (by rw [e]))]
theorem keepInts_l0 (a b : List Int) (ha : a.length ≤ 1000000) (hl : a.length = b.length) (m : List Int) : ∀ (k i : Nat), a.drop i = m → m.length < k →
  raddlekeep_Ints.l0 k a b (i : Int) = some (decide (m = b.drop i)) := by
 induction m with
 | nil =>
  intro k i h hk
  obtain ⟨k, rfl⟩ : ∃ j, k = j + 1 := ⟨k - 1, by omega⟩
  have h1 := dropL_end h
  simp only [raddlekeep_Ints.l0]
  rw [if_neg z2_, List.drop_eq_nil_iff.2 z2_]; simp
 | cons v m ih =>
  intro k i h hk
  obtain ⟨k, rfl⟩ : ∃ j, k = j + 1 := ⟨k - 1, by omega⟩
  have h1 := dropL_lt h
  simp only [raddlekeep_Ints.l0]
  cases hd : b.drop i with
  | nil => have h2 := dropL_end hd; omega
  | cons t n =>
   rw [if_pos z2_, if_pos z2_, if_pos z2_, rdI_drop h, rdI_drop hd, w64 z2_ z2_]
   by_cases hz : v = t
   ·
    have := ih k (i + 1) (dropL_tail h) (by simp at hk; omega)
    rw [if_pos hz, show ((i : Int) + 1) = ((i + 1 : Nat) : Int) from rfl, this, dropL_tail hd, hz]
    simp
   ·
    rw [if_neg hz]
    simp [hz]
theorem keepInts_eq (k : Nat) (a b : List Int) (ha : a.length ≤ 1000000) (hk : a.length + 1 ≤ k) : raddlekeep_Ints.f k a b = some (decide (a = b)) := by
 unfold raddlekeep_Ints.f
 by_cases hl : (a.length : Int) = b.length
 ·
  rw [if_pos hl]
  exact keepInts_l0 a b ha z2_ a k 0 rfl z2_
 ·
  rw [if_neg hl, decide_eq_false (fun e => hl (by rw [e]))]
def heavy (l : List V) : Bool := decide ((l.length : Int) > 40) || l.any isLong
theorem heavy_eq (k : Nat) (l : List V) (hk : 60 ≤ k) : raddlelaw04_Heavy.f k l = some (heavy l) := by
 unfold raddlelaw04_Heavy.f heavy
 by_cases h : (l.length : Int) > 40
 ·
  rw [if_pos h, decide_eq_true h]; rfl
 ·
  rw [if_neg h, decide_eq_false h, long_eq _ _ z2_ z2_]; rfl
theorem heavy_len {l : List V} (h : ¬ heavy l = true) : l.length ≤ 40 := by
 unfold heavy at h
 simp at h
 omega
end Go.Proofs.Ytcbfliajgopdaaa.Plain
end
section
namespace Go.Proofs.Ytcbfliajgopdaaa.Plain
open Go.RowKit Go.Proofs.Ytcbfliajgopdaaa.PAll Go.Proofs.YtcbfliajgopdaaaW.PrintWords Go.Proofs.YtcbfliajgopdaaaW.PrintLast Go.Proofs.YtcbfliajgopdaaaW.PrintMore Go.Proofs.Ytcbfliajgopdaaa.ZipT Go.Proofs.YtcbfliajgopdaaaW.PrintWords.Kd Go.Proofs.YtcbfliajgopdaaaW.PrintMore.Kd
set_option linter.unusedVariables false
set_option linter.unusedSimpArgs false
theorem rowB_bytes {l : List V} (h : rowE l = 0) : Bytes (rowB l) := by
 obtain ⟨h1, h2⟩ := (rowE_zero l).1 h
 exact Bytes.cons ⟨by omega, by omega⟩ (rowVs_bytes l h2)
theorem rowB_len {l : List V} (h : rowE l = 0) : (rowB l).length ≤ 400 := by
 obtain ⟨h1, h2⟩ := (rowE_zero l).1 h
 have := rowVs_len l h2
 simp only [rowB, List.length_cons]; omega
theorem vals_put (m : List V) : ∀ (pre c : List Int) (acc : List V), (∀ v ∈ m, okV v) → vals (pre ++ rowVs m ++ c) m.length pre.length acc = (acc ++ m, ((pre ++ rowVs m).length : Int), 0) := by
 induction m with
 | nil => intro pre c acc h; simp [vals, rowVs]
 | cons v m ih =>
  intro pre c acc h
  have hv := h v List.mem_cons_self
  have e : pre ++ rowVs (v :: m) ++ c = pre ++ sVB v.f0 v.f1 v.f2 ++ (rowVs m ++ c) := by simp [rowVs, vB]
  have g := vread_put pre (rowVs m ++ c) v.f0 v.f1 v.f2 hv
  rw [← e] at g
  simp only [List.length_cons, vals]
  rw [g, if_pos rfl]
  have e2 : pre ++ rowVs (v :: m) ++ c = (pre ++ vB v) ++ rowVs m ++ c := by simp [rowVs]
  have := ih (pre ++ vB v) c (acc ++ [v]) (fun x hx => h x (List.mem_cons_of_mem _ hx))
  rw [← e2, List.length_append] at this
  simp only
  show vals _ m.length ((pre.length : Int) + ((vB v).length : Int)) (acc ++ [v]) = _
  rw [show ((pre.length : Int) + ((vB v).length : Int)) = ((pre.length + (vB v).length : Nat) : Int) from rfl, this]
  simp [rowVs]
end Go.Proofs.Ytcbfliajgopdaaa.Plain
end
section
namespace Go.Proofs.Ytcbfliajgopdaaa.Plain
open Go.RowKit Go.Proofs.Ytcbfliajgopdaaa.PAll Go.Proofs.YtcbfliajgopdaaaW.PrintWords Go.Proofs.YtcbfliajgopdaaaW.PrintLast Go.Proofs.YtcbfliajgopdaaaW.PrintMore Go.Proofs.Ytcbfliajgopdaaa.ZipT Go.Proofs.YtcbfliajgopdaaaW.PrintWords.Kd Go.Proofs.YtcbfliajgopdaaaW.PrintMore.Kd
set_option linter.unusedVariables false
set_option linter.unusedSimpArgs false
theorem sub_sub (l : List Int) (a b c : Nat) (h1 : a ≤ b) (h2 : b ≤ c) (h3 : c ≤ l.length) : sub l a b ++ sub l b c = sub l a c := by
 unfold sub
 have e : l.take b = (l.take c).take b := by rw [List.take_take, Nat.min_eq_left h2]
 rw [e]
 generalize l.take c = x
 rw [List.drop_take]
 have : x.drop b = (x.drop a).drop (b - a) := by rw [List.drop_drop]; congr 1; omega
 rw [this, List.take_append_drop]
theorem vals_sub (l : List Int) (hb : Bytes l) (n : Nat) : ∀ (at_ : Int) (acc : List V), 0 ≤ at_ → at_ ≤ l.length → (vals l n at_ acc).2.2 = 0 →
  ∃ m : List V, (vals l n at_ acc).1 = acc ++ m ∧ m.length = n ∧ (∀ v ∈ m, okV v) ∧ at_ ≤ (vals l n at_ acc).2.1 ∧ (vals l n at_ acc).2.1 ≤ l.length ∧ rowVs m = sub l at_.toNat (vals l n at_ acc).2.1.toNat := by
 induction n with
 | zero =>
  intro at_ acc h0 h1 h
  refine ⟨[], by simp [vals], rfl, by simp, Int.le_refl _, h1, ?_⟩
  symm; apply List.eq_nil_of_length_eq_zero
  simp only [vals]
  rw [sub_length z2_]; omega
 | succ n ih =>
  intro at_ acc h0 h1 h
  simp only [vals] at h ⊢
  by_cases hz : (sVRead l at_).2.2.2.2 = 0
  ·
   rw [if_pos hz] at h ⊢
   obtain ⟨ho, g0, g1, g2, g3⟩ := vread_sub hb hz
   obtain ⟨m, e1, e2, e3, e4, e5, e6⟩ := ih (sVRead l at_).2.2.2.1 (acc ++ [⟨(sVRead l at_).1, (sVRead l at_).2.1, (sVRead l at_).2.2.1⟩]) z2_ g2 h
   refine ⟨⟨(sVRead l at_).1, (sVRead l at_).2.1, (sVRead l at_).2.2.1⟩ :: m, by rw [e1]; simp, by simp [e2], ?_, by omega, e5, ?_⟩
   ·
    intro v hv
    rcases List.mem_cons.1 hv with rfl | hv
    ·
     exact ho
    ·
     exact e3 v hv
   ·
    have hs : rowVs ((⟨(sVRead l at_).1, (sVRead l at_).2.1, (sVRead l at_).2.2.1⟩ : V) :: m) = sVB (sVRead l at_).1 (sVRead l at_).2.1 (sVRead l at_).2.2.1 ++ rowVs m := by simp [rowVs, vB]
    rw [hs, g3, e6]
    exact sub_sub l _ _ _ z2_ z2_ z2_
  ·
   rw [if_neg hz] at h; simp at h
end Go.Proofs.Ytcbfliajgopdaaa.Plain
end
section
namespace Go.Proofs.Ytcbfliajgopdaaa.Ops
open Go.RowKit Go.Proofs.Ytcbfliajgopdaaa.PAll Go.Proofs.Ytcbfliajgopdaaa.Plain Go.Proofs.YtcbfliajgopdaaaW.PrintWords Go.Proofs.Ytcbfliajgopdaaa.ZipT Go.Proofs.YtcbfliajgopdaaaW.PrintWords.Kd Go.Proofs.YtcbfliajgopdaaaW.PrintMore.Kd
set_option linter.unusedVariables false
set_option linter.unusedSimpArgs false
abbrev Ox := S54
abbrev Dt := S50
abbrev St := S26
abbrev Wr := List Int × Bool
def wAdd (s : Wr) (r : List Int × Int) : Wr := (s.1 ++ r.1, s.2 || decide (r.2 ≠ 0))
def wNum (n size : Int) (s : Wr) : Wr := wAdd s (sPut [] n size)
def wText (t : ByteArray) (s : Wr) : Wr := wAdd s (sPutText [] t)
def wOr (b : Bool) (s : Wr) : Wr := (s.1, s.2 || b)
def wAll {α : Type} (f : α → Wr → Wr) : List α → Wr → Wr
 | [], s => s
 | x :: l, s => wAll f l (f x s)
def wNums (l : List Int) (s : Wr) : Wr := wAll (fun n => wNum n 4) l (wNum l.length 1 (wOr (decide (l.length > 5)) s))
def wStamp (t : St) (s : Wr) : Wr := wNum t.f2 1 (wNum t.f1 3 (wNum t.f0 6 s))
def wDot (d : Dt) (s : Wr) : Wr := wNum d.f1 4 (wNum d.f0 1 s)
def wRow (l : List V) (s : Wr) : Wr := wAdd s (if rowE l = 0 then (rowB l, 0) else ([], rowE l))
def wHead (x : Ox) (s : Wr) : Wr := wNum x.f6 1 (wText x.f5 (wNum x.f4 1 (wStamp x.f2 (wNums x.f1 (wDot x.f0 (wNum x.f3 1 s))))))
def wOp (x : Ox) (s : Wr) : Wr := wAll wDot x.f8 (wNum x.f8.length 1 (wOr (decide (x.f8.length > 64)) (wRow x.f7 (wHead x s))))
def sOpBytes (x : Ox) : List Int × Int := if (wOp x ([], false)).2 = true then ([], 1) else ((wOp x ([], false)).1, 0)
abbrev Rr := Int × Bool
def rOf {α : Type} (z : α) (g : α × Int × Int) (r : Rr) : α × Rr := if r.2 = true ∨ g.2.2 ≠ 0 then (z, (r.1, true)) else (g.1, (g.2.1, false))
def rNum (size : Int) (l : List Int) (r : Rr) : Int × Rr := rOf 0 (sGet l r.1 size) r
def rText (l : List Int) (r : Rr) : ByteArray × Rr := rOf ⟨#[]⟩ (sGetText l r.1) r
def rRow (l : List Int) (r : Rr) : List V × Rr := rOf [] (sRowRead l r.1) r
def rMany (size most : Int) (l : List Int) (r : Rr) : Int × Rr := if (rNum size l r).1 > most then (0, ((rNum size l r).2.1, true)) else rNum size l r
def rTimes {α : Type} (f : List Int → Rr → α × Rr) (l : List Int) : Nat → List α → Rr → List α × Rr
 | 0, acc, r => (acc, r)
 | n + 1, acc, r => rTimes f l n (acc ++ [(f l r).1]) (f l r).2
def rNums (l : List Int) (r : Rr) : List Int × Rr := rTimes (rNum 4) l (rMany 1 5 l r).1.toNat [] (rMany 1 5 l r).2
def rStamp (l : List Int) (r : Rr) : St × Rr :=
 (⟨(rNum 6 l r).1, (rNum 3 l (rNum 6 l r).2).1, (rNum 1 l (rNum 3 l (rNum 6 l r).2).2).1⟩, (rNum 1 l (rNum 3 l (rNum 6 l r).2).2).2)
def rDot (l : List Int) (r : Rr) : Dt × Rr := (⟨(rNum 1 l r).1, (rNum 4 l (rNum 1 l r).2).1⟩, (rNum 4 l (rNum 1 l r).2).2)
def rDots (l : List Int) (r : Rr) : List Dt × Rr := rTimes rDot l (rMany 1 64 l r).1.toNat [] (rMany 1 64 l r).2
def zOp : Ox := ⟨⟨0, 0⟩, [], ⟨0, 0, 0⟩, 0, 0, ⟨#[]⟩, 0, [], []⟩
def rHead (l : List Int) (r : Rr) : Ox × Rr :=
 let a := rNum 1 l r
 let b := rDot l a.2
 let c := rNums l b.2
 let d := rStamp l c.2
 let e := rNum 1 l d.2
 let f := rText l e.2
 let g := rNum 1 l f.2
 (⟨b.1, c.1, d.1, a.1, e.1, f.1, g.1, [], []⟩, g.2)
def rOp (l : List Int) (r : Rr) : Ox × Rr :=
 if (rRow l (rHead l r).2).2.2 = true then (zOp, (rRow l (rHead l r).2).2)
 else ({ (rHead l r).1 with f7 := (rRow l (rHead l r).2).1, f8 := (rDots l (rRow l (rHead l r).2).2).1 }, (rDots l (rRow l (rHead l r).2).2).2)
def sOpRead (l : List Int) (at_ : Int) : Ox × Int × Int :=
 if at_ < 0 ∨ at_ > l.length then (zOp, 0, 1)
 else if (rOp l (at_, false)).2.2 = true then (zOp, 0, 3) else ((rOp l (at_, false)).1, (rOp l (at_, false)).2.1, 0)
end Go.Proofs.Ytcbfliajgopdaaa.Ops
end
section
namespace Go.Proofs.Ytcbfliajgopdaaa.Ops
open Go.RowKit Go.Proofs.Ytcbfliajgopdaaa.PAll Go.Proofs.Ytcbfliajgopdaaa.Plain Go.Proofs.YtcbfliajgopdaaaW.PrintWords Go.Proofs.Ytcbfliajgopdaaa.ZipT Go.Proofs.YtcbfliajgopdaaaW.PrintWords.Kd Go.Proofs.YtcbfliajgopdaaaW.PrintMore.Kd
set_option linter.unusedVariables false
set_option linter.unusedSimpArgs false
section
variable {α β : Type}
structure Writes (f : α → Wr → Wr) (enc : α → List Int) (fit : α → Prop) : Prop where
 ok : ∀ x s, fit x → f x s = (s.1 ++ enc x, s.2)
 no : ∀ x s, ¬ fit x → (f x s).2 = true
 stay : ∀ x s, s.2 = true → (f x s).2 = true
theorem Writes.comp {γ : Type} {f : α → Wr → Wr} {g : β → Wr → Wr} {e : α → List Int} {e' : β → List Int} {p : α → Prop} {p' : β → Prop} (hf : Writes f e p) (hg : Writes g e' p') (a : γ → α) (b : γ → β) :
  Writes (fun x s => g (b x) (f (a x) s)) (fun x => e (a x) ++ e' (b x)) (fun x => p (a x) ∧ p' (b x)) where
 ok := fun x s h => by rw [hf.ok _ _ h.1, hg.ok _ _ h.2, List.append_assoc]
 no := fun x s h => by
  by_cases h1 : p (a x)
  ·
   exact hg.no _ _ (fun e => h ⟨h1, e⟩)
  ·
   exact hg.stay _ _ (hf.no _ _ h1)
 stay := fun x s h => hg.stay _ _ (hf.stay _ _ h)
theorem Writes.all {f : α → Wr → Wr} {e : α → List Int} {p : α → Prop} (hf : Writes f e p) : Writes (wAll f) (fun l => l.flatMap e) (fun l => ∀ x ∈ l, p x) where
 ok := fun l => by
  induction l with
  | nil => intro s _; simp [wAll]
  | cons x l ih =>
   intro s h
   rw [wAll, hf.ok _ _ (h x List.mem_cons_self), ih _ (fun y hy => h y (List.mem_cons_of_mem _ hy)), List.flatMap_cons, List.append_assoc]
 no := fun l => by
  induction l with
  | nil => intro s h; exact absurd (fun x hx => by cases hx) h
  | cons x l ih =>
   intro s h
   rw [wAll]
   by_cases h1 : ∀ y ∈ l, p y
   ·
    have h2 : ¬ p x := fun e => h (fun y hy => by rcases List.mem_cons.1 hy with rfl | hy; exact e; exact h1 y hy)
    have : ∀ (l : List α) (s : Wr), s.2 = true → (wAll f l s).2 = true := fun l => by
     induction l with
     | nil => intro s h; exact h
     | cons y l ih => intro s h; rw [wAll]; exact ih _ (hf.stay _ _ h)
    exact this l _ (hf.no _ _ h2)
   ·
    exact ih _ h1
 stay := fun l => by
  induction l with
  | nil => intro s h; exact h
  | cons y l ih => intro s h; rw [wAll]; exact ih _ (hf.stay _ _ h)
theorem Writes.or (c : α → Prop) [DecidablePred c] : Writes (fun x => wOr (decide (c x))) (fun _ => []) (fun x => ¬ c x) where
 ok := fun x s h => by unfold wOr; rw [decide_eq_false h]; simp
 no := fun x s h => by unfold wOr; rw [decide_eq_true (Classical.not_not.1 h)]; simp
 stay := fun x s h => by unfold wOr; rw [h]; rfl
theorem Writes.congr {f : α → Wr → Wr} {e e' : α → List Int} {p p' : α → Prop} (hf : Writes f e p) (he : ∀ x, p x → e x = e' x) (hp : ∀ x, p x ↔ p' x) : Writes f e' p' where
 ok := fun x s h => by rw [hf.ok _ _ ((hp x).2 h), he x ((hp x).2 h)]
 no := fun x s h => hf.no _ _ (fun e => h ((hp x).1 e))
 stay := hf.stay
def fitN (s : Nat) (n : Int) : Prop := 0 ≤ n ∧ n < 256 ^ s
instance (s : Nat) (n : Int) : Decidable (fitN s n) := by unfold fitN; infer_instance
theorem Writes.num (s : Nat) (h1 : 1 ≤ s) (h7 : s ≤ 7) : Writes (fun n => wNum n (s : Int)) (fun n => big n s) (fitN s) where
 ok := fun n t h => by
  unfold wNum wAdd sPut
  rw [if_pos ⟨by omega, by omega, h.1, by rw [Int.toNat_natCast]; exact h.2⟩, Int.toNat_natCast]
  simp
 no := fun n t h => by
  unfold wNum wAdd sPut
  rw [if_neg (fun e => h ⟨e.2.2.1, by have := e.2.2.2; rwa [Int.toNat_natCast] at this⟩)]
  simp
 stay := fun n t h => by unfold wNum wAdd; rw [h]; rfl
def encT (t : ByteArray) : List Int := (t.size : Int) :: bytesOf t
theorem Writes.text : Writes wText encT (fun t => t.size ≤ 24) where
 ok := fun t s h => by unfold wText wAdd sPutText; rw [if_pos h]; simp [encT]
 no := fun t s h => by unfold wText wAdd sPutText; rw [if_neg h]; simp
 stay := fun t s h => by unfold wText wAdd; rw [h]; rfl
theorem Writes.row : Writes wRow rowB (fun l => rowE l = 0) where
 ok := fun l s h => by unfold wRow wAdd; rw [if_pos h]; simp
 no := fun l s h => by unfold wRow wAdd; rw [if_neg h]; simp [h]
 stay := fun l s h => by unfold wRow wAdd; rw [h]; rfl
structure Reads (f : List Int → Rr → α × Rr) (enc : α → List Int) (fit : α → Prop) : Prop where
 bad : ∀ (l : List Int) (r : Rr), r.2 = true → (f l r).2.2 = true
 place : ∀ (l : List Int) (r : Rr), Bytes l → 0 ≤ r.1 → r.1 ≤ l.length → 0 ≤ (f l r).2.1 ∧ (f l r).2.1 ≤ l.length
 got : ∀ (l : List Int) (r : Rr), Bytes l → 0 ≤ r.1 → r.1 ≤ l.length → (f l r).2.2 = false → fit (f l r).1 ∧ r.1 ≤ (f l r).2.1 ∧ enc (f l r).1 = sub l r.1.toNat (f l r).2.1.toNat
 put : ∀ (a c : List Int) (x : α), fit x → f (a ++ enc x ++ c) (a.length, false) = (x, ((a.length : Int) + (enc x).length, false))
theorem Reads.good {f : List Int → Rr → α × Rr} {e : α → List Int} {p : α → Prop} (hf : Reads f e p) {l : List Int} {r : Rr} (h : (f l r).2.2 = false) : r.2 = false := by
 cases hr : r.2
 ·
  rfl
 ·
  rw [hf.bad l r hr] at h; cases h
theorem Reads.comp {f : List Int → Rr → α × Rr} {g : List Int → Rr → β × Rr} {e : α → List Int} {e' : β → List Int} {p : α → Prop} {p' : β → Prop} (hf : Reads f e p) (hg : Reads g e' p') :
  Reads (fun l r => (((f l r).1, (g l (f l r).2).1), (g l (f l r).2).2)) (fun x => e x.1 ++ e' x.2) (fun x => p x.1 ∧ p' x.2) where
 bad := fun l r h => hg.bad _ _ (hf.bad _ _ h)
 place := fun l r hb h0 h1 => by
  obtain ⟨a, b⟩ := hf.place l r hb h0 h1
  exact hg.place l _ hb a b
 got := fun l r hb h0 h1 h => by
  have h : (g l (f l r).2).2.2 = false := h
  have hz := hg.good h
  obtain ⟨a, b⟩ := hf.place l r hb h0 h1
  obtain ⟨f1, f2, f3⟩ := hf.got l r hb h0 h1 hz
  obtain ⟨g1, g2, g3⟩ := hg.got l _ hb a b h
  obtain ⟨c, d⟩ := hg.place l _ hb a b
  refine ⟨⟨f1, g1⟩, Int.le_trans f2 g2, ?_⟩
  show e _ ++ e' _ = _
  rw [f3, g3]
  exact sub_sub l _ _ _ z2_ z2_ z2_
 put := fun a c x h => by
  have h1 := hf.put a (e' x.2 ++ c) x.1 h.1
  have h2 := hg.put (a ++ e x.1) c x.2 h.2
  have e1 : a ++ (e x.1 ++ e' x.2) ++ c = a ++ e x.1 ++ (e' x.2 ++ c) := by simp
  have e2 : a ++ (e x.1 ++ e' x.2) ++ c = a ++ e x.1 ++ e' x.2 ++ c := by simp
  have e3 : ((a.length : Int) + (e x.1).length) = ((a ++ e x.1).length : Int) := by simp
  have h1' : f (a ++ (e x.1 ++ e' x.2) ++ c) (a.length, false) = (x.1, (((a ++ e x.1).length : Int), false)) := by rw [e1, h1, e3]
  have h2' : g (a ++ (e x.1 ++ e' x.2) ++ c) ((a ++ e x.1).length, false) = (x.2, (((a ++ e x.1).length : Int) + (e' x.2).length, false)) := by rw [e2, h2]
  show ((( f _ _).1, (g _ (f _ _).2).1), (g _ (f _ _).2).2) = _
  rw [h1', h2']
  simp only [List.length_append]
  have : ((a.length + (e x.1).length : Nat) : Int) + (e' x.2).length = (a.length : Int) + ((e x.1).length + (e' x.2).length : Nat) := by omega
  rw [this]
theorem Reads.map {f : List Int → Rr → α × Rr} {e : α → List Int} {p : α → Prop} (hf : Reads f e p) (mk : α → β) (un : β → α) (h1 : ∀ x, un (mk x) = x) (h2 : ∀ y, mk (un y) = y) :
  Reads (fun l r => (mk (f l r).1, (f l r).2)) (fun y => e (un y)) (fun y => p (un y)) where
 bad := fun l r h => hf.bad _ _ h
 place := fun l r hb h0 h1 => hf.place l r hb h0 h1
 got := fun l r hb ha hc h => by
  have := hf.got l r hb ha hc h
  show p (un (mk _)) ∧ _ ∧ e (un (mk _)) = _
  rw [h1]; exact this
 put := fun a c y h => by
  show (mk (f _ _).1, (f _ _).2) = _
  rw [hf.put a c (un y) h, h2]
theorem Reads.congr {f f' : List Int → Rr → α × Rr} {e e' : α → List Int} {p p' : α → Prop} (hf : Reads f e p) (hF : ∀ l r, f' l r = f l r) (he : ∀ x, p x → e x = e' x) (hp : ∀ x, p x ↔ p' x) : Reads f' e' p' where
 bad := fun l r h => by rw [hF]; exact hf.bad _ _ h
 place := fun l r hb h0 h1 => by rw [hF]; exact hf.place l r hb h0 h1
 got := fun l r hb ha hc h => by
  rw [hF] at h ⊢
  obtain ⟨a, b, c⟩ := hf.got l r hb ha hc h
  exact ⟨(hp _).1 a, b, by rw [← he _ a]; exact c⟩
 put := fun a c x h => by
  have h' := (hp x).2 h
  rw [hF, ← he x h']; exact hf.put a c x h'
theorem Reads.of {z : α} {g : List Int → Int → α × Int × Int} {e : α → List Int} {p : α → Prop}
  (hs : ∀ l at_, Bytes l → (g l at_).2.2 = 0 → 0 ≤ at_ ∧ p (g l at_).1 ∧ at_ ≤ (g l at_).2.1 ∧ (g l at_).2.1 ≤ l.length ∧ e (g l at_).1 = sub l at_.toNat (g l at_).2.1.toNat)
  (hp : ∀ a c x, p x → g (a ++ e x ++ c) a.length = (x, (a.length : Int) + (e x).length, 0)) : Reads (fun l r => rOf z (g l r.1) r) e p where
 bad := fun l r h => by unfold rOf; rw [if_pos (.inl h)]
 place := fun l r hb h0 h1 => by
  unfold rOf
  by_cases h : r.2 = true ∨ (g l r.1).2.2 ≠ 0
  ·
   rw [if_pos h]; exact ⟨h0, h1⟩
  ·
   rw [if_neg h]
   obtain ⟨a, _, b, c, _⟩ := hs l r.1 hb (Classical.not_not.1 (fun e => h (.inr e)))
   exact ⟨Int.le_trans h0 b, c⟩
 got := fun l r hb h0 h1 h => by
  unfold rOf at h ⊢
  by_cases hc : r.2 = true ∨ (g l r.1).2.2 ≠ 0
  ·
   rw [if_pos hc] at h; cases h
  ·
   rw [if_neg hc]
   obtain ⟨a, b, c, d, e⟩ := hs l r.1 hb (Classical.not_not.1 (fun e => hc (.inr e)))
   exact ⟨b, c, e⟩
 put := fun a c x h => by
  show rOf z (g _ (a.length : Int)) _ = _
  unfold rOf
  rw [hp a c x h, if_neg (by rintro (e | e); cases e; exact e rfl)]
theorem Reads.num (s : Nat) (h1 : 1 ≤ s) (h7 : s ≤ 7) : Reads (rNum (s : Int)) (fun n => big n s) (fitN s) :=
 Reads.of (z := (0 : Int)) (g := fun l at_ => sGet l at_ (s : Int)) (e := fun n => big n s) (p := fitN s)
  (fun l at_ hb h => by
   unfold sGet at h ⊢
   by_cases c : 1 ≤ (s : Int) ∧ (s : Int) ≤ 7 ∧ 0 ≤ at_ ∧ at_ ≤ l.length
   ·
    rw [if_pos c] at h ⊢
    by_cases d : (l.length : Int) - at_ < (s : Int)
    ·
     rw [if_pos d] at h; simp at h
    ·
     rw [if_neg d]
     have hl : (sub l at_.toNat (at_ + (s : Int)).toNat).length = s := by rw [sub_length z2_]; omega
     have hbs := sub_bytes hb at_.toNat (at_ + (s : Int)).toNat
     refine ⟨c.2.2.1, ⟨val_nonneg _ 0 z2_ hbs, ?_⟩, by show at_ ≤ at_ + _; omega, by show at_ + (s : Int) ≤ _; omega, ?_⟩
     ·
      have := val_lt _ 0 z2_ hbs
      rw [hl] at this
      simpa using this
     ·
      have := big_val _ hbs
      rw [hl] at this
      exact this
   ·
    rw [if_neg c] at h; simp at h)
  (fun a c x h => by
   have := get_put a c x s h1 h7 h.1 h.2
   show sGet _ _ _ = _
   rw [this, big_length])
theorem Reads.text : Reads rText encT (fun t => t.size ≤ 24) :=
 Reads.of (z := (⟨#[]⟩ : ByteArray)) (g := fun l at_ => sGetText l at_) (e := encT) (p := fun t => t.size ≤ 24)
  (fun l at_ hb h => by
   obtain ⟨⟨a, b⟩, c, d⟩ := getText_sub hb h
   exact ⟨c, getText_bd hb h, by show at_ ≤ (sGetText l at_).2.1; omega, b, d⟩)
  (fun a c x h => by
   have := getText_put a c x h
   show sGetText (a ++ encT x ++ c) _ = _
   unfold encT
   rw [this]
   simp [bytesOf_length]; omega)
theorem times_acc (f : List Int → Rr → α × Rr) (l : List Int) (n : Nat) : ∀ (acc : List α) (r : Rr), rTimes f l n acc r = (acc ++ (rTimes f l n [] r).1, (rTimes f l n [] r).2) := by
 induction n with
 | zero => intro acc r; simp [rTimes]
 | succ n ih =>
  intro acc r
  rw [rTimes, rTimes, ih, ih ([] ++ [(f l r).1])]
  simp
theorem times_succ (f : List Int → Rr → α × Rr) (l : List Int) (n : Nat) (r : Rr) : rTimes f l (n + 1) [] r = ((f l r).1 :: (rTimes f l n [] (f l r).2).1, (rTimes f l n [] (f l r).2).2) := by
 rw [rTimes, times_acc]; simp
theorem Reads.times {f : List Int → Rr → α × Rr} {e : α → List Int} {p : α → Prop} (hf : Reads f e p) (n : Nat) :
  Reads (fun l r => rTimes f l n [] r) (fun xs => xs.flatMap e) (fun xs => xs.length = n ∧ ∀ x ∈ xs, p x) := by
 induction n with
 | zero =>
  exact {
   bad := fun l r h => h
   place := fun l r hb h0 h1 => ⟨h0, h1⟩
   got := fun l r hb h0 h1 h => ⟨⟨rfl, fun x hx => by cases hx⟩, Int.le_refl _, by show ([] : List Int) = _; unfold sub; simp [rTimes]⟩
   put := fun a c x h => by
    obtain rfl : x = [] := List.length_eq_zero_iff.1 h.1
    simp [rTimes] }
 | succ n ih =>
  have hc := hf.comp ih
  exact {
   bad := fun l r h => by show (rTimes f l (n + 1) [] r).2.2 = true; rw [times_succ]; exact hc.bad l r h
   place := fun l r hb h0 h1 => by show 0 ≤ (rTimes f l (n + 1) [] r).2.1 ∧ (rTimes f l (n + 1) [] r).2.1 ≤ _; rw [times_succ]; exact hc.place l r hb h0 h1
   got := fun l r hb h0 h1 h => by
    have h : (rTimes f l (n + 1) [] r).2.2 = false := h
    show ((rTimes f l (n + 1) [] r).1.length = n + 1 ∧ ∀ x ∈ (rTimes f l (n + 1) [] r).1, p x) ∧ r.1 ≤ (rTimes f l (n + 1) [] r).2.1 ∧ (rTimes f l (n + 1) [] r).1.flatMap e = sub l r.1.toNat (rTimes f l (n + 1) [] r).2.1.toNat
    rw [times_succ] at h ⊢
    obtain ⟨⟨a, b, c⟩, d, g⟩ := hc.got l r hb h0 h1 h
    refine ⟨⟨by rw [List.length_cons]; exact congrArg (· + 1) b, fun x hx => ?_⟩, d, by rw [List.flatMap_cons]; exact g⟩
    rcases List.mem_cons.1 hx with rfl | hx
    ·
     exact a
    ·
     exact c x hx
   put := fun a c x h => by
    cases x with
    | nil => simp at h
    | cons y ys =>
     have := hc.put a c (y, ys) ⟨h.2 y List.mem_cons_self, by show ys.length = n; have := h.1; rw [List.length_cons] at this; omega, fun x hx => h.2 x (List.mem_cons_of_mem _ hx)⟩
     show rTimes f _ (n + 1) [] _ = _
     rw [List.flatMap_cons, times_succ]
     have h1 := congrArg (fun z => z.1.1) this
     have h2 := congrArg (fun z => z.1.2) this
     have h3 := congrArg (fun z => z.2) this
     exact Prod.ext (by show (_ :: _ : List α) = _; exact _root_.congr (congrArg List.cons h1) h2) h3 }
theorem rMany_bad {size most : Int} {l : List Int} {r : Rr} (h : r.2 = true) : (rMany size most l r).2.2 = true := by
 unfold rMany
 split
 ·
  rfl
 ·
  unfold rNum rOf; rw [if_pos (.inl h)]
theorem Reads.many {f : List Int → Rr → α × Rr} {e : α → List Int} {p : α → Prop} (hf : Reads f e p) (s : Nat) (h1 : 1 ≤ s) (h7 : s ≤ 7) (most : Nat) (hm : (most : Int) < 256 ^ s) :
  Reads (fun l r => rTimes f l (rMany (s : Int) most l r).1.toNat [] (rMany (s : Int) most l r).2) (fun xs => big xs.length s ++ xs.flatMap e) (fun xs => xs.length ≤ most ∧ ∀ x ∈ xs, p x) where
 bad := fun l r h => (hf.times _).bad l _ (rMany_bad h)
 place := fun l r hb h0 h1' => by
  obtain ⟨a, b⟩ := (Reads.num s h1 h7).place l r hb h0 h1'
  refine (hf.times _).place l _ hb ?_ ?_ <;> · unfold rMany; split <;> assumption
 got := fun l r hb h0 h1' h => by
  have hN := Reads.num s h1 h7
  have hT := hf.times (rMany (s : Int) most l r).1.toNat
  have h : (rTimes f l (rMany (s : Int) most l r).1.toNat [] (rMany (s : Int) most l r).2).2.2 = false := h
  have hz := hT.good h
  have hle : ¬ (rNum (s : Int) l r).1 > most := fun e => by unfold rMany at hz; rw [if_pos e] at hz; cases hz
  have hM : rMany (s : Int) most l r = rNum (s : Int) l r := if_neg hle
  rw [hM] at h hz hT ⊢
  obtain ⟨a, b⟩ := hN.place l r hb h0 h1'
  obtain ⟨c1, c2, c3⟩ := hN.got l r hb h0 h1' hz
  obtain ⟨d1, d2, d3⟩ := hT.got l _ hb a b h
  obtain ⟨e1, e2⟩ := hT.place l _ hb a b
  have h0' : 0 ≤ (rNum (s : Int) l r).1 := c1.1
  refine ⟨⟨by show List.length _ ≤ most; rw [d1.1]; omega, d1.2⟩, Int.le_trans c2 d2, ?_⟩
  show big (List.length _ : Int) s ++ List.flatMap e _ = _
  rw [d1.1, show (((rNum (s : Int) l r).1.toNat : Nat) : Int) = (rNum (s : Int) l r).1 by omega, d3]
  rw [c3]
  exact sub_sub l _ _ _ z2_ z2_ z2_
 put := fun a c xs h => by
  have hN := (Reads.num s h1 h7).put a (xs.flatMap e ++ c) (xs.length : Int) ⟨by omega, by have := h.1; omega⟩
  have e1 : a ++ (big xs.length s ++ xs.flatMap e) ++ c = a ++ big xs.length s ++ (xs.flatMap e ++ c) := by simp
  have e2 : a ++ (big xs.length s ++ xs.flatMap e) ++ c = (a ++ big xs.length s) ++ xs.flatMap e ++ c := by simp
  have hM : rMany (s : Int) most (a ++ (big xs.length s ++ xs.flatMap e) ++ c) (a.length, false) = ((xs.length : Int), ((a.length : Int) + s, false)) := by
   unfold rMany
   rw [e1, hN, if_neg (by show ¬ (xs.length : Int) > most; have := h.1; omega), big_length]
  show rTimes f _ (rMany _ _ _ _).1.toNat [] (rMany _ _ _ _).2 = _
  rw [hM]
  show rTimes f _ ((xs.length : Int).toNat) [] _ = _
  rw [Int.toNat_natCast]
  have hT := (hf.times xs.length).put (a ++ big xs.length s) c xs ⟨rfl, h.2⟩
  rw [← e2] at hT
  rw [show ((a.length : Int) + s, false) = (((a ++ big xs.length s).length : Int), false) by simp [big_length]]
  refine Eq.trans hT ?_
  simp [big_length]; omega
end
end Go.Proofs.Ytcbfliajgopdaaa.Ops
end
section
namespace Go.Proofs.Ytcbfliajgopdaaa.Ops
open Go.RowKit Go.Proofs.Ytcbfliajgopdaaa.PAll Go.Proofs.Ytcbfliajgopdaaa.Plain Go.Proofs.YtcbfliajgopdaaaW.PrintWords Go.Proofs.Ytcbfliajgopdaaa.ZipT Go.Proofs.YtcbfliajgopdaaaW.PrintWords.Kd Go.Proofs.YtcbfliajgopdaaaW.PrintMore.Kd
set_option linter.unusedVariables false
set_option linter.unusedSimpArgs false
theorem row_got {l : List Int} {at_ : Int} (hb : Bytes l) (h : (sRowRead l at_).2.2 = 0) :
  rowE (sRowRead l at_).1 = 0 ∧ 0 ≤ at_ ∧ at_ ≤ (sRowRead l at_).2.1 ∧ (sRowRead l at_).2.1 ≤ l.length ∧ rowB (sRowRead l at_).1 = sub l at_.toNat (sRowRead l at_).2.1.toNat := by
 unfold sRowRead at h ⊢
 by_cases h1 : 0 ≤ at_ ∧ at_ ≤ l.length
 rotate_left
 ·
  rw [if_neg h1] at h; simp at h
 rw [if_pos h1] at h ⊢
 by_cases h2 : at_ = l.length ∨ rd l at_ > 12
 ·
  rw [if_pos h2] at h; simp at h
 rw [if_neg h2] at h ⊢
 have hr := hb.rd at_
 unfold Byte at hr
 obtain ⟨m, e1, e2, e3, e4, e5, e6⟩ := vals_sub l hb (rd l at_).toNat (at_ + 1) [] z2_ z2_ h
 rw [List.nil_append] at e1
 rw [e1]
 refine ⟨(rowE_zero m).2 ⟨by omega, e3⟩, h1.1, by omega, e5, ?_⟩
 unfold rowB
 rw [e6]
 obtain ⟨i, rfl⟩ := Int.eq_ofNat_of_zero_le h1.1
 rw [Int.toNat_natCast, show ((i : Int) + 1).toNat = i + 1 from by omega, sub_cons (i := i) z2_ z2_]
 congr 1
 omega
theorem row_at (a c : List Int) (l : List V) (h : rowE l = 0) : sRowRead (a ++ rowB l ++ c) a.length = (l, (a.length : Int) + (rowB l).length, 0) := by
 obtain ⟨h1, h2⟩ := (rowE_zero l).1 h
 have e : a ++ rowB l ++ c = a ++ (l.length : Int) :: (rowVs l ++ c) := by simp [rowB]
 have e2 : a ++ rowB l ++ c = (a ++ [(l.length : Int)]) ++ rowVs l ++ c := by simp [rowB]
 have hl : (a ++ rowB l ++ c).length = a.length + 1 + (rowVs l).length + c.length := by simp [rowB]; omega
 have hr : rd (a ++ rowB l ++ c) (a.length : Int) = l.length := by rw [e]; exact rd_mid _ _ _ rfl
 unfold sRowRead
 rw [if_pos z2_, hr, if_neg z2_, Int.toNat_natCast]
 have := vals_put l (a ++ [(l.length : Int)]) c [] h2
 rw [← e2] at this
 rw [show ((a.length : Int) + 1) = ((a ++ [(l.length : Int)]).length : Int) by simp, this]
 simp [rowB]
theorem Reads.row : Reads rRow rowB (fun l => rowE l = 0) :=
 Reads.of (z := ([] : List V)) (g := fun l at_ => sRowRead l at_) (e := rowB) (p := fun l => rowE l = 0)
  (fun l at_ hb h => by
   obtain ⟨a, b, c, d, e⟩ := row_got hb h
   exact ⟨b, a, c, d, e⟩)
  (fun a c x h => row_at a c x h)
def dotB (d : Dt) : List Int := big d.f0 1 ++ big d.f1 4
def dotFit (d : Dt) : Prop := fitN 1 d.f0 ∧ fitN 4 d.f1
instance (d : Dt) : Decidable (dotFit d) := by unfold dotFit; infer_instance
def stampB (t : St) : List Int := big t.f0 6 ++ big t.f1 3 ++ big t.f2 1
def stampFit (t : St) : Prop := (fitN 6 t.f0 ∧ fitN 3 t.f1) ∧ fitN 1 t.f2
instance (d : St) : Decidable (stampFit d) := by unfold stampFit; infer_instance
def numsB (l : List Int) : List Int := big l.length 1 ++ l.flatMap fun n => big n 4
def numsFit (l : List Int) : Prop := l.length ≤ 5 ∧ ∀ n ∈ l, fitN 4 n
instance (l : List Int) : Decidable (numsFit l) := by unfold numsFit; infer_instance
def dotsB (l : List Dt) : List Int := big l.length 1 ++ l.flatMap dotB
def dotsFit (l : List Dt) : Prop := l.length ≤ 64 ∧ ∀ d ∈ l, dotFit d
instance (l : List Dt) : Decidable (dotsFit l) := by unfold dotsFit; infer_instance
def opB (x : Ox) : List Int := big x.f3 1 ++ dotB x.f0 ++ numsB x.f1 ++ stampB x.f2 ++ big x.f4 1 ++ encT x.f5 ++ big x.f6 1 ++ rowB x.f7 ++ dotsB x.f8
def opFit (x : Ox) : Prop := (((((((fitN 1 x.f3 ∧ dotFit x.f0) ∧ numsFit x.f1) ∧ stampFit x.f2) ∧ fitN 1 x.f4) ∧ x.f5.size ≤ 24) ∧ fitN 1 x.f6) ∧ rowE x.f7 = 0) ∧ dotsFit x.f8
instance (x : Ox) : Decidable (opFit x) := by unfold opFit; infer_instance
theorem Writes.dot : Writes wDot dotB dotFit := (Writes.num 1 z5_ z5_).comp (Writes.num 4 z5_ z5_) (fun d : Dt => d.f0) (fun d => d.f1)
theorem Writes.stamp : Writes wStamp stampB stampFit :=
 ((Writes.num 6 z5_ z5_).comp (Writes.num 3 z5_ z5_) (fun d : St => d.f0) (fun d => d.f1)).comp (Writes.num 1 z5_ z5_) id (fun d : St => d.f2)
theorem Writes.nums : Writes wNums numsB numsFit :=
 (((Writes.or (fun l : List Int => l.length > 5)).comp (Writes.num 1 z5_ z5_) id (fun l : List Int => (l.length : Int))).comp (Writes.all (Writes.num 4 z5_ z5_)) id id).congr
  (fun l _ => by simp [numsB]) (fun l => ⟨fun h => ⟨by have := h.1.1; simp at this; exact this, h.2⟩, fun h => ⟨⟨by have := h.1; simp; omega, by have := h.1; exact ⟨by omega, by show (l.length : Int) < 256 ^ 1; omega⟩⟩, h.2⟩⟩)
theorem Writes.dots : Writes (fun l s => wAll wDot l (wNum l.length 1 (wOr (decide (l.length > 64)) s))) dotsB dotsFit :=
 (((Writes.or (fun l : List Dt => l.length > 64)).comp (Writes.num 1 z5_ z5_) id (fun l : List Dt => (l.length : Int))).comp (Writes.all Writes.dot) id id).congr
  (fun l _ => by simp [dotsB]) (fun l => ⟨fun h => ⟨by have := h.1.1; simp at this; exact this, h.2⟩, fun h => ⟨⟨by have := h.1; simp; omega, by have := h.1; exact ⟨by omega, by show (l.length : Int) < 256 ^ 1; omega⟩⟩, h.2⟩⟩)
theorem Writes.op : Writes wOp opB opFit :=
 (((((((((Writes.num 1 z5_ z5_).comp Writes.dot (fun x : Ox => x.f3) (fun x : Ox => x.f0)).comp Writes.nums id (fun x : Ox => x.f1)).comp Writes.stamp id (fun x : Ox => x.f2)).comp (Writes.num 1 z5_ z5_) id (fun x : Ox => x.f4)).comp Writes.text id (fun x : Ox => x.f5)).comp (Writes.num 1 z5_ z5_) id (fun x : Ox => x.f6)).comp Writes.row id (fun x : Ox => x.f7)).comp Writes.dots id (fun x : Ox => x.f8))
theorem opBytes_eq (x : Ox) : sOpBytes x = if opFit x then (opB x, 0) else ([], 1) := by
 unfold sOpBytes
 by_cases h : opFit x
 ·
  rw [if_pos h, Writes.op.ok x _ h]; simp
 ·
  rw [if_neg h, Writes.op.no x _ h, if_pos rfl]
theorem Reads.dot : Reads rDot dotB dotFit :=
 ((Reads.num 1 z5_ z5_).comp (Reads.num 4 z5_ z5_)).map (fun p => (⟨p.1, p.2⟩ : Dt)) (fun d => (d.f0, d.f1)) (fun _ => rfl) (fun _ => rfl)
theorem Reads.stamp : Reads rStamp stampB stampFit :=
 (((Reads.num 6 z5_ z5_).comp (Reads.num 3 z5_ z5_)).comp (Reads.num 1 z5_ z5_)).map (fun p => (⟨p.1.1, p.1.2, p.2⟩ : St)) (fun d => ((d.f0, d.f1), d.f2)) (fun _ => rfl) (fun _ => rfl)
theorem Reads.nums : Reads rNums numsB numsFit := (Reads.num 4 z5_ z5_).many 1 z5_ z5_ 5 z5_
theorem Reads.dots : Reads rDots dotsB dotsFit := Reads.dot.many 1 z5_ z5_ 64 z5_
theorem Reads.head : Reads (fun l r => (((rHead l r).1.f3, (rHead l r).1.f0, (rHead l r).1.f1, (rHead l r).1.f2, (rHead l r).1.f4, (rHead l r).1.f5, (rHead l r).1.f6), (rHead l r).2))
  (fun p => big p.1 1 ++ dotB p.2.1 ++ numsB p.2.2.1 ++ stampB p.2.2.2.1 ++ big p.2.2.2.2.1 1 ++ encT p.2.2.2.2.2.1 ++ big p.2.2.2.2.2.2 1)
  (fun p => ((((((fitN 1 p.1 ∧ dotFit p.2.1) ∧ numsFit p.2.2.1) ∧ stampFit p.2.2.2.1) ∧ fitN 1 p.2.2.2.2.1) ∧ p.2.2.2.2.2.1.size ≤ 24) ∧ fitN 1 p.2.2.2.2.2.2)) :=
 (((((((Reads.num 1 z5_ z5_).comp Reads.dot).comp Reads.nums).comp Reads.stamp).comp (Reads.num 1 z5_ z5_)).comp Reads.text).comp (Reads.num 1 z5_ z5_)).map
  (fun p => (p.1.1.1.1.1.1, p.1.1.1.1.1.2, p.1.1.1.1.2, p.1.1.1.2, p.1.1.2, p.1.2, p.2)) (fun p => ((((((p.1, p.2.1), p.2.2.1), p.2.2.2.1), p.2.2.2.2.1), p.2.2.2.2.2.1), p.2.2.2.2.2.2)) (fun _ => rfl) (fun _ => rfl)
def rOpC (l : List Int) (r : Rr) : Ox × Rr :=
 ({ (rHead l r).1 with f7 := (rRow l (rHead l r).2).1, f8 := (rDots l (rRow l (rHead l r).2).2).1 }, (rDots l (rRow l (rHead l r).2).2).2)
theorem Reads.opC : Reads rOpC opB opFit :=
 ((Reads.head.comp Reads.row).comp Reads.dots).map
  (fun p => (⟨p.1.1.2.1, p.1.1.2.2.1, p.1.1.2.2.2.1, p.1.1.1, p.1.1.2.2.2.2.1, p.1.1.2.2.2.2.2.1, p.1.1.2.2.2.2.2.2, p.1.2, p.2⟩ : Ox)) (fun x => (((x.f3, x.f0, x.f1, x.f2, x.f4, x.f5, x.f6), x.f7), x.f8)) (fun _ => rfl) (fun _ => rfl)
theorem rOp_good {l : List Int} {r : Rr} (h : (rRow l (rHead l r).2).2.2 = false) : rOp l r = rOpC l r := by
 unfold rOp; rw [if_neg (by rw [h]; decide)]; rfl
theorem rOp_bad {l : List Int} {r : Rr} (h : (rRow l (rHead l r).2).2.2 = true) : rOp l r = (zOp, (rRow l (rHead l r).2).2) := by
 unfold rOp; rw [if_pos h]
theorem rOpC_good {l : List Int} {r : Rr} (h : (rOpC l r).2.2 = false) : (rRow l (rHead l r).2).2.2 = false := Reads.dots.good h
theorem Reads.op : Reads rOp opB opFit where
 bad := fun l r h => by
  cases hr : (rRow l (rHead l r).2).2.2
  ·
   rw [rOp_good hr]; exact Reads.opC.bad l r h
  ·
   rw [rOp_bad hr]; exact hr
 place := fun l r hb h0 h1 => by
  cases hr : (rRow l (rHead l r).2).2.2
  ·
   rw [rOp_good hr]; exact Reads.opC.place l r hb h0 h1
  ·
   rw [rOp_bad hr]
   obtain ⟨a, b⟩ := Reads.head.place l r hb h0 h1
   exact Reads.row.place l _ hb a b
 got := fun l r hb h0 h1 h => by
  cases hr : (rRow l (rHead l r).2).2.2
  ·
   rw [rOp_good hr] at h ⊢; exact Reads.opC.got l r hb h0 h1 h
  ·
   rw [rOp_bad hr] at h; exact absurd (hr.symm.trans h) z5_
 put := fun a c x h => by
  have := Reads.opC.put a c x h
  rw [rOp_good (rOpC_good (by rw [this])), this]
theorem opRead_put (a c : List Int) (x : Ox) (h : opFit x) : sOpRead (a ++ opB x ++ c) a.length = (x, (a.length : Int) + (opB x).length, 0) := by
 unfold sOpRead
 rw [if_neg (by simp; omega), Reads.op.put a c x h, if_neg (by simp)]
theorem opB_len (x : Ox) (h : opFit x) : 22 ≤ (opB x).length ∧ (opB x).length ≤ 1000 := by
 obtain ⟨⟨⟨⟨⟨⟨⟨⟨k, d⟩, n⟩, t⟩, b⟩, y⟩, c⟩, v⟩, z⟩ := h
 have hr := rowB_len v
 have hr1 : 1 ≤ (rowB x.f7).length := by simp [rowB]
 have h1 : (x.f1.flatMap fun n => big n 4).length = 4 * x.f1.length := by
  have : ∀ l : List Int, (l.flatMap fun n => big n 4).length = 4 * l.length := fun l => by
   induction l with
   | nil => rfl
   | cons a l ih => rw [List.flatMap_cons, List.length_append, ih, big_length, List.length_cons]; omega
  exact this _
 have h2 : (x.f8.flatMap dotB).length = 5 * x.f8.length := by
  have : ∀ l : List Dt, (l.flatMap dotB).length = 5 * l.length := fun l => by
   induction l with
   | nil => rfl
   | cons a l ih => rw [List.flatMap_cons, List.length_append, ih, List.length_cons]; simp [dotB, big_length]; omega
  exact this _
 have := n.1
 have := z.1
 simp only [opB, dotB, numsB, stampB, dotsB, encT, List.length_append, big_length, h1, h2, List.length_cons, bytesOf_length]
 omega
end Go.Proofs.Ytcbfliajgopdaaa.Ops
end
section
namespace Go.Proofs.Ytcbfliajgopdaaa.Ops
open Go.RowKit Go.Proofs.Ytcbfliajgopdaaa.PAll Go.Proofs.Ytcbfliajgopdaaa.Plain Go.Proofs.YtcbfliajgopdaaaW.PrintWords Go.Proofs.YtcbfliajgopdaaaW.PrintMore Go.Proofs.Ytcbfliajgopdaaa.ZipT Go.Proofs.YtcbfliajgopdaaaW.PrintWords.Kd Go.Proofs.YtcbfliajgopdaaaW.PrintMore.Kd
set_option linter.unusedVariables false
set_option linter.unusedSimpArgs false
def badSeq (c : Int) : Bool := decide (c < 0 ∨ c > 1073741824)
def vecE (l : List Int) : Int := if l.length < 1 ∨ l.length > 5 then 2 else if l.any badSeq = true then 1 else 0
def stampOk (t : St) : Prop := ((0 ≤ t.f0 ∧ t.f0 ≤ 1099511627776) ∧ (0 ≤ t.f1 ∧ t.f1 ≤ 65536)) ∧ (0 ≤ t.f2 ∧ t.f2 ≤ 4)
instance (t : St) : Decidable (stampOk t) := by unfold stampOk; infer_instance
theorem rdD_drop {l : List Dt} {i : Nat} {v : Dt} {m : List Dt} (h : l.drop i = v :: m) : rd_T50 l (i : Int) = v := by
 show l.getD ((i : Int).toNat) _ = v
 rw [Int.toNat_natCast, List.getD_eq_getElem?_getD]
 have : l[i]? = (l.drop i)[0]? := by rw [List.getElem?_drop]; simp
 rw [this, h]; rfl
def wholeP (n : Int) (x : Ox) : Prop := (0 ≤ x.f0.f0 ∧ x.f0.f0 < n) ∧ (1 ≤ x.f0.f1 ∧ x.f0.f1 ≤ 1073741824) ∧ (x.f1.length : Int) = n ∧ vecE x.f1 = 0 ∧ rd x.f1 x.f0.f0 = x.f0.f1 - 1 ∧ stampOk x.f2 ∧ x.f2.f2 = x.f0.f0
instance (n : Int) (x : Ox) : Decidable (wholeP n x) := by unfold wholeP; infer_instance
end Go.Proofs.Ytcbfliajgopdaaa.Ops
end
section
namespace Go.Proofs.Ytcbfliajgopdaaa.Sep
open Go.RowKit Go.Proofs.YtcbfliajgopdaaaW.PrintWords Go.Proofs.Ytcbfliajgopdaaa.ZipT Go.Proofs.YtcbfliajgopdaaaW.PrintWords.Kd Go.Proofs.YtcbfliajgopdaaaW.PrintMore.Kd
set_option linter.unusedVariables false
structure Moved (w w' : World) (S : Nat → Prop) : Prop where
 os : w'.os = w.os
 tape : w'.tape = w.tape
 output : w'.output = w.output
 size : w.heap.size ≤ w'.heap.size
 block : ∀ k, k < w.heap.size → ¬ S k → w'.heap[k]? = w.heap[k]?
theorem Moved.refl (w : World) (S : Nat → Prop) : Moved w w S := ⟨rfl, rfl, rfl, Nat.le_refl _, fun _ _ _ => rfl⟩
theorem Moved.trans {w w1 w2 : World} {S S1 : Nat → Prop} (h : Moved w w1 S) (k : Moved w1 w2 S1) (hs : ∀ i, i < w.heap.size → S1 i → S i) : Moved w w2 S :=
 ⟨k.os.trans h.os, k.tape.trans h.tape, k.output.trans h.output, Nat.le_trans h.size k.size, fun i hi hn =>
  (k.block i (Nat.lt_of_lt_of_le hi h.size) (fun e => hn (hs i hi e))).trans (h.block i hi hn)⟩
theorem Moved.wider {w w' : World} {S S' : Nat → Prop} (h : Moved w w' S) (hs : ∀ i, i < w.heap.size → S i → S' i) : Moved w w' S' :=
 ⟨h.os, h.tape, h.output, h.size, fun i hi hn => h.block i hi (fun e => hn (hs i hi e))⟩
theorem Moved.of_below {w w' : World} (h : Below w.heap.size w w') (S : Nat → Prop) : Moved w w' S := ⟨h.os, h.tape, h.output, h.size, fun i hi _ => h.block i hi⟩
theorem Moved.of_grown {w w' : World} {row : Option Nat} (h : w.grownBy w' row) {S : Nat → Prop} (hr : ∀ i, row = some i → i < w.heap.size → S i) : Moved w w' S :=
 ⟨h.os, h.tape, h.output, h.size, fun i hi hn => h.block i hi (fun e => hn (hr i e.symm hi))⟩
theorem Moved.set {w w1 : World} {S : Nat → Prop} (h : Moved w w1 S) {p : Addr} (hp : p.block < w.heap.size → S p.block) (u : Value) : Moved w (w1.setCell p u) S :=
 h.trans (S1 := fun i => i = p.block) ⟨rfl, rfl, rfl, by simp [World.setCell], fun i _ hn => Below.heap_setCell w1 p u i hn⟩ (fun i hi e => by subst e; exact hp hi)
theorem Moved.alloc {w w1 : World} {S : Nat → Prop} (h : Moved w w1 S) (o : Obj) : Moved w (w1.alloc o) S :=
 h.trans (S1 := fun _ => False) (Moved.of_below (below_alloc (Below.refl _ _) o) _) (fun _ _ e => e.elim)
theorem Moved.drewN {w w1 : World} {S : Nat → Prop} (h : Moved w w1 S) (n : Nat) : Moved w (w1.drewN n) S := ⟨h.os, h.tape, h.output, h.size, h.block⟩
theorem Moved.drew {w w1 : World} {S : Nat → Prop} (h : Moved w w1 S) : Moved w w1.drew S := ⟨h.os, h.tape, h.output, h.size, h.block⟩
theorem Moved.below {w w1 w2 : World} {S : Nat → Prop} (h : Moved w w1 S) (k : Below w1.heap.size w1 w2) : Moved w w2 S :=
 h.trans (S1 := fun _ => False) (Moved.of_below k _) (fun _ _ e => e.elim)
theorem Moved.blk {w w' : World} {S : Nat → Prop} (h : Moved w w' S) {g : Nat} {o : Obj} (hg : w.heap[g]? = some o) (hn : ¬ S g) : w'.heap[g]? = some o :=
 (h.block g (Array.getElem?_eq_some_iff.1 hg).1 hn).trans hg
structure Part where
 P : World → (Nat → Prop) → Prop
 mono : ∀ {w ok ok'}, P w ok → (∀ k, k < w.heap.size → ok k → ok' k) → P w ok'
 move : ∀ {w w' ok}, P w ok → Moved w w' (fun k => ¬ ok k) → P w' ok
theorem Part.moved (p : Part) {w w' : World} {ok S : Nat → Prop} (h : p.P w ok) (hm : Moved w w' S) (hd : ∀ k, k < w.heap.size → ok k → ¬ S k) : p.P w' ok :=
 p.move h (hm.wider (fun i hi hs e => hd i hi e hs))
def Sep (w : World) : (Nat → Prop) → List Part → Prop
 | _, [] => True
 | fr, p :: ps => ∃ ok : Nat → Prop, (∀ k, ok k → fr k) ∧ p.P w ok ∧ Sep w (fun k => fr k ∧ ¬ ok k) ps
def Sp (w : World) (ps : List Part) : Prop := Sep w (fun k => k < w.heap.size) ps
theorem Sep.wide {w : World} : ∀ {ps : List Part} {fr fr' : Nat → Prop}, Sep w fr ps → (∀ k, fr k → fr' k) → Sep w fr' ps
 | [], _, _, _, _ => trivial
 | p :: ps, fr, fr', ⟨ok, h1, h2, h3⟩, h => ⟨ok, fun k hk => h k (h1 k hk), h2, Sep.wide h3 (fun k hk => ⟨h k hk.1, hk.2⟩)⟩
theorem Sep.moved {w w' : World} {S : Nat → Prop} (hm : Moved w w' S) : ∀ {ps : List Part} {fr : Nat → Prop}, Sep w fr ps → (∀ k, k < w.heap.size → fr k → ¬ S k) → Sep w' fr ps
 | [], _, _, _ => trivial
 | p :: ps, fr, ⟨ok, h1, h2, h3⟩, h => ⟨ok, h1, p.moved h2 hm (fun k hk hok => h k hk (h1 k hok)), Sep.moved hm h3 (fun k hk hf => h k hk hf.1)⟩
theorem Sep.swap {w : World} {fr : Nat → Prop} {a b : Part} {ps : List Part} : Sep w fr (a :: b :: ps) → Sep w fr (b :: a :: ps) := by
 rintro ⟨ok, h1, h2, ok', h1', h2', h3⟩
 exact ⟨ok', fun k hk => (h1' k hk).1, h2', ok, fun k hk => ⟨h1 k hk, fun hk' => (h1' k hk').2 hk⟩, h2, h3.wide (fun k hk => ⟨⟨hk.1.1, hk.2⟩, hk.1.2⟩)⟩
theorem Sep.cons {w : World} {fr : Nat → Prop} {a : Part} {ps qs : List Part} (f : ∀ fr, Sep w fr ps → Sep w fr qs) : Sep w fr (a :: ps) → Sep w fr (a :: qs) := by
 rintro ⟨ok, h1, h2, h3⟩
 exact ⟨ok, h1, h2, f _ h3⟩
theorem Sep.tail {w : World} {fr : Nat → Prop} {a : Part} {ps : List Part} : Sep w fr (a :: ps) → Sep w fr ps := by
 rintro ⟨ok, h1, h2, h3⟩
 exact h3.wide (fun k hk => hk.1)
theorem Sep.app {w : World} : ∀ {ps qs : List Part} {fr1 fr2 fr : Nat → Prop}, Sep w fr1 ps → Sep w fr2 qs → (∀ k, fr1 k → fr k) → (∀ k, fr2 k → fr k) → (∀ k, fr1 k → ¬ fr2 k) → Sep w fr (ps ++ qs)
 | [], qs, fr1, fr2, fr, _, h, _, h2, _ => h.wide h2
 | p :: ps, qs, fr1, fr2, fr, ⟨ok, h1, h2, h3⟩, h, a, b, d =>
  ⟨ok, fun k hk => a k (h1 k hk), h2, Sep.app h3 h (fun k hk => ⟨a k hk.1, hk.2⟩) (fun k hk => ⟨b k hk, fun hok => d k (h1 k hok) hk⟩) (fun k hk => d k hk.1)⟩
theorem Sep.shrink {w : World} : ∀ {ps : List Part} {fr fr' : Nat → Prop}, Sep w fr ps → (∀ k, k < w.heap.size → fr k → fr' k) → Sep w fr' ps
 | [], _, _, _, _ => trivial
 | p :: ps, fr, fr', ⟨ok, h1, h2, h3⟩, h => ⟨fun k => ok k ∧ k < w.heap.size, fun k hk => h k hk.2 (h1 k hk.1), p.mono h2 (fun k hk hok => ⟨hok, hk⟩), Sep.shrink h3 (fun k hk hf => ⟨h k hk hf.1, fun e => hf.2 e.1⟩)⟩
theorem Sep.split {w : World} : ∀ {ps qs : List Part} {fr : Nat → Prop}, Sep w fr (ps ++ qs) → ∃ ok : Nat → Prop, (∀ k, ok k → fr k) ∧ Sep w ok ps ∧ Sep w (fun k => fr k ∧ ¬ ok k) qs
 | [], qs, fr, h => ⟨fun _ => False, fun _ h => h.elim, trivial, h.wide (fun k hk => ⟨hk, fun e => e⟩)⟩
 | p :: ps, qs, fr, ⟨ok, h1, h2, h3⟩ => by
  obtain ⟨ok', h1', h2', h3'⟩ := Sep.split (ps := ps) h3
  refine ⟨fun k => ok k ∨ ok' k, fun k hk => hk.elim (h1 k) (fun h => (h1' k h).1), ⟨ok, fun k hk => .inl hk, h2, h2'.wide (fun k hk => ⟨.inr hk, (h1' k hk).2⟩)⟩, h3'.wide (fun k hk => ⟨hk.1.1, fun e => e.elim hk.1.2 hk.2⟩)⟩
def Part.all (ps : List Part) : Part where
 P := fun w ok => Sep w ok ps
 mono := fun h hk => h.shrink hk
 move := fun h hm => Sep.moved hm h (fun k _ hk e => e hk)
def Part.ex {α : Type} (f : α → Part) : Part where
 P := fun w ok => ∃ x, (f x).P w ok
 mono := fun ⟨x, h⟩ hk => ⟨x, (f x).mono h hk⟩
 move := fun ⟨x, h⟩ hm => ⟨x, (f x).move h hm⟩
def Part.pure (p : Prop) : Part where
 P := fun _ _ => p
 mono := fun h _ => h
 move := fun h _ => h
section
variable {w w' : World} {a b c d e f : Part} {F G : List Part}
theorem Sp.nil (w : World) : Sp w [] := trivial
theorem Sp.tail (h : Sp w (a :: F)) : Sp w F := Sep.tail h
theorem Sp.s1 (h : Sp w (a :: b :: F)) : Sp w (b :: a :: F) := Sep.swap h
theorem Sp.s2 (h : Sp w (a :: b :: c :: F)) : Sp w (c :: a :: b :: F) := Sp.s1 (Sep.cons (fun _ => Sep.swap) h)
theorem Sp.s3 (h : Sp w (a :: b :: c :: d :: F)) : Sp w (d :: a :: b :: c :: F) := Sp.s1 (Sep.cons (fun _ h => Sep.swap (Sep.cons (fun _ => Sep.swap) h)) h)
theorem Sp.s4 (h : Sp w (a :: b :: c :: d :: e :: F)) : Sp w (e :: a :: b :: c :: d :: F) := Sp.s1 (Sep.cons (fun _ h => Sep.swap (Sep.cons (fun _ h => Sep.swap (Sep.cons (fun _ => Sep.swap) h)) h)) h)
theorem Sp.s5 (h : Sp w (a :: b :: c :: d :: e :: f :: F)) : Sp w (f :: a :: b :: c :: d :: e :: F) := Sp.s1 (Sep.cons (fun _ h => Sep.swap (Sep.cons (fun _ h => Sep.swap (Sep.cons (fun _ h => Sep.swap (Sep.cons (fun _ => Sep.swap) h)) h)) h)) h)
theorem Sp.below (h : Sp w F) (hb : Below w.heap.size w w') : Sp w' F :=
 (Sep.moved (Moved.of_below hb (fun _ => False)) h (fun _ _ _ e => e)).wide (fun _ hk => Nat.lt_of_lt_of_le hk hb.size)
theorem Sp.alloc (h : Sp w F) (o : Obj) : Sp (w.alloc o) F := h.below (below_alloc (Below.refl _ _) o)
theorem Sp.drewN (h : Sp w F) (n : Nat) : Sp (w.drewN n) F := h.below (pw_below_drewN (Below.refl _ _) n)
theorem Sp.drew (h : Sp w F) : Sp w.drew F := h.below (below_drew (Below.refl _ _))
theorem Sp.new (h : Sp w F) (hb : Below w.heap.size w w') (ha : a.P w' (fun k => w.heap.size ≤ k ∧ k < w'.heap.size)) : Sp w' (a :: F) :=
 ⟨fun k => w.heap.size ≤ k ∧ k < w'.heap.size, fun k hk => hk.2, ha, (Sep.moved (Moved.of_below hb (fun _ => False)) h (fun _ _ _ e => e)).wide (fun k hk => ⟨Nat.lt_of_lt_of_le hk hb.size, fun e => by omega⟩)⟩
theorem Sp.head (h : Sp w (a :: F)) : ∃ ok : Nat → Prop, (∀ k, ok k → k < w.heap.size) ∧ a.P w ok ∧
  ∀ w' qs, Moved w w' ok → Sep w' (fun k => ok k ∨ w.heap.size ≤ k ∧ k < w'.heap.size) qs → Sp w' (qs ++ F) := by
 obtain ⟨ok, h1, h2, h3⟩ := h
 refine ⟨ok, h1, h2, fun w' qs hm hq => ?_⟩
 refine Sep.app hq (Sep.moved hm h3 (fun k hk hf => hf.2)) (fun k hk => ?_) (fun k hk => Nat.lt_of_lt_of_le hk.1 hm.size) (fun k hk hf => ?_)
 ·
  rcases hk with hk | hk
  ·
   exact Nat.lt_of_lt_of_le (h1 k hk) hm.size
  ·
   exact hk.2
 ·
  rcases hk with hk | hk
  ·
   exact hf.2 hk
  ·
   omega
theorem Sp.head1 (h : Sp w (a :: F)) : ∃ ok : Nat → Prop, (∀ k, ok k → k < w.heap.size) ∧ a.P w ok ∧
  ∀ w' (q : Part), Moved w w' ok → q.P w' (fun k => ok k ∨ w.heap.size ≤ k ∧ k < w'.heap.size) → Sp w' (q :: F) := by
 obtain ⟨ok, h1, h2, h3⟩ := h.head
 exact ⟨ok, h1, h2, fun w' q hm hq => h3 w' [q] hm ⟨_, fun _ hk => hk, hq, trivial⟩⟩
theorem Sp.ofEx {α : Type} {f : α → Part} (h : Sp w (Part.ex f :: F)) : ∃ x, Sp w (f x :: F) := by
 obtain ⟨ok, h1, ⟨x, h2⟩, h3⟩ := h
 exact ⟨x, ok, h1, h2, h3⟩
theorem Sp.toEx {α : Type} {f : α → Part} (x : α) (h : Sp w (f x :: F)) : Sp w (Part.ex f :: F) := by
 obtain ⟨ok, h1, h2, h3⟩ := h
 exact ⟨ok, h1, ⟨x, h2⟩, h3⟩
theorem Sp.ofAll {ps : List Part} (h : Sp w (Part.all ps :: F)) : Sp w (ps ++ F) := by
 obtain ⟨ok, h1, h2, h3⟩ := h
 exact Sep.app h2 h3 h1 (fun k hk => hk.1) (fun k hk hf => hf.2 hk)
theorem Sp.toAll {ps : List Part} (h : Sp w (ps ++ F)) : Sp w (Part.all ps :: F) := by
 obtain ⟨ok, h1, h2, h3⟩ := Sep.split h
 exact ⟨ok, h1, h2, h3⟩
theorem Sp.ofPure {p : Prop} (h : Sp w (Part.pure p :: F)) : p ∧ Sp w F := by
 obtain ⟨ok, h1, h2, h3⟩ := h
 exact ⟨h2, h3.wide (fun k hk => hk.1)⟩
theorem Sp.toPure {p : Prop} (hp : p) (h : Sp w F) : Sp w (Part.pure p :: F) := ⟨fun _ => False, fun _ h => h.elim, hp, h.wide (fun k hk => ⟨hk, fun e => e⟩)⟩
theorem Sp.has (h : Sp w (a :: F)) : ∃ ok, a.P w ok := by
 obtain ⟨ok, _, h2, _⟩ := h
 exact ⟨ok, h2⟩
end
def Old (w0 : World) : Part where
 P := fun w ok => (∀ k, k < w0.heap.size → ok k) ∧ Below w0.heap.size w0 w
 mono := fun h hk => ⟨fun k hk0 => hk k (Nat.lt_of_lt_of_le hk0 h.2.size) (h.1 k hk0), h.2⟩
 move := fun h hm => ⟨h.1, h.2.trans ⟨hm.os, hm.tape, hm.output, hm.size, fun k hk => hm.block k (Nat.lt_of_lt_of_le hk h.2.size) (fun e => e (h.1 k hk))⟩⟩
theorem Sp.start (w : World) : Sp w [Old w] := ⟨fun k => k < w.heap.size, fun _ h => h, ⟨fun _ h => h, Below.refl _ _⟩, trivial⟩
theorem Sp.old {w w0 : World} {F : List Part} (h : Sp w (Old w0 :: F)) : Below w0.heap.size w0 w := (h.has).elim fun _ h => h.2
def Row {α : Type} (d : Kd α) (e : Nat) (v : Value) (xs : List α) : Part where
 P := fun w ok => d.R e w 0 ok v xs
 mono := fun h hk => R_mono (R_bound h) (fun k hk' => hk k hk'.2.2.1 hk'.1)
 move := fun h hm => R_step h (fun k ho hk => hm.block k hk (fun hn => hn ho))
theorem Sp.row {α : Type} {d : Kd α} {e : Nat} {v : Value} {xs : List α} {w : World} {F : List Part} (h : Sp w (Row d e v xs :: F)) : ∃ A c, v = .slice A xs.length c ∧ xs.length ≤ c ∧ d.C w A xs.length xs := (h.has).elim fun _ h => R_reads h
theorem Sp.made {α : Type} {d : Kd α} {e : Nat} {v : Value} {xs : List α} {w w' : World} {F : List Part} {ok : Nat → Prop} (h : Sp w F) (hb : Below w.heap.size w w') (hr : d.R e w' w.heap.size ok v xs) : Sp w' (Row d e v xs :: F) :=
 h.new (a := Row d e v xs) hb (R_lower (R_mono (R_bound hr) (fun k hk => ⟨hk.2.1, hk.2.2.1⟩)) (Nat.zero_le _))
def Blk (g : Nat) (o : Obj) : Part where
 P := fun w ok => ok g ∧ w.heap[g]? = some o
 mono := fun h hk => ⟨hk g (Array.getElem?_eq_some_iff.1 h.2).1 h.1, h.2⟩
 move := fun h hm => ⟨h.1, hm.blk h.2 (fun hn => hn h.1)⟩
theorem Sp.blk {g : Nat} {o : Obj} {w : World} {F : List Part} (h : Sp w (Blk g o :: F)) : w.heap[g]? = some o := (h.has).elim fun _ h => h.2
theorem Sp.box {w : World} {F : List Part} (h : Sp w F) (o : Obj) : Sp (w.alloc o) (Blk w.heap.size o :: F) :=
 h.new (a := Blk w.heap.size o) (below_alloc (Below.refl _ _) o) ⟨⟨Nat.le_refl _, by simp⟩, blk_new w o⟩
theorem setCell_blk {w : World} {g j : Nat} {cs : Array Value} {t : TypeId} {fz : Nat × Nat} (h : w.heap[g]? = some (.cells cs t fz)) (u : Value) : (w.setCell ⟨g, j, none⟩ u).heap[g]? = some (.cells (cs.setIfInBounds j u) t fz) := by
 simp only [World.setCell, Array.getElem?_modify, if_true, h, Option.map_some]
 rfl
theorem Sp.store {g : Nat} {cs : Array Value} {t : TypeId} {fz : Nat × Nat} {w : World} {F : List Part} (h : Sp w (Blk g (.cells cs t fz) :: F)) (j : Nat) (u : Value) : Sp (w.setCell ⟨g, j, none⟩ u) (Blk g (.cells (cs.setIfInBounds j u) t fz) :: F) := by
 obtain ⟨ok, h1, h2, h3⟩ := h.head1
 exact h3 _ _ ((Moved.refl w ok).set (fun _ => h2.1) u) ⟨.inl h2.1, setCell_blk h2.2 u⟩
def El {α : Type} (d : Kd α) (p : α) (cs : List Value) : Part where
 P := fun w ok => d.M w 0 ok p cs
 mono := fun h hk => d.M_mono (fun k hk' => hk k hk'.2.2.1 hk'.1) (d.M_bound h)
 move := fun h hm => Kd.M_step h (fun k ho hk => hm.block k hk (fun hn => hn ho))
section
variable {P : Program} {ops : Array Oper} {rest : List Oper} {o : Oper} {a : Act} {Q : Exit → Act → World → Prop} {α : Type}
theorem Sp.appended {d : Kd α} {e : TypeId} {W w1 : World} {F : List Part} {v v1 : Value} {ys : List α} {ok1 ok2 : Nat → Prop} (h1 : ∀ k, ok1 k → k < W.heap.size) (h2 : ∀ k, ok2 k → k < W.heap.size)
  (h3 : Sep W (fun k => (k < W.heap.size ∧ ¬ ok1 k) ∧ ¬ ok2 k) F) (hv : ∀ k, v.ownBlock = some k → ok1 k) (hr : d.R e w1 0 (fun k => ok1 k ∨ ok2 k ∨ W.heap.size ≤ k) v1 ys) (hg : W.grownBy w1 v.ownBlock) : Sp w1 (Row d e v1 ys :: F) := by
 refine ⟨fun k => (ok1 k ∨ ok2 k ∨ W.heap.size ≤ k) ∧ k < w1.heap.size, fun k hk => hk.2, R_mono (R_bound hr) (fun k hk => ⟨hk.1, hk.2.2.1⟩), ?_⟩
 refine (Sep.moved (Moved.of_grown hg (S := ok1) (fun i hi _ => hv i hi)) h3 (fun k _ hf => hf.1.2)).wide (fun k hk => ⟨Nat.lt_of_lt_of_le hk.1.1 hg.size, fun e => ?_⟩)
 rcases e.1 with e | e | e
 ·
  exact hk.1.2 e
 ·
  exact hk.2 e
 ·
  have := hk.1.1; omega
theorem Sp.append (d : Kd α) {W : World} {F : List Part} (hgd : o.guard = none) (s x : Operand) (t e : TypeId) (z : Value) (bytes : Nat)
  (ho : o.op = .call { callee := .builtin .append, args := #[s, x], argTypes := #[t, t] })
  (ht : P.underlying t = some (.slice e)) (hinfo : (P.info? e).map (fun i => (i.zero, i.size, i.bytes)) = some (some z, d.sz, bytes)) (hz : z.cells.size = d.sz) (hs0 : 0 < d.sz) (hb0 : 0 < bytes)
  (v : Value) (xs : List α) (p : α) (cs : List Value) (hs : a.eval s = v) (hx : a.eval x = .slice (some ⟨W.heap.size, 0, none⟩) 1 1)
  (hS : Sp W (Row d e v xs :: El d p cs :: F)) (hl : (xs.length + 1) * bytes ≤ 140737488355328)
  (h : ∀ v1 w1, Sp w1 (Row d e v1 (xs ++ [p]) :: F) → wpList P ops Q rest (a.put o.dst v1) w1) :
  wpList P ops Q (o :: rest) a (W.alloc (.cells cs.toArray e)) := by
 obtain ⟨ok1, h1, hr, ok2, h2, hp, h3⟩ := hS
 refine R_append d (w0 := W) 0 hgd s x t e z bytes ho ht hinfo hz hs0 hb0 v xs p cs (fun k => ok1 k ∨ ok2 k ∨ W.heap.size ≤ k) ok2 hs hx hp (fun k hk => ⟨.inr (.inl hk), fun e => (h2 k hk).2 (hr.1 k e.symm)⟩) (fun k hk => .inr (.inr hk)) (R_mono hr (fun k hk => .inl hk)) (Below.refl _ _) (Nat.zero_le _) hl ?_
 intro v1 w1 hr1 _ hg _
 exact h v1 w1 (Sp.appended h1 (fun k hk => (h2 k hk).1) h3 hr.1 hr1 hg)
theorem Sp.appendRow (d : Kd α) {W : World} {F : List Part} (hgd : o.guard = none) (s x : Operand) (t e : TypeId) (z : Value) (bytes : Nat)
  (ho : o.op = .call { callee := .builtin .append, args := #[s, x], argTypes := #[t, t] })
  (ht : P.underlying t = some (.slice e)) (hinfo : (P.info? e).map (fun i => (i.zero, i.size, i.bytes)) = some (some z, d.sz, bytes)) (hz : z.cells.size = d.sz) (hs0 : 0 < d.sz) (hb0 : 0 < bytes)
  (v : Value) (xs ys : List α) (A : Option Addr) (m c : Nat) (hs : a.eval s = v) (hx : a.eval x = .slice A m c)
  (hKM : ∀ x cs, d.K W x cs → d.M W 0 (fun _ => False) x cs) (hS : Sp W (Row d e v xs :: F)) (hR : d.C W A m ys) (hl : (xs.length + m) * bytes ≤ 140737488355328)
  (h : ∀ v1 w1, Sp w1 (Row d e v1 (xs ++ ys) :: F) → wpList P ops Q rest (a.put o.dst v1) w1) :
  wpList P ops Q (o :: rest) a W := by
 obtain ⟨ok1, h1, hr, h3⟩ := hS
 refine R_append_rows d (w0 := W) 0 hgd s x t e z bytes ho ht hinfo hz hs0 hb0 v xs ys A m c (fun k => ok1 k ∨ False ∨ W.heap.size ≤ k) (fun _ => False) hs hx (R_mono hr (fun k hk => .inl hk)) hR hKM (fun _ h => h.elim) (fun k hk => .inr (.inr hk)) (Below.refl _ _) (Nat.zero_le _) hl ?_
 intro v1 w1 hr1 _ hg _
 exact h v1 w1 (Sp.appended (ok2 := fun _ => False) h1 (fun k hk => hk.elim) (h3.wide (fun k hk => ⟨hk, fun e => e⟩)) hr.1 hr1 hg)
end
theorem row_form {α : Type} {d : Kd α} {e : Nat} {w : World} {base : Nat} {ok : Nat → Prop} {v : Value} {xs : List α} (h : d.R e w base ok v xs) (hp : 0 < xs.length) : ∃ g cap, v = .slice (some ⟨g, 0, none⟩) xs.length cap := by
 obtain ⟨_, inner, ho, _⟩ := h
 rcases ho.2 with ⟨_, h0⟩ | ⟨g, cap, cur, rfl, _⟩
 ·
  omega
 ·
  exact ⟨g, cap, rfl⟩
theorem Sp.setElem {α : Type} {d : Kd α} {e g n cap : Nat} {w : World} {xs : List α} {F : List Part} (hS : Sp w (Row d e (.slice (some ⟨g, 0, none⟩) n cap) xs :: F)) (i : Nat) (hi : i < n) (x' : α) (seg : List Value) (hM : d.M w 0 (fun _ => False) x' seg) :
  Sp (w.setCells g (i * d.sz) seg) (Row d e (.slice (some ⟨g, 0, none⟩) n cap) (xs.set i x') :: F) := by
 obtain ⟨ok, h1, h2, h3⟩ := hS.head1
 have hl : seg.length = d.sz := d.K_len (d.K_of_M hM)
 obtain ⟨c, hcl, _, hcc, _⟩ := R_elem h2 x' (i : Int) z2_ z2_
 obtain ⟨hr, hg⟩ := R_seg h2 (i : Int) z2_ z2_ (c := c) (seg := seg) (j := 0) (x' := x') (okp := fun _ => False) hcl hcc z2_ (by
  have : c.take 0 ++ seg ++ c.drop (0 + seg.length) = seg := by simp; omega
  rw [this]; exact hM) (fun _ h => h.elim)
 simp only [Int.toNat_natCast, Nat.add_zero] at hr hg
 exact h3 _ _ (Moved.of_grown hg (fun j hj _ => by injection hj with hj; subst hj; exact h2.1 _ rfl)) (R_mono hr (fun k hk => .inl hk))
theorem Sp.elem {α : Type} {d : Kd α} {e g n cap : Nat} {w : World} {xs : List α} {F : List Part} (hS : Sp w (Row d e (.slice (some ⟨g, 0, none⟩) n cap) xs :: F)) (z : α) (i : Nat) (hi : i < n) :
  ∃ c, c.length = d.sz ∧ (∀ j u, c[j]? = some u → w.cell? ⟨g, i * d.sz + j, none⟩ = some u) ∧ (∀ j, w.frozen? ⟨g, i * d.sz + j, none⟩ = false) ∧ d.K w (xs.getD i z) c := by
 obtain ⟨ok, h2⟩ := hS.has
 obtain ⟨c, hcl, hM, hcc, hf⟩ := R_elem h2 z (i : Int) z2_ z2_
 simp only [Int.toNat_natCast] at hM hcc hf
 exact ⟨c, hcl, hcc, hf, d.K_of_M hM⟩
theorem of_grown_none {w w1 : World} (h : w.grownBy w1 none) : Below w.heap.size w w1 := ⟨h.os, h.tape, h.output, h.size, fun k hk => h.block k hk (by simp)⟩
structure Stop (p : Prop) : Prop where
 go : p
theorem drew_eta (W : World) : ({ heap := W.heap, tape := W.tape, drawn := W.drawn + 1, os := W.os, output := W.output } : World) = W.drew := rfl
section
variable {P : Program} {ops : Array Oper} {o : Oper} {a : Act} {Q : Exit → Act → World → Prop} {Kc : Act → World → Prop} {α : Type}
theorem Sp.append_step (d : Kd α) {W : World} {F : List Part} (hw : Region.wanted o (yielded ops a.tmps) = true) (s x : Operand) (t e : TypeId) (z : Value) (bytes : Nat)
  (ho : o.op = .call { callee := .builtin .append, args := #[s, x], argTypes := #[t, t] })
  (ht : P.underlying t = some (.slice e)) (hinfo : (P.info? e).map (fun i => (i.zero, i.size, i.bytes)) = some (some z, d.sz, bytes)) (hz : z.cells.size = d.sz) (hs0 : 0 < d.sz) (hb0 : 0 < bytes)
  (v : Value) (xs : List α) (p : α) (cs : List Value) (hs : a.eval s = v) (hx : a.eval x = .slice (some ⟨W.heap.size, 0, none⟩) 1 1)
  (hS : Sp W (Row d e v xs :: El d p cs :: F)) (hl : (xs.length + 1) * bytes ≤ 140737488355328)
  (h : ∀ v1 w1, Sp w1 (Row d e v1 (xs ++ [p]) :: F) → Kc (a.put o.dst v1) w1) :
  if Region.wanted o (yielded ops a.tmps) = true then Oper.wp P o a (W.alloc (.cells cs.toArray e)) Kc Q else Kc (a.put o.dst undef) (W.alloc (.cells cs.toArray e)) := by
 obtain ⟨ok1, h1, hr, ok2, h2, hp, h3⟩ := hS
 refine R_append_step d (w0 := W) 0 hw s x t e z bytes ho ht hinfo hz hs0 hb0 v xs p cs (fun k => ok1 k ∨ ok2 k ∨ W.heap.size ≤ k) ok2 hs hx hp (fun k hk => ⟨.inr (.inl hk), fun e => (h2 k hk).2 (hr.1 k e.symm)⟩) (fun k hk => .inr (.inr hk)) (R_mono hr (fun k hk => .inl hk)) (Below.refl _ _) (Nat.zero_le _) hl ?_
 intro v1 w1 hr1 _ hg _
 exact h v1 w1 (Sp.appended h1 (fun k hk => (h2 k hk).1) h3 hr.1 hr1 hg)
end
theorem Sp.as {w : World} {a b : Part} {F : List Part} (h : Sp w (a :: F)) (hab : ∀ ok, a.P w ok → b.P w ok) : Sp w (b :: F) := by
 obtain ⟨ok, h1, h2, h3⟩ := h
 exact ⟨ok, h1, hab ok h2, h3⟩
end Go.Proofs.Ytcbfliajgopdaaa.Sep
end
section
namespace Go.Proofs.Ytcbfliajgopdaaa.Ops
open Go.RowKit Go.Proofs.Ytcbfliajgopdaaa.PAll Go.Proofs.Ytcbfliajgopdaaa.Plain Go.Proofs.YtcbfliajgopdaaaW.PrintWords Go.Proofs.YtcbfliajgopdaaaW.PrintLast Go.Proofs.YtcbfliajgopdaaaW.PrintMore Go.Proofs.Ytcbfliajgopdaaa.Sep Go.Proofs.Ytcbfliajgopdaaa.ZipT Go.Proofs.YtcbfliajgopdaaaW.PrintWords.Kd Go.Proofs.YtcbfliajgopdaaaW.PrintMore.Kd
set_option linter.unusedVariables false
set_option linter.unusedSimpArgs false
def WrP (g : Nat) (s : Wr) : Part := Part.ex fun v : Value => Part.all [Blk g (.cells #[v, .bool s.2] 101 (0, 0)), Row (Kd.int .u8) 5 v s.1]
section
variable {w : World} {g : Nat} {s : Wr} {F : List Part}
theorem WrP.open (h : Sp w (WrP g s :: F)) : ∃ v, Sp w (Blk g (.cells #[v, .bool s.2] 101 (0, 0)) :: Row (Kd.int .u8) 5 v s.1 :: F) := by
 obtain ⟨v, h⟩ := h.ofEx
 exact ⟨v, h.ofAll⟩
theorem WrP.shut {v : Value} {bs : List Int} {bad : Bool} (h : Sp w (Blk g (.cells #[v, .bool bad] 101 (0, 0)) :: Row (Kd.int .u8) 5 v bs :: F)) : Sp w (WrP g (bs, bad) :: F) :=
 Sp.toEx (f := fun v : Value => Part.all [Blk g (.cells #[v, .bool bad] 101 (0, 0)), Row (Kd.int .u8) 5 v bs]) v (Sp.toAll (ps := [_, _]) h)
theorem sPut_len (n size : Int) : (sPut [] n size).1.length ≤ 7 := by
 unfold sPut
 split
 ·
  rename_i h; simp [big_length]; omega
 ·
  simp
theorem wNum_len (n size : Int) (s : Wr) : (wNum n size s).1.length ≤ s.1.length + 7 := by
 have := sPut_len n size
 unfold wNum wAdd; simp only [List.length_append]; omega
set_option maxHeartbeats 8000000 in
set_option maxRecDepth 100000 in
theorem wadd_calls (bs : List Int) (bad : Bool) (A : Option Addr) (c : Nat) (b : List Int) (e : Int) (hS : Sp w (WrP g (bs, bad) :: Row (Kd.int .u8) 5 (.slice A b.length c) b :: F)) (hl : bs.length + b.length ≤ 1000000000) :
  Calls Try.prog 86 #[.pointer (some ⟨g, 0, none⟩), .slice A b.length c, .int .i64 e] w fun r w' => (∃ v, r = .returned v) ∧ Sp w' (WrP g (wAdd (bs, bad) (b, e)) :: F) := by
 obtain ⟨v, hS⟩ := WrP.open hS
 obtain ⟨A0, c0, rfl, hc0, _⟩ := hS.tail.row
 have h0 : w.cell? ⟨g, 0, none⟩ = some (.slice A0 bs.length c0) := blk_cell hS.blk 0
 have h1 : w.cell? ⟨g, 1, none⟩ = some (.bool bad) := blk_cell hS.blk 1
 have f0 := blk_frozen hS.blk 0
 have f1 := blk_frozen hS.blk 1
 have key : ∀ nb : Bool, Aside0 (Sp (w.setCell ⟨g, 1, none⟩ (.bool nb)) (Blk g (.cells #[.slice A0 bs.length c0, .bool nb] 101 (0, 0)) :: Row (Kd.int .u8) 5 (.slice A0 bs.length c0) bs :: Row (Kd.int .u8) 5 (.slice A b.length c) b :: F)) := fun nb => ⟨hS.store 1 (.bool nb)⟩
 have HL := mk_ hl
 clear hS hl hc0
 cases bad with
 | true =>
  have HS1 := key true
  have HC1 := mk_ (HS1.out.s2.row.elim fun _ h => h.elim fun _ h => (show Kd.C (Kd.int .u8) _ A b.length b by have e_ := h.1; injection e_ with e1 e2 e3; rw [e1]; exact h.2.2))
  have k0 := blk_cell HS1.out.blk 0
  have kf := blk_frozen HS1.out.blk 0
  clear key
  go_enter Try.func86, Try.ntmps86
  go_wp2_with ((with_reducible refine gate_builtin (b := .append) (xs := #[.tmp 21, .tmp 22]) rfl ?_); at_builtin; refine Sp.appendRow (Kd.int .u8) rfl (.tmp 21) (.tmp 22) 22 5 (.int .u8 0) 1 rfl Try.underlying22 z1_ rfl z5_ z2_ (.slice A0 bs.length c0) bs b A b.length c rfl rfl (fun _ _ h => h) HS1.out.s1 HC1.out (by have := HL.out; omega) ?_; intro v1 w1 h1; obtain ⟨A1, c1, rfl, _, _⟩ := h1.row; have k1 := blk_cell h1.s1.blk 0; have kg := blk_frozen h1.s1.blk 0; have HS2 := mk_ h1; clear h1)
  go_end0
  refine ⟨⟨_, rfl⟩, ?_⟩
  have h2 := HS2.out.s1.store 0 (.slice A1 (bs ++ b).length c1)
  have h3 := (WrP.shut (bs := bs ++ b) (bad := true) h2).s1.tail
  have e1 : wAdd (bs, true) (b, e) = (bs ++ b, true) := by unfold wAdd; simp
  first | rw [e1] | (rw [he] at e1; rw [e1])
  rw [List.length_append] at h3
  exact h3
 | false =>
  by_cases he : e = 0
  ·
   have hb0 : (e == 0) = true := beq_iff_eq.2 he
   have hb1 : (e != 0) = false := bne_eq_false_iff_eq.2 he
   have hb2 : decide (e = 0) = true := decide_eq_true he
   have HS1 := key false
   have HC1 := mk_ (HS1.out.s2.row.elim fun _ h => h.elim fun _ h => (show Kd.C (Kd.int .u8) _ A b.length b by have e_ := h.1; injection e_ with e1 e2 e3; rw [e1]; exact h.2.2))
   have k0 := blk_cell HS1.out.blk 0
   have kf := blk_frozen HS1.out.blk 0
   clear key
   go_enter Try.func86, Try.ntmps86
   go_wp2_with ((with_reducible refine gate_builtin (b := .append) (xs := #[.tmp 21, .tmp 22]) rfl ?_); at_builtin; refine Sp.appendRow (Kd.int .u8) rfl (.tmp 21) (.tmp 22) 22 5 (.int .u8 0) 1 rfl Try.underlying22 z1_ rfl z5_ z2_ (.slice A0 bs.length c0) bs b A b.length c rfl rfl (fun _ _ h => h) HS1.out.s1 HC1.out (by have := HL.out; omega) ?_; intro v1 w1 h1; obtain ⟨A1, c1, rfl, _, _⟩ := h1.row; have k1 := blk_cell h1.s1.blk 0; have kg := blk_frozen h1.s1.blk 0; have HS2 := mk_ h1; clear h1)
   go_end0
   refine ⟨⟨_, rfl⟩, ?_⟩
   have h2 := HS2.out.s1.store 0 (.slice A1 (bs ++ b).length c1)
   have h3 := (WrP.shut (bs := bs ++ b) (bad := false) h2).s1.tail
   have e1 : wAdd (bs, false) (b, e) = (bs ++ b, false) := by unfold wAdd; simp [he]
   first | rw [e1] | (rw [he] at e1; rw [e1])
   rw [List.length_append] at h3
   exact h3
  ·
   have hb0 : (e == 0) = false := beq_eq_false_iff_ne.2 he
   have hb1 : (e != 0) = true := bne_iff_ne.2 he
   have hb2 : decide (e = 0) = false := decide_eq_false he
   have HS1 := key true
   have HC1 := mk_ (HS1.out.s2.row.elim fun _ h => h.elim fun _ h => (show Kd.C (Kd.int .u8) _ A b.length b by have e_ := h.1; injection e_ with e1 e2 e3; rw [e1]; exact h.2.2))
   have k0 := blk_cell HS1.out.blk 0
   have kf := blk_frozen HS1.out.blk 0
   clear key
   go_enter Try.func86, Try.ntmps86
   go_wp2_with ((with_reducible refine gate_builtin (b := .append) (xs := #[.tmp 21, .tmp 22]) rfl ?_); at_builtin; refine Sp.appendRow (Kd.int .u8) rfl (.tmp 21) (.tmp 22) 22 5 (.int .u8 0) 1 rfl Try.underlying22 z1_ rfl z5_ z2_ (.slice A0 bs.length c0) bs b A b.length c rfl rfl (fun _ _ h => h) HS1.out.s1 HC1.out (by have := HL.out; omega) ?_; intro v1 w1 h1; obtain ⟨A1, c1, rfl, _, _⟩ := h1.row; have k1 := blk_cell h1.s1.blk 0; have kg := blk_frozen h1.s1.blk 0; have HS2 := mk_ h1; clear h1)
   go_end0
   refine ⟨⟨_, rfl⟩, ?_⟩
   have h2 := HS2.out.s1.store 0 (.slice A1 (bs ++ b).length c1)
   have h3 := (WrP.shut (bs := bs ++ b) (bad := true) h2).s1.tail
   have e1 : wAdd (bs, false) (b, e) = (bs ++ b, true) := by unfold wAdd; simp [he]
   first | rw [e1] | (rw [he] at e1; rw [e1])
   rw [List.length_append] at h3
   exact h3
set_option maxHeartbeats 8000000 in
set_option maxRecDepth 100000 in
theorem wnum_calls (s : Wr) (n size : Int) (hS : Sp w (WrP g s :: F)) (hl : s.1.length ≤ 900000000) :
  Calls Try.prog 49 #[.pointer (some ⟨g, 0, none⟩), .int .i64 n, .int .i64 size] w fun r w' => (∃ v, r = .returned v) ∧ Sp w' (WrP g (wNum n size s) :: F) := by
 have HS := mk_ hS
 have HL := mk_ hl
 have HP := mk_ (put_eq 10 [] n size (by simp) (Nat.le_refl _))
 clear hS hl
 go_enter Try.func49, Try.ntmps49
 go_wp2_with (first
  | (go_at_call 85; refine (PAll.wire_Put.calls 10 none 0 [] n size (sPut [] n size).1 (sPut [] n size).2 _ (C_nil _ _) (Nat.le_refl _) HP.out).mono ?_; rintro e V ⟨u, rfl, hr, hq⟩; obtain ⟨Au, cu, rfl⟩ := R_slice hr; have HS1 := mk_ (Sp.made HS.out hq hr); clear hr hq)
  | (go_at_call 86; refine (wadd_calls s.1 s.2 Au cu (sPut [] n size).1 (sPut [] n size).2 HS1.out.s1 (by have := HL.out; have := sPut_len n size; omega)).mono ?_; rintro e V2 ⟨⟨u, rfl⟩, h2⟩; have HS2 := mk_ h2; clear h2))
 go_end0
 exact ⟨⟨_, rfl⟩, HS2.out⟩
theorem sPutText_len (t : ByteArray) : (sPutText [] t).1.length ≤ 25 := by
 unfold sPutText
 split
 ·
  rename_i h; simp [bytesOf_length]; omega
 ·
  simp
theorem wText_len (t : ByteArray) (s : Wr) : (wText t s).1.length ≤ s.1.length + 25 := by
 have := sPutText_len t
 unfold wText wAdd; simp only [List.length_append]; omega
set_option maxHeartbeats 8000000 in
set_option maxRecDepth 100000 in
theorem wtext_calls (s : Wr) (t : ByteArray) (hS : Sp w (WrP g s :: F)) (hl : s.1.length ≤ 900000000) :
  Calls Try.prog 87 #[.pointer (some ⟨g, 0, none⟩), .string t] w fun r w' => (∃ v, r = .returned v) ∧ Sp w' (WrP g (wText t s) :: F) := by
 have HS := mk_ hS
 have HL := mk_ hl
 have HP := mk_ (putText_eq [] t (by simp))
 clear hS hl
 go_enter Try.func87, Try.ntmps87
 go_wp2_with (first
  | (go_at_call 104; refine (PAll.wire_PutText.calls none 0 [] t (sPutText [] t).1 (sPutText [] t).2 _ (C_nil _ _) (Nat.le_refl _) HP.out).mono ?_; rintro e V ⟨u, rfl, hr, hq⟩; obtain ⟨Au, cu, rfl⟩ := R_slice hr; have HS1 := mk_ (Sp.made HS.out hq hr); clear hr hq)
  | (go_at_call 86; refine (wadd_calls s.1 s.2 Au cu (sPutText [] t).1 (sPutText [] t).2 HS1.out.s1 (by have := HL.out; have := sPutText_len t; omega)).mono ?_; rintro e V2 ⟨⟨u, rfl⟩, h2⟩; have HS2 := mk_ h2; clear h2))
 go_end0
 exact ⟨⟨_, rfl⟩, HS2.out⟩
set_option maxHeartbeats 8000000 in
set_option maxRecDepth 100000 in
theorem wdot_calls (s : Wr) (d : Dt) (hS : Sp w (WrP g s :: F)) (hl : s.1.length ≤ 800000000) :
  Calls Try.prog 88 #[.pointer (some ⟨g, 0, none⟩), .agg #[.int .i64 d.f0, .int .i64 d.f1]] w fun r w' => (∃ v, r = .returned v) ∧ Sp w' (WrP g (wDot d s) :: F) := by
 have HB := mk_ ((hS.box (.cells #[.int .i64 d.f0, .int .i64 d.f1] 50 (0, 0))).s1)
 have HL := mk_ hl
 clear hS hl
 go_enter Try.func88, Try.ntmps88
 go_wp2_with (first
  | (go_at_call 49; (with_reducible show Calls _ _ #[_, .int .i64 d.f0, .int .i64 1] _ _); refine (wnum_calls (s) d.f0 1 HB.out (by have := HL.out; omega)).mono ?_; rintro e V0 ⟨⟨u, rfl⟩, h1⟩; have k1 := blk_cell h1.s1.blk 1; have HS1 := mk_ h1; clear h1)
  | (go_at_call 49; (with_reducible show Calls _ _ #[_, .int .i64 d.f1, .int .i64 4] _ _); refine (wnum_calls (wNum d.f0 1 (s)) d.f1 4 HS1.out (by have := HL.out; have := wNum_len d.f0 1 (s); omega)).mono ?_; rintro e V1 ⟨⟨u, rfl⟩, h1⟩; have HS2 := mk_ h1; clear h1))
 go_end0
 exact ⟨⟨_, rfl⟩, HS2.out.s1.tail⟩
set_option maxHeartbeats 8000000 in
set_option maxRecDepth 100000 in
theorem wstamp_calls (s : Wr) (d : St) (hS : Sp w (WrP g s :: F)) (hl : s.1.length ≤ 800000000) :
  Calls Try.prog 48 #[.pointer (some ⟨g, 0, none⟩), .agg #[.int .i64 d.f0, .int .i64 d.f1, .int .i64 d.f2]] w fun r w' => (∃ v, r = .returned v) ∧ Sp w' (WrP g (wStamp d s) :: F) := by
 have HB := mk_ ((hS.box (.cells #[.int .i64 d.f0, .int .i64 d.f1, .int .i64 d.f2] 26 (0, 0))).s1)
 have HL := mk_ hl
 clear hS hl
 go_enter Try.func48, Try.ntmps48
 go_wp2_with (first
  | (go_at_call 49; (with_reducible show Calls _ _ #[_, .int .i64 d.f0, .int .i64 6] _ _); refine (wnum_calls (s) d.f0 6 HB.out (by have := HL.out; omega)).mono ?_; rintro e V0 ⟨⟨u, rfl⟩, h1⟩; have k1 := blk_cell h1.s1.blk 1; have HS1 := mk_ h1; clear h1)
  | (go_at_call 49; (with_reducible show Calls _ _ #[_, .int .i64 d.f1, .int .i64 3] _ _); refine (wnum_calls (wNum d.f0 6 (s)) d.f1 3 HS1.out (by have := HL.out; have := wNum_len d.f0 6 (s); omega)).mono ?_; rintro e V1 ⟨⟨u, rfl⟩, h1⟩; have k2 := blk_cell h1.s1.blk 2; have HS2 := mk_ h1; clear h1)
  | (go_at_call 49; (with_reducible show Calls _ _ #[_, .int .i64 d.f2, .int .i64 1] _ _); refine (wnum_calls (wNum d.f1 3 (wNum d.f0 6 (s))) d.f2 1 HS2.out (by have := HL.out; have := wNum_len d.f0 6 (s); have := wNum_len d.f1 3 (wNum d.f0 6 (s)); omega)).mono ?_; rintro e V2 ⟨⟨u, rfl⟩, h1⟩; have HS3 := mk_ h1; clear h1))
 go_end0
 exact ⟨⟨_, rfl⟩, HS3.out.s1.tail⟩
theorem wDot_len (d : Dt) (s : Wr) : (wDot d s).1.length ≤ s.1.length + 14 := by
 have h1 := wNum_len d.f0 1 s
 have h2 := wNum_len d.f1 4 (wNum d.f0 1 s)
 unfold wDot; omega
theorem wStamp_len (d : St) (s : Wr) : (wStamp d s).1.length ≤ s.1.length + 21 := by
 have h1 := wNum_len d.f0 6 s
 have h2 := wNum_len d.f1 3 (wNum d.f0 6 s)
 have h3 := wNum_len d.f2 1 (wNum d.f1 3 (wNum d.f0 6 s))
 unfold wStamp; omega
theorem wAll_snoc {α : Type} (f : α → Wr → Wr) : ∀ (l : List α) (x : α) (s : Wr), wAll f (l ++ [x]) s = f x (wAll f l s)
 | [], x, s => rfl
 | y :: l, x, s => by rw [List.cons_append, wAll, wAll, wAll_snoc f l x]
theorem wAll_len {α : Type} {f : α → Wr → Wr} {m : Nat} (hf : ∀ x s, (f x s).1.length ≤ s.1.length + m) : ∀ (l : List α) (s : Wr), (wAll f l s).1.length ≤ s.1.length + m * l.length
 | [], s => by simp [wAll]
 | y :: l, s => by
  have h1 := wAll_len hf l (f y s)
  have h2 := hf y s
  rw [wAll, List.length_cons, Nat.mul_succ]; omega
theorem take_snoc {α : Type} {l : List α} {i : Nat} (h : i < l.length) : l.take (i + 1) = l.take i ++ [l[i]] := by rw [List.take_add_one, List.getElem?_eq_getElem h]; rfl
theorem rd_get {l : List Int} {i : Nat} (h : i < l.length) : rd l (i : Int) = l[i] := by
 show l.getD (i : Int).toNat 0 = _
 rw [Int.toNat_natCast, List.getD_eq_getElem?_getD, List.getElem?_eq_getElem h]; rfl
set_option maxHeartbeats 8000000 in
set_option maxRecDepth 100000 in
theorem wnums_calls {w0 : World} (A : Option Addr) (c : Nat) (l : List Int) (hC : Kd.C (Kd.int .i64) w0 A l.length l) (hlc : l.length ≤ c) (hll : l.length ≤ 1000) (s : Wr) (hS : Sp w (WrP g s :: Old w0 :: F)) (hl : s.1.length ≤ 700000000) :
  Calls Try.prog 47 #[.pointer (some ⟨g, 0, none⟩), .slice A l.length c] w fun r w' => (∃ v, r = .returned v) ∧ Sp w' (WrP g (wNums l s) :: Old w0 :: F) := by
 obtain ⟨bs, bad⟩ := s
 have HC := mk_ hC
 have HLL := mk_ hll
 have HL := mk_ (show bs.length ≤ 700000000 from hl)
 obtain ⟨v, hS⟩ := WrP.open hS
 have h1 : w.cell? ⟨g, 1, none⟩ = some (.bool bad) := blk_cell hS.blk 1
 have f1 := blk_frozen hS.blk 1
 have key : ∀ nb : Bool, Aside0 (Sp (w.setCell ⟨g, 1, none⟩ (.bool nb)) (WrP g (bs, nb) :: Old w0 :: F)) := fun nb => ⟨WrP.shut (hS.store 1 (.bool nb))⟩
 clear hS hC hlc hll hl
 cases bad with
 | true =>
  have hcase : True := trivial
  have HS1 := key true
  have hn0 : wOr (decide (l.length > 5)) (bs, true) = (bs, true) := by unfold wOr; simp [hcase]
  clear key
  go_enter Try.func47, Try.ntmps47
  go_wp2_with (go_at_call 49; refine (wnum_calls (bs, true) (l.length : Int) 1 HS1.out (by have := HL.out; show bs.length ≤ _; omega)).mono ?_; rintro e V ⟨⟨u, rfl⟩, h1⟩; have HS2 := mk_ h1; clear h1)
  go_loopg [24] (l.length + 1) (fun kq v24 W' => ∃ (i : Nat), v24 = .int .i64 (i : Int) ∧ Aside0 (Sp W' (WrP g (wAll (fun n => wNum n 4) (l.take i) (wNum (l.length : Int) 1 (bs, true))) :: Old w0 :: F)) ∧ Aside0 (kq + i = l.length + 1 ∧ i ≤ l.length))
  case atStart => exact ⟨0, rfl, ⟨HS2.out⟩, ⟨by omega⟩⟩
  case round =>
   obtain ⟨i, rfl, HA, HK⟩ := hrel
   obtain ⟨k1, rfl⟩ : ∃ k1, gk = k1 + 1 := ⟨gk - 1, by have := HK.out; omega⟩
   by_cases hi : i < l.length
   ·
    have hx := Kd.at_int (C_below HC.out HA.out.s1.old) (i : Int) z2_ z2_
    obtain ⟨ad, hA, hx⟩ := hx
    cases hA
    rw [rd_get hi, Int.toNat_natCast] at hx
    have hb0 : (0 ≤ (i : Int)) = True := eq_true z2_
    have hb1 : ((i : Int) < (l.length : Int)) = True := eq_true z2_
    have hb2 : decide ((i : Int) < (l.length : Int)) = true := decide_eq_true z2_
    have hb3 : decide (i < l.length) = true := decide_eq_true hi
    have HI2 := mk_ hi
    have HT := mk_ (take_snoc hi)
    generalize hlx : l[i] = x at *
    clear hi hlx
    go_wp2_with (go_at_call 49; refine (wnum_calls _ x 4 HA.out (by have := HL.out; have h1 := wAll_len (f := fun n => wNum n 4) (m := 7) (fun x s => wNum_len x 4 s) (l.take i) (wNum (l.length : Int) 1 (bs, true)); have h2 := wNum_len (l.length : Int) 1 (bs, true); have h3 := HLL.out; have h4 := List.length_take_le i l; have h6 := HI2.out; have h5 : (bs, true).1.length = bs.length := rfl; omega)).mono ?_; rintro e V2 ⟨⟨u, rfl⟩, h1⟩; have HS3 := mk_ h1; clear h1)
    go_roundg k1
    case measure => exact Nat.lt_succ_self _
    case rel => exact ⟨i + 1, by rw [w64 z2_ (by have := HI2.out; have := HLL.out; omega)]; rfl, ⟨by rw [HT.out, wAll_snoc]; exact HS3.out⟩, ⟨by have := HK.out; omega, by have := HI2.out; omega⟩⟩
   ·
    have hie : i = l.length := by have := HK.out; omega
    subst hie
    have hb2' : decide ((l.length : Int) < (l.length : Int)) = false := decide_eq_false z2_
    have hb3' : decide (l.length < l.length) = false := decide_eq_false z2_
    clear hi
    go_wp2
    go_end0
    refine ⟨⟨_, rfl⟩, ?_⟩
    have h := HA.out
    rw [List.take_length] at h
    unfold wNums
    rw [hn0]
    exact h
 | false =>
  by_cases hcase : l.length > 5
  ·
   have hd1 : decide ((5 : Int) < (l.length : Int)) = true := decide_eq_true z2_
   have hd2 : decide (5 < l.length) = true := decide_eq_true hcase
   have HS1 := key true
   have hn0 : wOr (decide (l.length > 5)) (bs, false) = (bs, true) := by unfold wOr; simp [hcase]
   clear key
   go_enter Try.func47, Try.ntmps47
   go_wp2_with (go_at_call 49; refine (wnum_calls (bs, true) (l.length : Int) 1 HS1.out (by have := HL.out; show bs.length ≤ _; omega)).mono ?_; rintro e V ⟨⟨u, rfl⟩, h1⟩; have HS2 := mk_ h1; clear h1)
   go_loopg [24] (l.length + 1) (fun kq v24 W' => ∃ (i : Nat), v24 = .int .i64 (i : Int) ∧ Aside0 (Sp W' (WrP g (wAll (fun n => wNum n 4) (l.take i) (wNum (l.length : Int) 1 (bs, true))) :: Old w0 :: F)) ∧ Aside0 (kq + i = l.length + 1 ∧ i ≤ l.length))
   case atStart => exact ⟨0, rfl, ⟨HS2.out⟩, ⟨by omega⟩⟩
   case round =>
    obtain ⟨i, rfl, HA, HK⟩ := hrel
    obtain ⟨k1, rfl⟩ : ∃ k1, gk = k1 + 1 := ⟨gk - 1, by have := HK.out; omega⟩
    by_cases hi : i < l.length
    ·
     have hx := Kd.at_int (C_below HC.out HA.out.s1.old) (i : Int) z2_ z2_
     obtain ⟨ad, hA, hx⟩ := hx
     cases hA
     rw [rd_get hi, Int.toNat_natCast] at hx
     have hb0 : (0 ≤ (i : Int)) = True := eq_true z2_
     have hb1 : ((i : Int) < (l.length : Int)) = True := eq_true z2_
     have hb2 : decide ((i : Int) < (l.length : Int)) = true := decide_eq_true z2_
     have hb3 : decide (i < l.length) = true := decide_eq_true hi
     have HI2 := mk_ hi
     have HT := mk_ (take_snoc hi)
     generalize hlx : l[i] = x at *
     clear hi hlx
     go_wp2_with (go_at_call 49; refine (wnum_calls _ x 4 HA.out (by have := HL.out; have h1 := wAll_len (f := fun n => wNum n 4) (m := 7) (fun x s => wNum_len x 4 s) (l.take i) (wNum (l.length : Int) 1 (bs, true)); have h2 := wNum_len (l.length : Int) 1 (bs, true); have h3 := HLL.out; have h4 := List.length_take_le i l; have h6 := HI2.out; have h5 : (bs, true).1.length = bs.length := rfl; omega)).mono ?_; rintro e V2 ⟨⟨u, rfl⟩, h1⟩; have HS3 := mk_ h1; clear h1)
     go_roundg k1
     case measure => exact Nat.lt_succ_self _
     case rel => exact ⟨i + 1, by rw [w64 z2_ (by have := HI2.out; have := HLL.out; omega)]; rfl, ⟨by rw [HT.out, wAll_snoc]; exact HS3.out⟩, ⟨by have := HK.out; omega, by have := HI2.out; omega⟩⟩
    ·
     have hie : i = l.length := by have := HK.out; omega
     subst hie
     have hb2' : decide ((l.length : Int) < (l.length : Int)) = false := decide_eq_false z2_
     have hb3' : decide (l.length < l.length) = false := decide_eq_false z2_
     clear hi
     go_wp2
     go_end0
     refine ⟨⟨_, rfl⟩, ?_⟩
     have h := HA.out
     rw [List.take_length] at h
     unfold wNums
     rw [hn0]
     exact h
  ·
   have hd1 : decide ((5 : Int) < (l.length : Int)) = false := decide_eq_false z2_
   have hd2 : decide (5 < l.length) = false := decide_eq_false hcase
   have HS1 := key false
   have hn0 : wOr (decide (l.length > 5)) (bs, false) = (bs, false) := by unfold wOr; simp [hcase]
   clear key
   go_enter Try.func47, Try.ntmps47
   go_wp2_with (go_at_call 49; refine (wnum_calls (bs, false) (l.length : Int) 1 HS1.out (by have := HL.out; show bs.length ≤ _; omega)).mono ?_; rintro e V ⟨⟨u, rfl⟩, h1⟩; have HS2 := mk_ h1; clear h1)
   go_loopg [24] (l.length + 1) (fun kq v24 W' => ∃ (i : Nat), v24 = .int .i64 (i : Int) ∧ Aside0 (Sp W' (WrP g (wAll (fun n => wNum n 4) (l.take i) (wNum (l.length : Int) 1 (bs, false))) :: Old w0 :: F)) ∧ Aside0 (kq + i = l.length + 1 ∧ i ≤ l.length))
   case atStart => exact ⟨0, rfl, ⟨HS2.out⟩, ⟨by omega⟩⟩
   case round =>
    obtain ⟨i, rfl, HA, HK⟩ := hrel
    obtain ⟨k1, rfl⟩ : ∃ k1, gk = k1 + 1 := ⟨gk - 1, by have := HK.out; omega⟩
    by_cases hi : i < l.length
    ·
     have hx := Kd.at_int (C_below HC.out HA.out.s1.old) (i : Int) z2_ z2_
     obtain ⟨ad, hA, hx⟩ := hx
     cases hA
     rw [rd_get hi, Int.toNat_natCast] at hx
     have hb0 : (0 ≤ (i : Int)) = True := eq_true z2_
     have hb1 : ((i : Int) < (l.length : Int)) = True := eq_true z2_
     have hb2 : decide ((i : Int) < (l.length : Int)) = true := decide_eq_true z2_
     have hb3 : decide (i < l.length) = true := decide_eq_true hi
     have HI2 := mk_ hi
     have HT := mk_ (take_snoc hi)
     generalize hlx : l[i] = x at *
     clear hi hlx
     go_wp2_with (go_at_call 49; refine (wnum_calls _ x 4 HA.out (by have := HL.out; have h1 := wAll_len (f := fun n => wNum n 4) (m := 7) (fun x s => wNum_len x 4 s) (l.take i) (wNum (l.length : Int) 1 (bs, false)); have h2 := wNum_len (l.length : Int) 1 (bs, false); have h3 := HLL.out; have h4 := List.length_take_le i l; have h6 := HI2.out; have h5 : (bs, false).1.length = bs.length := rfl; omega)).mono ?_; rintro e V2 ⟨⟨u, rfl⟩, h1⟩; have HS3 := mk_ h1; clear h1)
     go_roundg k1
     case measure => exact Nat.lt_succ_self _
     case rel => exact ⟨i + 1, by rw [w64 z2_ (by have := HI2.out; have := HLL.out; omega)]; rfl, ⟨by rw [HT.out, wAll_snoc]; exact HS3.out⟩, ⟨by have := HK.out; omega, by have := HI2.out; omega⟩⟩
    ·
     have hie : i = l.length := by have := HK.out; omega
     subst hie
     have hb2' : decide ((l.length : Int) < (l.length : Int)) = false := decide_eq_false z2_
     have hb3' : decide (l.length < l.length) = false := decide_eq_false z2_
     clear hi
     go_wp2
     go_end0
     refine ⟨⟨_, rfl⟩, ?_⟩
     have h := HA.out
     rw [List.take_length] at h
     unfold wNums
     rw [hn0]
     exact h
end
end Go.Proofs.Ytcbfliajgopdaaa.Ops
end
section
namespace Go.Proofs.Ytcbfliajgopdaaa.Ops
open Go.RowKit Go.Proofs.Ytcbfliajgopdaaa.PAll Go.Proofs.Ytcbfliajgopdaaa.Plain Go.Proofs.YtcbfliajgopdaaaW.PrintWords Go.Proofs.YtcbfliajgopdaaaW.PrintLast Go.Proofs.YtcbfliajgopdaaaW.PrintMore Go.Proofs.Ytcbfliajgopdaaa.Sep Go.Proofs.Ytcbfliajgopdaaa.ZipT Go.Proofs.YtcbfliajgopdaaaW.PrintWords.Kd Go.Proofs.YtcbfliajgopdaaaW.PrintMore.Kd
set_option linter.unusedVariables false
set_option linter.unusedSimpArgs false
def RdP (g : Nat) (A : Option Addr) (n c : Nat) (r : Rr) : Part := Blk g (.cells #[.slice A n c, .int .i64 r.1, .bool r.2] 71 (0, 0))
section
variable {w w0 : World} {g : Nat} {A : Option Addr} {c : Nat} {l : List Int} {F : List Part}
set_option maxHeartbeats 8000000 in
set_option maxRecDepth 100000 in
theorem rnum_calls (hC0 : Kd.C (Kd.int .u8) w0 A l.length l) (hlc : l.length ≤ c) (hb : Bytes l) (hl : l.length ≤ 1000000) (r : Rr) (size : Int) (hp : 0 ≤ r.1 ∧ r.1 ≤ l.length) (hS : Sp w (RdP g A l.length c r :: Old w0 :: F)) :
  Calls Try.prog 29 #[.pointer (some ⟨g, 0, none⟩), .int .i64 size] w fun e w' => e = .returned (.int .i64 (rNum size l r).1) ∧ Sp w' (RdP g A l.length c (rNum size l r).2 :: Old w0 :: F) := by
 have HC := mk_ (C_below hC0 hS.s1.old)
 have HLC := mk_ hlc
 have hg := get_eq 20 l r.1 size hb hl z2_ (Nat.le_refl _)
 have hu : rNum size l r = rOf (0 : Int) (sGet l r.1 size) r := rfl
 rw [hu]
 obtain ⟨at_, bad⟩ := r
 dsimp only at hg hp hu ⊢
 generalize hgg : sGet l at_ size = gg at hg hu ⊢
 obtain ⟨v_, nx_, e_⟩ := gg
 have HG := mk_ (show PAll.wire_Get.f 20 l at_ size = some (v_, nx_, e_) from hg)
 have h0 : w.cell? ⟨g, 0, none⟩ = some (.slice A l.length c) := blk_cell hS.blk 0
 have h1 : w.cell? ⟨g, 1, none⟩ = some (.int .i64 at_) := blk_cell hS.blk 1
 have h2 : w.cell? ⟨g, 2, none⟩ = some (.bool bad) := blk_cell hS.blk 2
 have f1 := blk_frozen hS.blk 1
 have f2 := blk_frozen hS.blk 2
 have HS := mk_ hS
 clear hS hC0 hlc hb hl hp hg hu hgg
 cases bad with
 | true =>
  go_enter Try.func29, Try.ntmps29
  go_wp2
  go_quiet (first | (go_at_call 72; refine (PAll.wire_Get.calls 20 A c l at_ size v_ nx_ _ _ (by repeat (first | exact HC.out | refine C_drewN ?_ _ | refine C_drew ?_)) HLC.out HG.out).mono ?_; rintro e V ⟨rfl, ⟨m, rfl⟩⟩; (try first | exact ⟨rfl, _, World.drewN_drewN _ _ _⟩ | exact ⟨rfl, _, Eq.trans (World.drewN_drewN _ _ _) (congrArg (World.drewN _) (Nat.add_assoc _ _ _))⟩)))
  go_wp2
  go_ret
  have hr : rOf (0 : Int) (v_, nx_, e_) (at_, true) = ((0 : Int), (at_, true)) := by unfold rOf; simp
  rw [hr]
  refine ⟨rfl, ?_⟩
  refine Sp.store (cs := #[.slice A l.length c, .int .i64 at_, .bool true]) ?_ 2 (.bool true)
  repeat (first | exact HS.out | refine Sp.drewN ?_ _ | refine Sp.drew ?_)
 | false =>
  by_cases he : e_ = 0
  ·
   subst he
   go_enter Try.func29, Try.ntmps29
   go_wp2
   go_quiet (first | (go_at_call 72; refine (PAll.wire_Get.calls 20 A c l at_ size v_ nx_ _ _ (by repeat (first | exact HC.out | refine C_drewN ?_ _ | refine C_drew ?_)) HLC.out HG.out).mono ?_; rintro e V ⟨rfl, ⟨m, rfl⟩⟩; (try first | exact ⟨rfl, _, World.drewN_drewN _ _ _⟩ | exact ⟨rfl, _, Eq.trans (World.drewN_drewN _ _ _) (congrArg (World.drewN _) (Nat.add_assoc _ _ _))⟩)))
   go_wp2
   go_ret
   have hr : rOf (0 : Int) (v_, nx_, 0) (at_, false) = (v_, (nx_, false)) := by unfold rOf; simp
   rw [hr]
   refine ⟨rfl, ?_⟩
   refine Sp.store (cs := #[.slice A l.length c, .int .i64 at_, .bool false]) ?_ 1 (.int .i64 nx_)
   repeat (first | exact HS.out | refine Sp.drewN ?_ _ | refine Sp.drew ?_)
  ·
   have hb0 : (e_ == 0) = false := beq_eq_false_iff_ne.2 he
   have hb1 : (e_ != 0) = true := bne_iff_ne.2 he
   have hb2 : decide (e_ = 0) = false := decide_eq_false he
   go_enter Try.func29, Try.ntmps29
   go_wp2
   go_quiet (first | (go_at_call 72; refine (PAll.wire_Get.calls 20 A c l at_ size v_ nx_ _ _ (by repeat (first | exact HC.out | refine C_drewN ?_ _ | refine C_drew ?_)) HLC.out HG.out).mono ?_; rintro e V ⟨rfl, ⟨m, rfl⟩⟩; (try first | exact ⟨rfl, _, World.drewN_drewN _ _ _⟩ | exact ⟨rfl, _, Eq.trans (World.drewN_drewN _ _ _) (congrArg (World.drewN _) (Nat.add_assoc _ _ _))⟩)))
   go_wp2
   go_ret
   have hr : rOf (0 : Int) (v_, nx_, e_) (at_, false) = ((0 : Int), (at_, true)) := by unfold rOf; simp [he]
   rw [hr]
   refine ⟨rfl, ?_⟩
   refine Sp.store (cs := #[.slice A l.length c, .int .i64 at_, .bool false]) ?_ 2 (.bool true)
   repeat (first | exact HS.out | refine Sp.drewN ?_ _ | refine Sp.drew ?_)
set_option maxHeartbeats 8000000 in
set_option maxRecDepth 100000 in
theorem rtext_calls (hC0 : Kd.C (Kd.int .u8) w0 A l.length l) (hlc : l.length ≤ c) (hb : Bytes l) (hl : l.length ≤ 1000000) (r : Rr) (hp : 0 ≤ r.1 ∧ r.1 ≤ l.length) (hS : Sp w (RdP g A l.length c r :: Old w0 :: F)) :
  Calls Try.prog 73 #[.pointer (some ⟨g, 0, none⟩)] w fun e w' => e = .returned (.string (rText l r).1) ∧ Sp w' (RdP g A l.length c (rText l r).2 :: Old w0 :: F) := by
 have HC := mk_ (C_below hC0 hS.s1.old)
 have HLC := mk_ hlc
 have hg := getText_eq 20 l r.1 hb hl z2_ (Nat.le_refl _)
 have hu : rText l r = rOf (⟨#[]⟩ : ByteArray) (sGetText l r.1) r := rfl
 rw [hu]
 obtain ⟨at_, bad⟩ := r
 dsimp only at hg hp hu ⊢
 generalize hgg : sGetText l at_ = gg at hg hu ⊢
 obtain ⟨v_, nx_, e_⟩ := gg
 have HG := mk_ (show PAll.wire_GetText.f 20 l at_ = some (v_, nx_, e_) from hg)
 have h0 : w.cell? ⟨g, 0, none⟩ = some (.slice A l.length c) := blk_cell hS.blk 0
 have h1 : w.cell? ⟨g, 1, none⟩ = some (.int .i64 at_) := blk_cell hS.blk 1
 have h2 : w.cell? ⟨g, 2, none⟩ = some (.bool bad) := blk_cell hS.blk 2
 have f1 := blk_frozen hS.blk 1
 have f2 := blk_frozen hS.blk 2
 have HS := mk_ hS
 clear hS hC0 hlc hb hl hp hg hu hgg
 cases bad with
 | true =>
  go_enter Try.func73, Try.ntmps73
  go_wp2
  go_quiet (first | (go_at_call 96; refine (PAll.wire_GetText.calls 20 A c l at_ v_ nx_ _ _ (by repeat (first | exact HC.out | refine C_drewN ?_ _ | refine C_drew ?_)) HLC.out HG.out).mono ?_; rintro e V ⟨rfl, ⟨m, rfl⟩⟩; (try first | exact ⟨rfl, _, World.drewN_drewN _ _ _⟩ | exact ⟨rfl, _, Eq.trans (World.drewN_drewN _ _ _) (congrArg (World.drewN _) (Nat.add_assoc _ _ _))⟩)))
  go_wp2
  go_ret
  have hr : rOf (⟨#[]⟩ : ByteArray) (v_, nx_, e_) (at_, true) = ((⟨#[]⟩ : ByteArray), (at_, true)) := by unfold rOf; simp
  rw [hr]
  refine ⟨rfl, ?_⟩
  refine Sp.store (cs := #[.slice A l.length c, .int .i64 at_, .bool true]) ?_ 2 (.bool true)
  repeat (first | exact HS.out | refine Sp.drewN ?_ _ | refine Sp.drew ?_)
 | false =>
  by_cases he : e_ = 0
  ·
   subst he
   go_enter Try.func73, Try.ntmps73
   go_wp2
   go_quiet (first | (go_at_call 96; refine (PAll.wire_GetText.calls 20 A c l at_ v_ nx_ _ _ (by repeat (first | exact HC.out | refine C_drewN ?_ _ | refine C_drew ?_)) HLC.out HG.out).mono ?_; rintro e V ⟨rfl, ⟨m, rfl⟩⟩; (try first | exact ⟨rfl, _, World.drewN_drewN _ _ _⟩ | exact ⟨rfl, _, Eq.trans (World.drewN_drewN _ _ _) (congrArg (World.drewN _) (Nat.add_assoc _ _ _))⟩)))
   go_wp2
   go_ret
   have hr : rOf (⟨#[]⟩ : ByteArray) (v_, nx_, 0) (at_, false) = (v_, (nx_, false)) := by unfold rOf; simp
   rw [hr]
   refine ⟨rfl, ?_⟩
   refine Sp.store (cs := #[.slice A l.length c, .int .i64 at_, .bool false]) ?_ 1 (.int .i64 nx_)
   repeat (first | exact HS.out | refine Sp.drewN ?_ _ | refine Sp.drew ?_)
  ·
   have hb0 : (e_ == 0) = false := beq_eq_false_iff_ne.2 he
   have hb1 : (e_ != 0) = true := bne_iff_ne.2 he
   have hb2 : decide (e_ = 0) = false := decide_eq_false he
   go_enter Try.func73, Try.ntmps73
   go_wp2
   go_quiet (first | (go_at_call 96; refine (PAll.wire_GetText.calls 20 A c l at_ v_ nx_ _ _ (by repeat (first | exact HC.out | refine C_drewN ?_ _ | refine C_drew ?_)) HLC.out HG.out).mono ?_; rintro e V ⟨rfl, ⟨m, rfl⟩⟩; (try first | exact ⟨rfl, _, World.drewN_drewN _ _ _⟩ | exact ⟨rfl, _, Eq.trans (World.drewN_drewN _ _ _) (congrArg (World.drewN _) (Nat.add_assoc _ _ _))⟩)))
   go_wp2
   go_ret
   have hr : rOf (⟨#[]⟩ : ByteArray) (v_, nx_, e_) (at_, false) = ((⟨#[]⟩ : ByteArray), (at_, true)) := by unfold rOf; simp [he]
   rw [hr]
   refine ⟨rfl, ?_⟩
   refine Sp.store (cs := #[.slice A l.length c, .int .i64 at_, .bool false]) ?_ 2 (.bool true)
   repeat (first | exact HS.out | refine Sp.drewN ?_ _ | refine Sp.drew ?_)
set_option maxHeartbeats 8000000 in
set_option maxRecDepth 100000 in
theorem rmany_calls (hC0 : Kd.C (Kd.int .u8) w0 A l.length l) (hlc : l.length ≤ c) (hb : Bytes l) (hl : l.length ≤ 1000000) (r : Rr) (size most : Int) (hp : 0 ≤ r.1 ∧ r.1 ≤ l.length) (hS : Sp w (RdP g A l.length c r :: Old w0 :: F)) :
  Calls Try.prog 31 #[.pointer (some ⟨g, 0, none⟩), .int .i64 size, .int .i64 most] w fun e w' => e = .returned (.int .i64 (rMany size most l r).1) ∧ Sp w' (RdP g A l.length c (rMany size most l r).2 :: Old w0 :: F) := by
 have hN := rnum_calls hC0 hlc hb hl r size hp hS
 have hu : rMany size most l r = if (rNum size l r).1 > most then (0, ((rNum size l r).2.1, true)) else rNum size l r := rfl
 rw [hu]; clear hu
 generalize rNum size l r = q at hN ⊢
 obtain ⟨n, at1, bad1⟩ := q
 have HN := mk_ hN
 clear hN hS hC0 hlc hb hl hp
 by_cases hm : n > most
 ·
  have hb0 : decide (most < n) = true := decide_eq_true hm
  rw [if_pos hm]
  clear hm
  go_enter Try.func31, Try.ntmps31
  go_wp2_with (go_at_call 29; refine HN.out.mono ?_; rintro e V ⟨rfl, h1⟩; have HS1 := mk_ h1; have k2 := blk_cell h1.blk 2; have f2 := blk_frozen h1.blk 2; clear h1)
  go_ret
  exact ⟨rfl, Sp.store (cs := #[.slice A l.length c, .int .i64 at1, .bool bad1]) HS1.out 2 (.bool true)⟩
 ·
  have hb0 : decide (most < n) = false := decide_eq_false hm
  rw [if_neg hm]
  clear hm
  go_enter Try.func31, Try.ntmps31
  go_wp2_with (go_at_call 29; refine HN.out.mono ?_; rintro e V ⟨rfl, h1⟩; have HS1 := mk_ h1; clear h1)
  go_ret
  exact ⟨rfl, HS1.out⟩
end
end Go.Proofs.Ytcbfliajgopdaaa.Ops
end
section
namespace Go.Proofs.Ytcbfliajgopdaaa.Ops
open Go.RowKit Go.Proofs.Ytcbfliajgopdaaa.PAll Go.Proofs.Ytcbfliajgopdaaa.Plain Go.Proofs.YtcbfliajgopdaaaW.PrintWords Go.Proofs.YtcbfliajgopdaaaW.PrintLast Go.Proofs.YtcbfliajgopdaaaW.PrintMore Go.Proofs.Ytcbfliajgopdaaa.Sep Go.Proofs.Ytcbfliajgopdaaa.ZipT Go.Proofs.YtcbfliajgopdaaaW.PrintWords.Kd Go.Proofs.YtcbfliajgopdaaaW.PrintMore.Kd
set_option linter.unusedVariables false
set_option linter.unusedSimpArgs false
section
variable {w w0 : World} {g : Nat} {A : Option Addr} {c : Nat} {l : List Int} {F : List Part}
theorem gate_st {P : Program} {ops : Array Oper} {rest : List Oper} {o : Oper} {a : Act} {Q : Exit → Act → World → Prop} {W : World} {ty : TypeId} {x y : Operand} (_ho : o.op = .store ty x y) (h : wpList P ops Q (o :: rest) a W) : wpList P ops Q (o :: rest) a W := h
theorem sp_storeRow {g : Nat} {cs : Array Value} {t : TypeId} {fz : Nat × Nat} {w : World} {F : List Part} (h : Sp w (Blk g (.cells cs t fz) :: F)) (cs' : Array Value) : Sp (w.setRow g cs') (Blk g (.cells cs' t fz) :: F) := by
 obtain ⟨ok, h1, h2, h3⟩ := h.head1
 refine h3 _ _ ⟨rfl, rfl, rfl, by simp [World.setRow], fun i _ hn => ?_⟩ ⟨.inl h2.1, by simp [World.setRow, Array.getElem?_modify, h2.2]⟩
 have : ¬ g = i := fun e => hn (e ▸ h2.1)
 simp [World.setRow, Array.getElem?_modify, this]
def rAt (l : List Int) (r : Rr) : Prop := 0 ≤ r.1 ∧ r.1 ≤ l.length
theorem times_snoc {α : Type} (f : List Int → Rr → α × Rr) (l : List Int) : ∀ (n : Nat) (acc : List α) (r : Rr), rTimes f l (n + 1) acc r = ((rTimes f l n acc r).1 ++ [(f l (rTimes f l n acc r).2).1], (f l (rTimes f l n acc r).2).2)
 | 0, acc, r => rfl
 | n + 1, acc, r => times_snoc f l n (acc ++ [(f l r).1]) (f l r).2
theorem rAt_num {l : List Int} {r : Rr} (hb : Bytes l) (s : Nat) (h1 : 1 ≤ s) (h7 : s ≤ 7) (h : rAt l r) : rAt l (rNum (s : Int) l r).2 := (Reads.num s h1 h7).place l r hb h.1 h.2
theorem rAt_times {α : Type} {f : List Int → Rr → α × Rr} {l : List Int} (hf : ∀ r, rAt l r → rAt l (f l r).2) : ∀ (n : Nat) (acc : List α) (r : Rr), rAt l r → rAt l (rTimes f l n acc r).2
 | 0, acc, r, h => h
 | n + 1, acc, r, h => rAt_times hf n (acc ++ [(f l r).1]) (f l r).2 (hf r h)
set_option maxHeartbeats 8000000 in
set_option maxRecDepth 100000 in
theorem rdot_calls (hC0 : Kd.C (Kd.int .u8) w0 A l.length l) (hlc : l.length ≤ c) (hb : Bytes l) (hl : l.length ≤ 1000000) (r : Rr) (hp0 : rAt l r) (hp1 : rAt l (rNum 1 l r).2) (hS : Sp w (RdP g A l.length c r :: Old w0 :: F)) :
  Calls Try.prog 74 #[.pointer (some ⟨g, 0, none⟩)] w fun e w' => e = .returned (.agg #[.int .i64 (rNum 1 l r).1, .int .i64 (rNum 4 l (rNum 1 l r).2).1]) ∧ Sp w' (RdP g A l.length c (rNum 4 l (rNum 1 l r).2).2 :: Old w0 :: F) := by
 have HP0 := mk_ hp0
 have HP1 := mk_ hp1
 have HC := mk_ (And.intro hC0 (And.intro hlc (And.intro hb hl)))
 have HS0 := mk_ (hS.box (.cells #[.int .i64 0, .int .i64 0] 50 (0, 0)))
 clear hS hC0 hlc hb hl hp0 hp1
 go_enter Try.func74, Try.ntmps74
 go_wp2_with (first
  | (go_at_call 29; (with_reducible show Calls _ _ #[_, .int .i64 1] _ _); refine (rnum_calls (F := Blk w.heap.size (.cells #[.int .i64 0, .int .i64 0] 50 (0, 0)) :: F) HC.out.1 HC.out.2.1 HC.out.2.2.1 HC.out.2.2.2 r 1 HP0.out (Sp.s1 (Sp.s2 (Sp.s1 HS0.out)))).mono ?_; rintro e V0 ⟨rfl, h1⟩; have HS1 := mk_ h1; clear h1)
  | (go_at_call 29; (with_reducible show Calls _ _ #[_, .int .i64 4] _ _); refine (rnum_calls (F := Blk w.heap.size (.cells #[.int .i64 0, .int .i64 0] 50 (0, 0)) :: F) HC.out.1 HC.out.2.1 HC.out.2.2.1 HC.out.2.2.2 (rNum 1 l r).2 4 HP1.out HS1.out).mono ?_; rintro e V1 ⟨rfl, h1⟩; have HS2 := mk_ h1; clear h1)
  | ((with_reducible refine gate_st (ty := 50) (x := .tmp 2) (y := .tmp 7) rfl ?_); refine wpList_store_row rfl 50 (.tmp 2) (.tmp 7) rfl w.heap.size #[.int .i64 (rNum 1 l r).1, .int .i64 (rNum 4 l (rNum 1 l r).2).1] rfl rfl 50 #[.int .i64 0, .int .i64 0] HS2.out.s2.blk z1_ rfl (by first | decide | rfl | simp [Value.oneCell']) ?_))
 refine bodyPost_ret (results_cell_row rfl _ _ w.heap.size 50 #[.int .i64 (rNum 1 l r).1, .int .i64 (rNum 4 l (rNum 1 l r).2).1] (0, 0) _ rfl (sp_storeRow HS2.out.s2 _).blk Try.underlying50 rfl z1_) rfl ?_
 exact ⟨rfl, (sp_storeRow HS2.out.s2 #[.int .i64 (rNum 1 l r).1, .int .i64 (rNum 4 l (rNum 1 l r).2).1]).tail⟩
set_option maxHeartbeats 8000000 in
set_option maxRecDepth 100000 in
theorem rstamp_calls (hC0 : Kd.C (Kd.int .u8) w0 A l.length l) (hlc : l.length ≤ c) (hb : Bytes l) (hl : l.length ≤ 1000000) (r : Rr) (hp0 : rAt l r) (hp1 : rAt l (rNum 6 l r).2) (hp2 : rAt l (rNum 3 l (rNum 6 l r).2).2) (hS : Sp w (RdP g A l.length c r :: Old w0 :: F)) :
  Calls Try.prog 28 #[.pointer (some ⟨g, 0, none⟩)] w fun e w' => e = .returned (.agg #[.int .i64 (rNum 6 l r).1, .int .i64 (rNum 3 l (rNum 6 l r).2).1, .int .i64 (rNum 1 l (rNum 3 l (rNum 6 l r).2).2).1]) ∧ Sp w' (RdP g A l.length c (rNum 1 l (rNum 3 l (rNum 6 l r).2).2).2 :: Old w0 :: F) := by
 have HP0 := mk_ hp0
 have HP1 := mk_ hp1
 have HP2 := mk_ hp2
 have HC := mk_ (And.intro hC0 (And.intro hlc (And.intro hb hl)))
 have HS0 := mk_ (hS.box (.cells #[.int .i64 0, .int .i64 0, .int .i64 0] 26 (0, 0)))
 clear hS hC0 hlc hb hl hp0 hp1 hp2
 go_enter Try.func28, Try.ntmps28
 go_wp2_with (first
  | (go_at_call 29; (with_reducible show Calls _ _ #[_, .int .i64 6] _ _); refine (rnum_calls (F := Blk w.heap.size (.cells #[.int .i64 0, .int .i64 0, .int .i64 0] 26 (0, 0)) :: F) HC.out.1 HC.out.2.1 HC.out.2.2.1 HC.out.2.2.2 r 6 HP0.out (Sp.s1 (Sp.s2 (Sp.s1 HS0.out)))).mono ?_; rintro e V0 ⟨rfl, h1⟩; have HS1 := mk_ h1; clear h1)
  | (go_at_call 29; (with_reducible show Calls _ _ #[_, .int .i64 3] _ _); refine (rnum_calls (F := Blk w.heap.size (.cells #[.int .i64 0, .int .i64 0, .int .i64 0] 26 (0, 0)) :: F) HC.out.1 HC.out.2.1 HC.out.2.2.1 HC.out.2.2.2 (rNum 6 l r).2 3 HP1.out HS1.out).mono ?_; rintro e V1 ⟨rfl, h1⟩; have HS2 := mk_ h1; clear h1)
  | (go_at_call 29; (with_reducible show Calls _ _ #[_, .int .i64 1] _ _); refine (rnum_calls (F := Blk w.heap.size (.cells #[.int .i64 0, .int .i64 0, .int .i64 0] 26 (0, 0)) :: F) HC.out.1 HC.out.2.1 HC.out.2.2.1 HC.out.2.2.2 (rNum 3 l (rNum 6 l r).2).2 1 HP2.out HS2.out).mono ?_; rintro e V2 ⟨rfl, h1⟩; have HS3 := mk_ h1; clear h1)
  | ((with_reducible refine gate_st (ty := 26) (x := .tmp 2) (y := .tmp 9) rfl ?_); refine wpList_store_row rfl 26 (.tmp 2) (.tmp 9) rfl w.heap.size #[.int .i64 (rNum 6 l r).1, .int .i64 (rNum 3 l (rNum 6 l r).2).1, .int .i64 (rNum 1 l (rNum 3 l (rNum 6 l r).2).2).1] rfl rfl 26 #[.int .i64 0, .int .i64 0, .int .i64 0] HS3.out.s2.blk z1_ rfl (by first | decide | rfl | simp [Value.oneCell']) ?_))
 refine bodyPost_ret (results_cell_row rfl _ _ w.heap.size 26 #[.int .i64 (rNum 6 l r).1, .int .i64 (rNum 3 l (rNum 6 l r).2).1, .int .i64 (rNum 1 l (rNum 3 l (rNum 6 l r).2).2).1] (0, 0) _ rfl (sp_storeRow HS3.out.s2 _).blk Try.underlying26 rfl z1_) rfl ?_
 exact ⟨rfl, (sp_storeRow HS3.out.s2 #[.int .i64 (rNum 6 l r).1, .int .i64 (rNum 3 l (rNum 6 l r).2).1, .int .i64 (rNum 1 l (rNum 3 l (rNum 6 l r).2).2).1]).tail⟩
end
end Go.Proofs.Ytcbfliajgopdaaa.Ops
end
section
namespace Go.Proofs.Ytcbfliajgopdaaa.Ops
open Go.RowKit Go.Proofs.Ytcbfliajgopdaaa.PAll Go.Proofs.Ytcbfliajgopdaaa.Plain Go.Proofs.YtcbfliajgopdaaaW.PrintWords Go.Proofs.YtcbfliajgopdaaaW.PrintLast Go.Proofs.YtcbfliajgopdaaaW.PrintMore Go.Proofs.Ytcbfliajgopdaaa.Sep Go.Proofs.Ytcbfliajgopdaaa.ZipT Go.Proofs.YtcbfliajgopdaaaW.PrintWords.Kd Go.Proofs.YtcbfliajgopdaaaW.PrintMore.Kd
set_option linter.unusedVariables false
set_option linter.unusedSimpArgs false
section
variable {w w0 : World} {g : Nat} {A : Option Addr} {c : Nat} {l : List Int} {F : List Part}
theorem sp_el {α : Type} {d : Kd α} {p : α} {cs : List Value} {w : World} {F : List Part} (hM : ∀ (w : World) (ok : Nat → Prop), d.M w 0 ok p cs) (h : Sp w F) : Sp w (El d p cs :: F) :=
 ⟨fun _ => False, fun _ h => h.elim, hM _ _, h.wide (fun k hk => ⟨hk, fun e => e⟩)⟩
theorem sp_nil {α : Type} {d : Kd α} {e : Nat} {w : World} {F : List Part} (h : Sp w F) : Sp w (Row d e (.slice none 0 0) [] :: F) :=
 ⟨fun _ => False, fun _ h => h.elim, R_nil _ _ _ _ _, h.wide (fun k hk => ⟨hk, fun e => e⟩)⟩
theorem start_at {P : Program} {ops : Array Oper} {Q : Exit → Act → World → Prop} {S : World → Prop} {ds : List Nat} {id n : Nat} {a : Act} {w : World} (J : World → Prop) (l : Array Bool) (hm : P.follows .mixedOrders = true) (hn : ops.size = n) (hl : Array.replicate n false = l)
  (hJ : J w.drew) (hS : ∀ W, J W → S W) (h : ∀ W, J W → wpAnyLast P .any ops Q S ds n l a W) : (Code.region id ops true).wp P Q a w :=
 start_ l hm hn hl (hS _ hJ) (fun _ => h _ hJ)
theorem times_len {α : Type} (f : List Int → Rr → α × Rr) (l : List Int) : ∀ (n : Nat) (acc : List α) (r : Rr), (rTimes f l n acc r).1.length = acc.length + n
 | 0, acc, r => rfl
 | n + 1, acc, r => by rw [rTimes, times_len f l n]; simp; omega
theorem rAt_many {l : List Int} {r : Rr} (hb : Bytes l) (s : Nat) (h1 : 1 ≤ s) (h7 : s ≤ 7) (m : Int) (h : rAt l r) : rAt l (rMany (s : Int) m l r).2 := by
 have := rAt_num hb s h1 h7 h
 unfold rMany
 split
 ·
  exact this
 ·
  exact this
set_option maxHeartbeats 8000000 in
set_option maxRecDepth 100000 in
theorem rnums_calls (hC0 : Kd.C (Kd.int .u8) w0 A l.length l) (hlc : l.length ≤ c) (hb : Bytes l) (hl : l.length ≤ 1000000) (r : Rr) (hp : rAt l r) (hS : Sp w (RdP g A l.length c r :: Old w0 :: F)) :
  Calls Try.prog 27 #[.pointer (some ⟨g, 0, none⟩)] w fun e w' => ∃ v, e = .returned v ∧ Sp w' (Row (Kd.int .i64) 3 v (rNums l r).1 :: RdP g A l.length c (rNums l r).2 :: Old w0 :: F) := by
 have hm := rAt_many hb 1 z5_ z5_ 5 hp
 have HN := mk_ (rmany_calls hC0 hlc hb hl r 1 5 hp hS)
 have hu : rNums l r = rTimes (rNum 4) l (rMany 1 5 l r).1.toNat [] (rMany 1 5 l r).2 := rfl
 have hle : (rMany 1 5 l r).1 ≤ 5 := by unfold rMany; split <;> omega
 rw [hu]
 have hm : rAt l (rMany 1 5 l r).2 := hm
 generalize rMany 1 5 l r = q at *
 obtain ⟨n, r1⟩ := q
 dsimp only at hle hm HN ⊢
 have HT : Aside0 (∀ i, rAt l (rTimes (rNum 4) l i [] r1).2) := ⟨fun i => rAt_times (fun r h => rAt_num hb 4 z5_ z5_ h) i [] _ hm⟩
 have HC := mk_ (And.intro hC0 (And.intro hlc (And.intro hb hl)))
 have HLE := mk_ hle
 clear hC0 hlc hb hl hp hS hu hle hm
 go_enter Try.func27, Try.ntmps27
 go_wp2_with (go_at_call 31; refine HN.out.mono ?_; rintro e V ⟨rfl, h1⟩; have HS1 := mk_ h1; clear h1)
 go_loopg [6, 3] (n.toNat + 1) (fun kq v6 v3 W' => ∃ (i : Nat) (v : Value), v6 = .int .i64 (i : Int) ∧ v3 = v ∧ Aside0 (Sp W' (Row (Kd.int .i64) 3 v (rTimes (rNum 4) l i [] r1).1 :: RdP g A l.length c (rTimes (rNum 4) l i [] r1).2 :: Old w0 :: F)) ∧ Aside0 (kq + i = n.toNat + 1 ∧ i ≤ n.toNat))
 case atStart => exact ⟨0, _, rfl, rfl, ⟨sp_nil HS1.out⟩, ⟨by omega⟩⟩
 case round =>
  obtain ⟨i, _, rfl, rfl, HA, HK⟩ := hrel
  obtain ⟨k1, rfl⟩ : ∃ k1, gk = k1 + 1 := ⟨gk - 1, by have := HK.out; omega⟩
  by_cases hi : (i : Int) < n
  ·
   have hb2 : decide ((i : Int) < n) = true := decide_eq_true hi
   have HI := mk_ hi
   have HX := mk_ (times_snoc (rNum 4) l i [] r1)
   have HTi := mk_ (HT.out i)
   have HTL : Aside0 ((rTimes (rNum 4) l i [] r1).1.length = i) := ⟨by rw [times_len]; simp⟩
   clear hi HT
   generalize rTimes (rNum 4) l i [] r1 = t at *
   obtain ⟨xs, ri⟩ := t
   dsimp only at HA HX HTi HTL
   have HQ := mk_ (fun V hv => rnum_calls (g := g) (w := V) (F := Row (Kd.int .i64) 3 u3 xs :: F) HC.out.1 HC.out.2.1 HC.out.2.2.1 HC.out.2.2.2 ri 4 HTi.out hv)
   generalize rNum 4 l ri = q at *
   obtain ⟨p, rj⟩ := q
   dsimp only at HQ HX
   go_wp2_with (first
    | (go_at_call 29; (with_reducible show Calls _ _ #[_, .int .i64 4] _ _); refine (HQ.out _ (HA.out.s1).s2.s1).mono ?_; rintro e V2 ⟨rfl, h1⟩; have HS3 := mk_ (Sp.s1 (sp_el (d := Kd.int .i64) (p := p) (cs := [.int .i64 p]) (fun _ _ => rfl) h1.s2)); clear h1)
    | ((with_reducible refine gate_builtin (b := .append) (xs := #[.tmp 8, .tmp 11]) rfl ?_); at_builtin; refine Sp.append (Kd.int .i64) rfl (.tmp 8) (.tmp 11) 24 3 (.int .i64 0) 8 rfl Try.underlying24 z1_ rfl z5_ z2_ u3 xs p [.int .i64 p] rfl rfl HS3.out (by have := HTL.out; have := HI.out; have := HLE.out; omega) ?_; intro v1 w1 h1; have HS4 := mk_ h1; clear h1))
   go_roundg k1
   case measure => exact Nat.lt_succ_self _
   case rel => exact ⟨i + 1, v1, by rw [w64 z2_ (by have := HI.out; have := HLE.out; omega)]; rfl, rfl, ⟨by rw [HX.out]; exact HS4.out⟩, ⟨by have := HK.out; omega, by have := HI.out; omega⟩⟩
  ·
   have hb2 : decide ((i : Int) < n) = false := decide_eq_false hi
   have hie : i = n.toNat := by have := HK.out; omega
   clear hi
   go_wp2
   go_ret
   subst hie
   exact ⟨_, rfl, HA.out⟩
set_option maxHeartbeats 8000000 in
set_option maxRecDepth 100000 in
theorem rop_calls (hC0 : Kd.C (Kd.int .u8) w0 A l.length l) (hlc : l.length ≤ c) (hb : Bytes l) (hl : l.length ≤ 1000000) (r : Rr) (hp : rAt l r) (hS : Sp w (RdP g A l.length c r :: Old w0 :: F)) :
  Calls Try.prog 32 #[.pointer (some ⟨g, 0, none⟩)] w fun e w' => ∃ v1 v7 v8, e = .returned (.agg #[.int .i64 (rOp l r).1.f0.f0, .int .i64 (rOp l r).1.f0.f1, v1, .int .i64 (rOp l r).1.f2.f0, .int .i64 (rOp l r).1.f2.f1, .int .i64 (rOp l r).1.f2.f2, .int .i64 (rOp l r).1.f3, .int .i64 (rOp l r).1.f4, .string (rOp l r).1.f5, .int .i64 (rOp l r).1.f6, v7, v8]) ∧
   Sp w' (Row (Kd.int .i64) 3 v1 (rOp l r).1.f1 :: Row k89 89 v7 (rOp l r).1.f7 :: Row k50 50 v8 (rOp l r).1.f8 :: RdP g A l.length c (rOp l r).2 :: Old w0 :: F) := by
 obtain ⟨q1, hq1⟩ : ∃ q, q = rNum 1 l r := ⟨_, rfl⟩
 have C1 : ∀ V F', Sp V (RdP g A l.length c r :: Old w0 :: F') → Calls Try.prog 29 #[.pointer (some ⟨g, 0, none⟩), .int .i64 1] V (fun e w' => e = .returned (.int .i64 q1.1) ∧ Sp w' (RdP g A l.length c q1.2 :: Old w0 :: F')) := fun V F' h => by rw [hq1]; exact rnum_calls hC0 hlc hb hl r 1 hp h
 have p1 : rAt l q1.2 := by rw [hq1]; exact rAt_num hb 1 z5_ z5_ hp
 obtain ⟨q2, hq2⟩ : ∃ q, q = rDot l q1.2 := ⟨_, rfl⟩
 have C2 : ∀ V F', Sp V (RdP g A l.length c q1.2 :: Old w0 :: F') → Calls Try.prog 74 #[.pointer (some ⟨g, 0, none⟩)] V (fun e w' => e = .returned (.agg #[.int .i64 q2.1.f0, .int .i64 q2.1.f1]) ∧ Sp w' (RdP g A l.length c q2.2 :: Old w0 :: F')) := fun V F' h => by rw [hq2]; exact rdot_calls hC0 hlc hb hl q1.2 p1 (rAt_num hb 1 z5_ z5_ p1) h
 have p2 : rAt l q2.2 := by rw [hq2]; exact Reads.dot.place l q1.2 hb p1.1 p1.2
 obtain ⟨q3, hq3⟩ : ∃ q, q = rNums l q2.2 := ⟨_, rfl⟩
 have C3 : ∀ V F', Sp V (RdP g A l.length c q2.2 :: Old w0 :: F') → Calls Try.prog 27 #[.pointer (some ⟨g, 0, none⟩)] V (fun e w' => ∃ v, e = .returned v ∧ Sp w' (Row (Kd.int .i64) 3 v q3.1 :: RdP g A l.length c q3.2 :: Old w0 :: F')) := fun V F' h => by rw [hq3]; exact rnums_calls hC0 hlc hb hl q2.2 p2 h
 have p3 : rAt l q3.2 := by rw [hq3]; exact Reads.nums.place l q2.2 hb p2.1 p2.2
 obtain ⟨q4, hq4⟩ : ∃ q, q = rStamp l q3.2 := ⟨_, rfl⟩
 have C4 : ∀ V F', Sp V (RdP g A l.length c q3.2 :: Old w0 :: F') → Calls Try.prog 28 #[.pointer (some ⟨g, 0, none⟩)] V (fun e w' => e = .returned (.agg #[.int .i64 q4.1.f0, .int .i64 q4.1.f1, .int .i64 q4.1.f2]) ∧ Sp w' (RdP g A l.length c q4.2 :: Old w0 :: F')) := fun V F' h => by rw [hq4]; exact rstamp_calls hC0 hlc hb hl q3.2 p3 (rAt_num hb 6 z5_ z5_ p3) (rAt_num hb 3 z5_ z5_ (rAt_num hb 6 z5_ z5_ p3)) h
 have p4 : rAt l q4.2 := by rw [hq4]; exact Reads.stamp.place l q3.2 hb p3.1 p3.2
 obtain ⟨q5, hq5⟩ : ∃ q, q = rNum 1 l q4.2 := ⟨_, rfl⟩
 have C5 : ∀ V F', Sp V (RdP g A l.length c q4.2 :: Old w0 :: F') → Calls Try.prog 29 #[.pointer (some ⟨g, 0, none⟩), .int .i64 1] V (fun e w' => e = .returned (.int .i64 q5.1) ∧ Sp w' (RdP g A l.length c q5.2 :: Old w0 :: F')) := fun V F' h => by rw [hq5]; exact rnum_calls hC0 hlc hb hl q4.2 1 p4 h
 have p5 : rAt l q5.2 := by rw [hq5]; exact rAt_num hb 1 z5_ z5_ p4
 obtain ⟨q6, hq6⟩ : ∃ q, q = rText l q5.2 := ⟨_, rfl⟩
 have C6 : ∀ V F', Sp V (RdP g A l.length c q5.2 :: Old w0 :: F') → Calls Try.prog 73 #[.pointer (some ⟨g, 0, none⟩)] V (fun e w' => e = .returned (.string q6.1) ∧ Sp w' (RdP g A l.length c q6.2 :: Old w0 :: F')) := fun V F' h => by rw [hq6]; exact rtext_calls hC0 hlc hb hl q5.2 p5 h
 have p6 : rAt l q6.2 := by rw [hq6]; exact Reads.text.place l q5.2 hb p5.1 p5.2
 obtain ⟨q7, hq7⟩ : ∃ q, q = rNum 1 l q6.2 := ⟨_, rfl⟩
 have C7 : ∀ V F', Sp V (RdP g A l.length c q6.2 :: Old w0 :: F') → Calls Try.prog 29 #[.pointer (some ⟨g, 0, none⟩), .int .i64 1] V (fun e w' => e = .returned (.int .i64 q7.1) ∧ Sp w' (RdP g A l.length c q7.2 :: Old w0 :: F')) := fun V F' h => by rw [hq7]; exact rnum_calls hC0 hlc hb hl q6.2 1 p6 h
 have p7 : rAt l q7.2 := by rw [hq7]; exact rAt_num hb 1 z5_ z5_ p6
 have hu : rOp l r = if (rRow l q7.2).2.2 = true then (zOp, (rRow l q7.2).2) else (⟨q2.1, q3.1, q4.1, q1.1, q5.1, q6.1, q7.1, (rRow l q7.2).1, (rDots l (rRow l q7.2).2).1⟩, (rDots l (rRow l q7.2).2).2) := by
  subst hq7 hq6 hq5 hq4 hq3 hq2 hq1; rfl
 have hg := rowRead_eq 80 l q7.2.1 hb hl (by have := p7.2; omega) (Nat.le_refl _)
 have hr : rRow l q7.2 = rOf [] (sRowRead l q7.2.1) q7.2 := rfl
 have pr : rAt l (rRow l q7.2).2 := Reads.row.place l q7.2 hb p7.1 p7.2
 have hcl : ∀ V, Below w0.heap.size w0 V → Kd.C (Kd.int .u8) V A l.length l := fun V h => C_below hC0 h
 have CM : ∀ V F' r, rAt l r → Sp V (RdP g A l.length c r :: Old w0 :: F') → Calls Try.prog 31 #[.pointer (some ⟨g, 0, none⟩), .int .i64 1, .int .i64 64] V (fun e w' => e = .returned (.int .i64 (rMany 1 64 l r).1) ∧ Sp w' (RdP g A l.length c (rMany 1 64 l r).2 :: Old w0 :: F')) := fun V F' r p h => rmany_calls hC0 hlc hb hl r 1 64 p h
 have CD : ∀ V F' r, rAt l r → Sp V (RdP g A l.length c r :: Old w0 :: F') → Calls Try.prog 74 #[.pointer (some ⟨g, 0, none⟩)] V (fun e w' => e = .returned (.agg #[.int .i64 (rDot l r).1.f0, .int .i64 (rDot l r).1.f1]) ∧ Sp w' (RdP g A l.length c (rDot l r).2 :: Old w0 :: F')) := fun V F' r p h => rdot_calls hC0 hlc hb hl r p (rAt_num hb 1 z5_ z5_ p) h
 have PM : ∀ r, rAt l r → rAt l (rMany 1 64 l r).2 := fun r p => rAt_many hb 1 z5_ z5_ 64 p
 have PD : ∀ r, rAt l r → rAt l (rDot l r).2 := fun r p => Reads.dot.place l r hb p.1 p.2
 rw [hr] at pr hu
 generalize sRowRead l q7.2.1 = gg at hg hu pr
 obtain ⟨vals, nx, e_⟩ := gg
 clear hr hq7 hq6 hq5 hq4 hq3 hq2 hq1 p1 p2 p3 p4 p5 p6 p7 hb hC0 hp
 obtain ⟨n1, r1⟩ := q1
 obtain ⟨d_, r2⟩ := q2
 obtain ⟨l3, r3⟩ := q3
 obtain ⟨t_, r4⟩ := q4
 obtain ⟨n5, r5⟩ := q5
 obtain ⟨s6, r6⟩ := q6
 obtain ⟨n7, r7⟩ := q7
 obtain ⟨at7, bad7⟩ := r7
 dsimp only at C1 C2 C3 C4 C5 C6 C7 hg hu pr
 have HG := mk_ hg
 have HLC := mk_ hlc
 have HCL := mk_ hcl
 have HC1 := mk_ C1
 have HC2 := mk_ C2
 have HC3 := mk_ C3
 have HC4 := mk_ C4
 have HC5 := mk_ C5
 have HC6 := mk_ C6
 have HC7 := mk_ C7
 have HCM := mk_ CM
 have HCD := mk_ CD
 have HPM := mk_ PM
 have HPD := mk_ PD
 have HS0 := mk_ (Sp.s1 (Sp.s2 (Sp.s1 (hS.box (.cells #[.int .i64 0, .int .i64 0, .slice none 0 0, .int .i64 0, .int .i64 0, .int .i64 0, .int .i64 0, .int .i64 0, .string ⟨#[]⟩, .int .i64 0, .slice none 0 0, .slice none 0 0] 54 (0, 0))))))
 clear C1 C2 C3 C4 C5 C6 C7 CM CD PM PD hg hlc hcl hS
 cases bad7 with
 | true =>
  have hz : rOp l r = (zOp, (at7, true)) := by rw [hu]; unfold rOf; simp
  rw [hz]
  clear hu hz pr
  go_enter Try.func32, Try.ntmps32
  go_wp2_with (first
  | (go_at_call 29; (with_reducible show Calls _ _ _ (World.alloc w _) _); refine (HC1.out _ _ HS0.out).mono ?_; rintro e V1 ⟨rfl, h1⟩; have HS1 := mk_ h1; clear h1)
  | (go_at_call 74; (with_reducible show Calls _ _ _ V1 _); refine (HC2.out _ _ HS1.out).mono ?_; rintro e V2 ⟨rfl, h1⟩; have HS2 := mk_ h1; clear h1)
  | (go_at_call 27; (with_reducible show Calls _ _ _ V2 _); refine (HC3.out _ _ HS2.out).mono ?_; rintro e V3 ⟨v3, rfl, h1⟩; obtain ⟨A3, c3, rfl, _, _⟩ := h1.row; have HS3 := mk_ h1.s1.s2.s1; clear h1)
  | (go_at_call 28; (with_reducible show Calls _ _ _ V3 _); refine (HC4.out _ _ HS3.out).mono ?_; rintro e V4 ⟨rfl, h1⟩; have HS4 := mk_ h1; clear h1)
  | (go_at_call 29; (with_reducible show Calls _ _ _ V4 _); refine (HC5.out _ _ HS4.out).mono ?_; rintro e V5 ⟨rfl, h1⟩; have HS5 := mk_ h1; clear h1)
  | (go_at_call 73; (with_reducible show Calls _ _ _ V5 _); refine (HC6.out _ _ HS5.out).mono ?_; rintro e V6 ⟨rfl, h1⟩; have HS6 := mk_ h1; clear h1)
  | (go_at_call 29; (with_reducible show Calls _ _ _ V6 _); refine (HC7.out _ _ HS6.out).mono ?_; rintro e V7 ⟨rfl, h1⟩; have HS7 := mk_ h1; clear h1)
  | ((with_reducible refine gate_st (ty := 54) (x := .tmp 3) (y := .tmp 21) rfl ?_); refine wpList_store_row rfl 54 (.tmp 3) (.tmp 21) rfl V7.heap.size #[.int .i64 d_.f0, .int .i64 d_.f1, .slice A3 l3.length c3, .int .i64 t_.f0, .int .i64 t_.f1, .int .i64 t_.f2, .int .i64 n1, .int .i64 n5, .string s6, .int .i64 n7, .slice none 0 0, .slice none 0 0] rfl rfl 54 #[.int .i64 0, .int .i64 0, .slice none 0 0, .int .i64 0, .int .i64 0, .int .i64 0, .int .i64 0, .int .i64 0, .string ⟨#[]⟩, .int .i64 0, .slice none 0 0, .slice none 0 0] (HS7.out.box (.cells #[.int .i64 0, .int .i64 0, .slice none 0 0, .int .i64 0, .int .i64 0, .int .i64 0, .int .i64 0, .int .i64 0, .string ⟨#[]⟩, .int .i64 0, .slice none 0 0, .slice none 0 0] 54 (0, 0))).blk z1_ rfl (by first | decide | rfl | simp [Value.oneCell']) ?_; have HSx := mk_ (sp_storeRow (HS7.out.box (.cells #[.int .i64 0, .int .i64 0, .slice none 0 0, .int .i64 0, .int .i64 0, .int .i64 0, .int .i64 0, .int .i64 0, .string ⟨#[]⟩, .int .i64 0, .slice none 0 0, .slice none 0 0] 54 (0, 0))) #[.int .i64 d_.f0, .int .i64 d_.f1, .slice A3 l3.length c3, .int .i64 t_.f0, .int .i64 t_.f1, .int .i64 t_.f2, .int .i64 n1, .int .i64 n5, .string s6, .int .i64 n7, .slice none 0 0, .slice none 0 0]); have kr0 := blk_cell HSx.out.s1.blk 0; have kr1 := blk_cell HSx.out.s1.blk 1))
  have hSd := HSx.out.drew
  clear kr0 kr1
  refine start_at (n := 16) (S := fun w' => w'.cell? ⟨g, 0, none⟩ = some (.slice A l.length c) ∧ w'.cell? ⟨g, 1, none⟩ = some (.int .i64 at7) ∧ True) (ds := []) (fun W => Sp W (Blk V7.heap.size (.cells #[.int .i64 d_.f0, .int .i64 d_.f1, .slice A3 l3.length c3, .int .i64 t_.f0, .int .i64 t_.f1, .int .i64 t_.f2, .int .i64 n1, .int .i64 n5, .string s6, .int .i64 n7, .slice none 0 0, .slice none 0 0] 54 (0, 0)) :: RdP g A l.length c (at7, true) :: Old w0 :: Row (Kd.int .i64) 3 (.slice A3 l3.length c3) l3 :: Blk w.heap.size (.cells #[.int .i64 0, .int .i64 0, .slice none 0 0, .int .i64 0, .int .i64 0, .int .i64 0, .int .i64 0, .int .i64 0, .string ⟨#[]⟩, .int .i64 0, .slice none 0 0, .slice none 0 0] 54 (0, 0)) :: F)) (Steps.Bs 16 0) z1_ rfl rfl hSd (fun W hJ => ⟨blk_cell hJ.s1.blk 0, blk_cell hJ.s1.blk 1, trivial⟩) (fun W0 hJ => ?_)
  clear hSd HSx
  have hHeld : W0.cell? ⟨g, 0, none⟩ = some (.slice A l.length c) ∧ W0.cell? ⟨g, 1, none⟩ = some (.int .i64 at7) ∧ True := ⟨blk_cell hJ.s1.blk 0, blk_cell hJ.s1.blk 1, trivial⟩
  refine Steps.pI_ 0 (some 23) (Steps.Bs 16 1) z1_ (h := ?_)
  refine Steps.pI_ 1 (some 24) (Steps.Bs 16 3) z1_ (h := ?_)
  refine Steps.pI_ 2 (some 25) (Steps.Bs 16 7) z1_ (h := ?_)
  refine Steps.pI_ 4 (some 27) (Steps.Bs 16 23) z1_ (h := ?_)
  refine Steps.pI_ 5 (some 28) (Steps.Bs 16 55) z1_ (h := ?_)
  refine Steps.pI_ 6 (some 29) (Steps.Bs 16 119) z1_ (h := ?_)
  refine Steps.tI_ 3 (some 26) (Steps.Bs 16 127) z1_ hHeld (h := ?_)
  refine Steps.tI_ 7 (some 30) (Steps.Bs 16 255) z1_ hHeld (h := ?_)
  refine one_ (i := 8) (N := some 31) (Steps.Bs 16 511) rfl rfl z1_ z5_ (fun K hK => ?_)
  refine goes_ Try.func76 z1_ rfl #[.slice A l.length c, .int .i64 at7] (by rfl) rfl rfl (by (try simp only [List.map_toArray, List.map_cons, List.map_nil]); first | done | rfl) ?_
  refine (PAll.row_Read.calls 80 A c l at7 vals nx e_ _ (HCL.out _ hJ.s2.old) HLC.out HG.out).mono ?_
  rintro e V8 ⟨v7_, rfl, hr_, hq_⟩
  obtain ⟨A7, c7, rfl⟩ := R_slice hr_
  refine ⟨_, rfl, ?_⟩
  have HS8 := mk_ (Sp.made hJ hq_ hr_)
  clear hr_ hq_ hJ hHeld
  refine hK.out _ _ ⟨blk_cell HS8.out.s2.blk 0, blk_cell HS8.out.s2.blk 1, trivial⟩ (fun _ => ?_)
  clear hK K
  refine norm_ (a' := ?_) ?_ ?_
  rotate_left
  ·
   show Act.put _ (some 31) _ = _
   simp only [Act.put, List.setIfInBounds_toArray, List.set_cons_zero, List.set_cons_succ, i64_w, i32_w]
   rfl
  refine Steps.pI_ 9 (some 22) (Steps.Bs 16 1023) z1_ (h := ?_)
  refine Steps.pI_ 10 (some 32) (Steps.Bs 16 2047) z1_ (h := ?_)
  refine Steps.pI_ 11 (some 33) (Steps.Bs 16 4095) z1_ (h := ?_)
  refine Steps.pI_ 12 (some 34) (Steps.Bs 16 8191) z1_ (h := ?_)
  refine Steps.pI_ 13 (some 4) (Steps.Bs 16 16383) z1_ (h := ?_)
  refine Steps.pI_ 14 (some 5) (Steps.Bs 16 32767) z1_ (h := ?_)
  refine Steps.pI_ 15 (some 6) (Steps.Bs 16 65535) z1_ (h := ?_)
  refine done_ z1_ ?_
  have ks := blk_cell HS8.out.s2.blk
  have fs := blk_frozen HS8.out.s2.blk
  have kx := blk_cell HS8.out.s1.blk
  have fx := blk_frozen HS8.out.s1.blk
  go_wp2_with (first
  | ((with_reducible refine gate_st (ty := 54) (x := .tmp 2) (y := .tmp 46) rfl ?_); have HSA := mk_ (HS8.out.s2.store 2 (.bool true)); refine wpList_store_row rfl 54 (.tmp 2) (.tmp 46) rfl w.heap.size #[.int .i64 0, .int .i64 0, .slice none 0 0, .int .i64 0, .int .i64 0, .int .i64 0, .int .i64 0, .int .i64 0, .string ⟨#[]⟩, .int .i64 0, .slice none 0 0, .slice none 0 0] rfl rfl 54 #[.int .i64 0, .int .i64 0, .slice none 0 0, .int .i64 0, .int .i64 0, .int .i64 0, .int .i64 0, .int .i64 0, .string ⟨#[]⟩, .int .i64 0, .slice none 0 0, .slice none 0 0] HSA.out.s5.blk z1_ rfl (by first | decide | rfl | simp [Value.oneCell']) ?_))
  refine bodyPost_ret (results_cell_row rfl _ _ w.heap.size 54 #[.int .i64 0, .int .i64 0, .slice none 0 0, .int .i64 0, .int .i64 0, .int .i64 0, .int .i64 0, .int .i64 0, .string ⟨#[]⟩, .int .i64 0, .slice none 0 0, .slice none 0 0] (0, 0) _ rfl (sp_storeRow HSA.out.s5 _).blk Try.underlying54 rfl z1_) rfl ?_
  exact ⟨_, _, _, rfl, sp_nil (sp_nil (sp_nil (((sp_storeRow HSA.out.s5 #[.int .i64 0, .int .i64 0, .slice none 0 0, .int .i64 0, .int .i64 0, .int .i64 0, .int .i64 0, .int .i64 0, .string ⟨#[]⟩, .int .i64 0, .slice none 0 0, .slice none 0 0]).tail.s1.tail.s1.tail.s2.tail : Sp _ (RdP g A l.length c (at7, true) :: Old w0 :: F)))))⟩
 | false =>
  by_cases he : e_ = 0
  rotate_left
  ·
   have hz : rOp l r = (zOp, (at7, true)) := by rw [hu]; unfold rOf; simp [he]
   have hb0 : (e_ == 0) = false := beq_eq_false_iff_ne.2 he
   have hb1 : (e_ != 0) = true := bne_iff_ne.2 he
   have hb2 : decide (e_ = 0) = false := decide_eq_false he
   rw [hz]
   clear hu hz pr he
   go_enter Try.func32, Try.ntmps32
   go_wp2_with (first
  | (go_at_call 29; (with_reducible show Calls _ _ _ (World.alloc w _) _); refine (HC1.out _ _ HS0.out).mono ?_; rintro e V1 ⟨rfl, h1⟩; have HS1 := mk_ h1; clear h1)
  | (go_at_call 74; (with_reducible show Calls _ _ _ V1 _); refine (HC2.out _ _ HS1.out).mono ?_; rintro e V2 ⟨rfl, h1⟩; have HS2 := mk_ h1; clear h1)
  | (go_at_call 27; (with_reducible show Calls _ _ _ V2 _); refine (HC3.out _ _ HS2.out).mono ?_; rintro e V3 ⟨v3, rfl, h1⟩; obtain ⟨A3, c3, rfl, _, _⟩ := h1.row; have HS3 := mk_ h1.s1.s2.s1; clear h1)
  | (go_at_call 28; (with_reducible show Calls _ _ _ V3 _); refine (HC4.out _ _ HS3.out).mono ?_; rintro e V4 ⟨rfl, h1⟩; have HS4 := mk_ h1; clear h1)
  | (go_at_call 29; (with_reducible show Calls _ _ _ V4 _); refine (HC5.out _ _ HS4.out).mono ?_; rintro e V5 ⟨rfl, h1⟩; have HS5 := mk_ h1; clear h1)
  | (go_at_call 73; (with_reducible show Calls _ _ _ V5 _); refine (HC6.out _ _ HS5.out).mono ?_; rintro e V6 ⟨rfl, h1⟩; have HS6 := mk_ h1; clear h1)
  | (go_at_call 29; (with_reducible show Calls _ _ _ V6 _); refine (HC7.out _ _ HS6.out).mono ?_; rintro e V7 ⟨rfl, h1⟩; have HS7 := mk_ h1; clear h1)
  | ((with_reducible refine gate_st (ty := 54) (x := .tmp 3) (y := .tmp 21) rfl ?_); refine wpList_store_row rfl 54 (.tmp 3) (.tmp 21) rfl V7.heap.size #[.int .i64 d_.f0, .int .i64 d_.f1, .slice A3 l3.length c3, .int .i64 t_.f0, .int .i64 t_.f1, .int .i64 t_.f2, .int .i64 n1, .int .i64 n5, .string s6, .int .i64 n7, .slice none 0 0, .slice none 0 0] rfl rfl 54 #[.int .i64 0, .int .i64 0, .slice none 0 0, .int .i64 0, .int .i64 0, .int .i64 0, .int .i64 0, .int .i64 0, .string ⟨#[]⟩, .int .i64 0, .slice none 0 0, .slice none 0 0] (HS7.out.box (.cells #[.int .i64 0, .int .i64 0, .slice none 0 0, .int .i64 0, .int .i64 0, .int .i64 0, .int .i64 0, .int .i64 0, .string ⟨#[]⟩, .int .i64 0, .slice none 0 0, .slice none 0 0] 54 (0, 0))).blk z1_ rfl (by first | decide | rfl | simp [Value.oneCell']) ?_; have HSx := mk_ (sp_storeRow (HS7.out.box (.cells #[.int .i64 0, .int .i64 0, .slice none 0 0, .int .i64 0, .int .i64 0, .int .i64 0, .int .i64 0, .int .i64 0, .string ⟨#[]⟩, .int .i64 0, .slice none 0 0, .slice none 0 0] 54 (0, 0))) #[.int .i64 d_.f0, .int .i64 d_.f1, .slice A3 l3.length c3, .int .i64 t_.f0, .int .i64 t_.f1, .int .i64 t_.f2, .int .i64 n1, .int .i64 n5, .string s6, .int .i64 n7, .slice none 0 0, .slice none 0 0]); have kr0 := blk_cell HSx.out.s1.blk 0; have kr1 := blk_cell HSx.out.s1.blk 1))
   have hSd := HSx.out.drew
   clear kr0 kr1
   refine start_at (n := 16) (S := fun w' => w'.cell? ⟨g, 0, none⟩ = some (.slice A l.length c) ∧ w'.cell? ⟨g, 1, none⟩ = some (.int .i64 at7) ∧ True) (ds := []) (fun W => Sp W (Blk V7.heap.size (.cells #[.int .i64 d_.f0, .int .i64 d_.f1, .slice A3 l3.length c3, .int .i64 t_.f0, .int .i64 t_.f1, .int .i64 t_.f2, .int .i64 n1, .int .i64 n5, .string s6, .int .i64 n7, .slice none 0 0, .slice none 0 0] 54 (0, 0)) :: RdP g A l.length c (at7, false) :: Old w0 :: Row (Kd.int .i64) 3 (.slice A3 l3.length c3) l3 :: Blk w.heap.size (.cells #[.int .i64 0, .int .i64 0, .slice none 0 0, .int .i64 0, .int .i64 0, .int .i64 0, .int .i64 0, .int .i64 0, .string ⟨#[]⟩, .int .i64 0, .slice none 0 0, .slice none 0 0] 54 (0, 0)) :: F)) (Steps.Bs 16 0) z1_ rfl rfl hSd (fun W hJ => ⟨blk_cell hJ.s1.blk 0, blk_cell hJ.s1.blk 1, trivial⟩) (fun W0 hJ => ?_)
   clear hSd HSx
   have hHeld : W0.cell? ⟨g, 0, none⟩ = some (.slice A l.length c) ∧ W0.cell? ⟨g, 1, none⟩ = some (.int .i64 at7) ∧ True := ⟨blk_cell hJ.s1.blk 0, blk_cell hJ.s1.blk 1, trivial⟩
   refine Steps.pI_ 0 (some 23) (Steps.Bs 16 1) z1_ (h := ?_)
   refine Steps.pI_ 1 (some 24) (Steps.Bs 16 3) z1_ (h := ?_)
   refine Steps.pI_ 2 (some 25) (Steps.Bs 16 7) z1_ (h := ?_)
   refine Steps.pI_ 4 (some 27) (Steps.Bs 16 23) z1_ (h := ?_)
   refine Steps.pI_ 5 (some 28) (Steps.Bs 16 55) z1_ (h := ?_)
   refine Steps.pI_ 6 (some 29) (Steps.Bs 16 119) z1_ (h := ?_)
   refine Steps.tI_ 3 (some 26) (Steps.Bs 16 127) z1_ hHeld (h := ?_)
   refine Steps.tI_ 7 (some 30) (Steps.Bs 16 255) z1_ hHeld (h := ?_)
   refine one_ (i := 8) (N := some 31) (Steps.Bs 16 511) rfl rfl z1_ z5_ (fun K hK => ?_)
   refine goes_ Try.func76 z1_ rfl #[.slice A l.length c, .int .i64 at7] (by rfl) rfl rfl (by (try simp only [List.map_toArray, List.map_cons, List.map_nil]); first | done | rfl) ?_
   refine (PAll.row_Read.calls 80 A c l at7 vals nx e_ _ (HCL.out _ hJ.s2.old) HLC.out HG.out).mono ?_
   rintro e V8 ⟨v7_, rfl, hr_, hq_⟩
   obtain ⟨A7, c7, rfl⟩ := R_slice hr_
   refine ⟨_, rfl, ?_⟩
   have HS8 := mk_ (Sp.made hJ hq_ hr_)
   clear hr_ hq_ hJ hHeld
   refine hK.out _ _ ⟨blk_cell HS8.out.s2.blk 0, blk_cell HS8.out.s2.blk 1, trivial⟩ (fun _ => ?_)
   clear hK K
   refine norm_ (a' := ?_) ?_ ?_
   rotate_left
   ·
    show Act.put _ (some 31) _ = _
    simp only [Act.put, List.setIfInBounds_toArray, List.set_cons_zero, List.set_cons_succ, i64_w, i32_w]
    rfl
   refine Steps.pI_ 9 (some 22) (Steps.Bs 16 1023) z1_ (h := ?_)
   refine Steps.pI_ 10 (some 32) (Steps.Bs 16 2047) z1_ (h := ?_)
   refine Steps.pI_ 11 (some 33) (Steps.Bs 16 4095) z1_ (h := ?_)
   refine Steps.pI_ 12 (some 34) (Steps.Bs 16 8191) z1_ (h := ?_)
   refine Steps.pI_ 13 (some 4) (Steps.Bs 16 16383) z1_ (h := ?_)
   refine Steps.pI_ 14 (some 5) (Steps.Bs 16 32767) z1_ (h := ?_)
   refine Steps.pI_ 15 (some 6) (Steps.Bs 16 65535) z1_ (h := ?_)
   refine done_ z1_ ?_
   have ks := blk_cell HS8.out.s2.blk
   have fs := blk_frozen HS8.out.s2.blk
   have kx := blk_cell HS8.out.s1.blk
   have fx := blk_frozen HS8.out.s1.blk
   go_wp2_with (first
  | ((with_reducible refine gate_st (ty := 54) (x := .tmp 2) (y := .tmp 46) rfl ?_); have HSA := mk_ (HS8.out.s2.store 2 (.bool true)); refine wpList_store_row rfl 54 (.tmp 2) (.tmp 46) rfl w.heap.size #[.int .i64 0, .int .i64 0, .slice none 0 0, .int .i64 0, .int .i64 0, .int .i64 0, .int .i64 0, .int .i64 0, .string ⟨#[]⟩, .int .i64 0, .slice none 0 0, .slice none 0 0] rfl rfl 54 #[.int .i64 0, .int .i64 0, .slice none 0 0, .int .i64 0, .int .i64 0, .int .i64 0, .int .i64 0, .int .i64 0, .string ⟨#[]⟩, .int .i64 0, .slice none 0 0, .slice none 0 0] HSA.out.s5.blk z1_ rfl (by first | decide | rfl | simp [Value.oneCell']) ?_))
   refine bodyPost_ret (results_cell_row rfl _ _ w.heap.size 54 #[.int .i64 0, .int .i64 0, .slice none 0 0, .int .i64 0, .int .i64 0, .int .i64 0, .int .i64 0, .int .i64 0, .string ⟨#[]⟩, .int .i64 0, .slice none 0 0, .slice none 0 0] (0, 0) _ rfl (sp_storeRow HSA.out.s5 _).blk Try.underlying54 rfl z1_) rfl ?_
   exact ⟨_, _, _, rfl, sp_nil (sp_nil (sp_nil (((sp_storeRow HSA.out.s5 #[.int .i64 0, .int .i64 0, .slice none 0 0, .int .i64 0, .int .i64 0, .int .i64 0, .int .i64 0, .int .i64 0, .string ⟨#[]⟩, .int .i64 0, .slice none 0 0, .slice none 0 0]).tail.s1.tail.s1.tail.s2.tail : Sp _ (RdP g A l.length c (at7, true) :: Old w0 :: F)))))⟩
  ·
   subst he
   have hz : rOf ([] : List V) (vals, nx, 0) (at7, false) = (vals, (nx, false)) := by unfold rOf; simp
   rw [hz] at hu pr
   rw [if_neg (by show ¬ (false = true); decide)] at hu
   rw [hu]
   dsimp only at pr ⊢
   clear hu hz
   have hq : rDots l (nx, false) = rTimes rDot l (rMany 1 64 l (nx, false)).1.toNat [] (rMany 1 64 l (nx, false)).2 := rfl
   have pm := HPM.out (nx, false) pr
   have HQ := mk_ (fun V F' hv => HCM.out V F' (nx, false) pr hv)
   have hle : (rMany 1 64 l (nx, false)).1 ≤ 64 := by unfold rMany; split <;> omega
   rw [hq]
   clear hq pr
   generalize rMany 1 64 l (nx, false) = q9 at *
   obtain ⟨m, r9⟩ := q9
   dsimp only at HQ pm hle ⊢
   have HLE := mk_ hle
   have HT : Aside0 (∀ i, rAt l (rTimes rDot l i [] r9).2) := ⟨fun i => rAt_times (fun r h => HPD.out r h) i [] _ pm⟩
   clear hle pm HPM HPD HCM
   go_enter Try.func32, Try.ntmps32
   go_wp2_with (first
  | (go_at_call 29; (with_reducible show Calls _ _ _ (World.alloc w _) _); refine (HC1.out _ _ HS0.out).mono ?_; rintro e V1 ⟨rfl, h1⟩; have HS1 := mk_ h1; clear h1)
  | (go_at_call 74; (with_reducible show Calls _ _ _ V1 _); refine (HC2.out _ _ HS1.out).mono ?_; rintro e V2 ⟨rfl, h1⟩; have HS2 := mk_ h1; clear h1)
  | (go_at_call 27; (with_reducible show Calls _ _ _ V2 _); refine (HC3.out _ _ HS2.out).mono ?_; rintro e V3 ⟨v3, rfl, h1⟩; obtain ⟨A3, c3, rfl, _, _⟩ := h1.row; have HS3 := mk_ h1.s1.s2.s1; clear h1)
  | (go_at_call 28; (with_reducible show Calls _ _ _ V3 _); refine (HC4.out _ _ HS3.out).mono ?_; rintro e V4 ⟨rfl, h1⟩; have HS4 := mk_ h1; clear h1)
  | (go_at_call 29; (with_reducible show Calls _ _ _ V4 _); refine (HC5.out _ _ HS4.out).mono ?_; rintro e V5 ⟨rfl, h1⟩; have HS5 := mk_ h1; clear h1)
  | (go_at_call 73; (with_reducible show Calls _ _ _ V5 _); refine (HC6.out _ _ HS5.out).mono ?_; rintro e V6 ⟨rfl, h1⟩; have HS6 := mk_ h1; clear h1)
  | (go_at_call 29; (with_reducible show Calls _ _ _ V6 _); refine (HC7.out _ _ HS6.out).mono ?_; rintro e V7 ⟨rfl, h1⟩; have HS7 := mk_ h1; clear h1)
  | ((with_reducible refine gate_st (ty := 54) (x := .tmp 3) (y := .tmp 21) rfl ?_); refine wpList_store_row rfl 54 (.tmp 3) (.tmp 21) rfl V7.heap.size #[.int .i64 d_.f0, .int .i64 d_.f1, .slice A3 l3.length c3, .int .i64 t_.f0, .int .i64 t_.f1, .int .i64 t_.f2, .int .i64 n1, .int .i64 n5, .string s6, .int .i64 n7, .slice none 0 0, .slice none 0 0] rfl rfl 54 #[.int .i64 0, .int .i64 0, .slice none 0 0, .int .i64 0, .int .i64 0, .int .i64 0, .int .i64 0, .int .i64 0, .string ⟨#[]⟩, .int .i64 0, .slice none 0 0, .slice none 0 0] (HS7.out.box (.cells #[.int .i64 0, .int .i64 0, .slice none 0 0, .int .i64 0, .int .i64 0, .int .i64 0, .int .i64 0, .int .i64 0, .string ⟨#[]⟩, .int .i64 0, .slice none 0 0, .slice none 0 0] 54 (0, 0))).blk z1_ rfl (by first | decide | rfl | simp [Value.oneCell']) ?_; have HSx := mk_ (sp_storeRow (HS7.out.box (.cells #[.int .i64 0, .int .i64 0, .slice none 0 0, .int .i64 0, .int .i64 0, .int .i64 0, .int .i64 0, .int .i64 0, .string ⟨#[]⟩, .int .i64 0, .slice none 0 0, .slice none 0 0] 54 (0, 0))) #[.int .i64 d_.f0, .int .i64 d_.f1, .slice A3 l3.length c3, .int .i64 t_.f0, .int .i64 t_.f1, .int .i64 t_.f2, .int .i64 n1, .int .i64 n5, .string s6, .int .i64 n7, .slice none 0 0, .slice none 0 0]); have kr0 := blk_cell HSx.out.s1.blk 0; have kr1 := blk_cell HSx.out.s1.blk 1))
   have hSd := HSx.out.drew
   clear kr0 kr1
   refine start_at (n := 16) (S := fun w' => w'.cell? ⟨g, 0, none⟩ = some (.slice A l.length c) ∧ w'.cell? ⟨g, 1, none⟩ = some (.int .i64 at7) ∧ True) (ds := []) (fun W => Sp W (Blk V7.heap.size (.cells #[.int .i64 d_.f0, .int .i64 d_.f1, .slice A3 l3.length c3, .int .i64 t_.f0, .int .i64 t_.f1, .int .i64 t_.f2, .int .i64 n1, .int .i64 n5, .string s6, .int .i64 n7, .slice none 0 0, .slice none 0 0] 54 (0, 0)) :: RdP g A l.length c (at7, false) :: Old w0 :: Row (Kd.int .i64) 3 (.slice A3 l3.length c3) l3 :: Blk w.heap.size (.cells #[.int .i64 0, .int .i64 0, .slice none 0 0, .int .i64 0, .int .i64 0, .int .i64 0, .int .i64 0, .int .i64 0, .string ⟨#[]⟩, .int .i64 0, .slice none 0 0, .slice none 0 0] 54 (0, 0)) :: F)) (Steps.Bs 16 0) z1_ rfl rfl hSd (fun W hJ => ⟨blk_cell hJ.s1.blk 0, blk_cell hJ.s1.blk 1, trivial⟩) (fun W0 hJ => ?_)
   clear hSd HSx
   have hHeld : W0.cell? ⟨g, 0, none⟩ = some (.slice A l.length c) ∧ W0.cell? ⟨g, 1, none⟩ = some (.int .i64 at7) ∧ True := ⟨blk_cell hJ.s1.blk 0, blk_cell hJ.s1.blk 1, trivial⟩
   refine Steps.pI_ 0 (some 23) (Steps.Bs 16 1) z1_ (h := ?_)
   refine Steps.pI_ 1 (some 24) (Steps.Bs 16 3) z1_ (h := ?_)
   refine Steps.pI_ 2 (some 25) (Steps.Bs 16 7) z1_ (h := ?_)
   refine Steps.pI_ 4 (some 27) (Steps.Bs 16 23) z1_ (h := ?_)
   refine Steps.pI_ 5 (some 28) (Steps.Bs 16 55) z1_ (h := ?_)
   refine Steps.pI_ 6 (some 29) (Steps.Bs 16 119) z1_ (h := ?_)
   refine Steps.tI_ 3 (some 26) (Steps.Bs 16 127) z1_ hHeld (h := ?_)
   refine Steps.tI_ 7 (some 30) (Steps.Bs 16 255) z1_ hHeld (h := ?_)
   refine one_ (i := 8) (N := some 31) (Steps.Bs 16 511) rfl rfl z1_ z5_ (fun K hK => ?_)
   refine goes_ Try.func76 z1_ rfl #[.slice A l.length c, .int .i64 at7] (by rfl) rfl rfl (by (try simp only [List.map_toArray, List.map_cons, List.map_nil]); first | done | rfl) ?_
   refine (PAll.row_Read.calls 80 A c l at7 vals nx 0 _ (HCL.out _ hJ.s2.old) HLC.out HG.out).mono ?_
   rintro e V8 ⟨v7_, rfl, hr_, hq_⟩
   obtain ⟨A7, c7, rfl⟩ := R_slice hr_
   refine ⟨_, rfl, ?_⟩
   have HS8 := mk_ (Sp.made hJ hq_ hr_)
   clear hr_ hq_ hJ hHeld
   refine hK.out _ _ ⟨blk_cell HS8.out.s2.blk 0, blk_cell HS8.out.s2.blk 1, trivial⟩ (fun _ => ?_)
   clear hK K
   refine norm_ (a' := ?_) ?_ ?_
   rotate_left
   ·
    show Act.put _ (some 31) _ = _
    simp only [Act.put, List.setIfInBounds_toArray, List.set_cons_zero, List.set_cons_succ, i64_w, i32_w]
    rfl
   refine Steps.pI_ 9 (some 22) (Steps.Bs 16 1023) z1_ (h := ?_)
   refine Steps.pI_ 10 (some 32) (Steps.Bs 16 2047) z1_ (h := ?_)
   refine Steps.pI_ 11 (some 33) (Steps.Bs 16 4095) z1_ (h := ?_)
   refine Steps.pI_ 12 (some 34) (Steps.Bs 16 8191) z1_ (h := ?_)
   refine Steps.pI_ 13 (some 4) (Steps.Bs 16 16383) z1_ (h := ?_)
   refine Steps.pI_ 14 (some 5) (Steps.Bs 16 32767) z1_ (h := ?_)
   refine Steps.pI_ 15 (some 6) (Steps.Bs 16 65535) z1_ (h := ?_)
   refine done_ z1_ ?_
   have ks := blk_cell HS8.out.s2.blk
   have fs := blk_frozen HS8.out.s2.blk
   have kx := blk_cell HS8.out.s1.blk
   have fx := blk_frozen HS8.out.s1.blk
   go_wp2_with (first
  | (go_at_call 31; refine (HQ.out _ _ (((HS8.out.s1.store 10 (.slice A7 vals.length c7)).s2.store 1 (.int .i64 nx)).s3.s1)).mono ?_; rintro e V9 ⟨rfl, h1⟩; have HS9 := mk_ h1; clear h1))
   go_loopg [55] (m.toNat + 1) (fun kq v55 W' => ∃ (i : Nat) (v8 : Value), v55 = .int .i64 (i : Int) ∧ Aside0 (Sp W' (Row k50 50 v8 (rTimes rDot l i [] r9).1 :: RdP g A l.length c (rTimes rDot l i [] r9).2 :: Old w0 :: Blk V7.heap.size (.cells #[.int .i64 d_.f0, .int .i64 d_.f1, .slice A3 l3.length c3, .int .i64 t_.f0, .int .i64 t_.f1, .int .i64 t_.f2, .int .i64 n1, .int .i64 n5, .string s6, .int .i64 n7, .slice A7 vals.length c7, v8] 54 (0, 0)) :: Row k89 89 (.slice A7 vals.length c7) vals :: Row (Kd.int .i64) 3 (.slice A3 l3.length c3) l3 :: Blk w.heap.size (.cells #[.int .i64 0, .int .i64 0, .slice none 0 0, .int .i64 0, .int .i64 0, .int .i64 0, .int .i64 0, .int .i64 0, .string ⟨#[]⟩, .int .i64 0, .slice none 0 0, .slice none 0 0] 54 (0, 0)) :: F)) ∧ Aside0 (kq + i = m.toNat + 1 ∧ i ≤ m.toNat))
   case atStart => exact ⟨0, .slice none 0 0, rfl, ⟨sp_nil HS9.out⟩, ⟨by omega⟩⟩
   case round =>
    obtain ⟨i, v8, rfl, HA, HK⟩ := hrel
    obtain ⟨k1, rfl⟩ : ∃ k1, gk = k1 + 1 := ⟨gk - 1, by have := HK.out; omega⟩
    by_cases hi : (i : Int) < m
    ·
     have hb2 : decide ((i : Int) < m) = true := decide_eq_true hi
     have HI := mk_ hi
     have HX := mk_ (times_snoc rDot l i [] r9)
     have HTi := mk_ (HT.out i)
     have HTL : Aside0 ((rTimes rDot l i [] r9).1.length = i) := ⟨by rw [times_len]; simp⟩
     clear hi HT
     generalize rTimes rDot l i [] r9 = tt at *
     obtain ⟨xs, ri⟩ := tt
     dsimp only at HA HX HTi HTL
     have HQD := mk_ (fun V F' hv => HCD.out V F' ri HTi.out hv)
     clear HCD
     generalize rDot l ri = qd at *
     obtain ⟨p, rj⟩ := qd
     dsimp only at HQD HX
     obtain ⟨A8, c8, rfl, _, _⟩ := HA.out.row
     have k11 := blk_cell HA.out.s3.blk 11
     have hSd := HA.out.drew
     go_wp2
     refine start_ (n := 8) (S := fun w' => w'.cell? ⟨V7.heap.size, 11, none⟩ = some (.slice A8 xs.length c8) ∧ True) (ds := [7]) (Steps.Bs 8 0) z1_ rfl rfl ⟨k11, trivial⟩ (fun hHeld => ?_)
     generalize World.drew _ = W at hSd hHeld ⊢
     clear k11 HA
     refine Steps.pI_ 0 (some 57) (Steps.Bs 8 1) z1_ (h := ?_)
     refine Steps.pI_ 2 (some 59) (Steps.Bs 8 5) z1_ (h := ?_)
     refine Steps.tI_ 1 (some 58) (Steps.Bs 8 7) z1_ hHeld (h := ?_)
     refine one_ (i := 3) (N := some 60) (Steps.Bs 8 15) rfl rfl z1_ z5_ (fun K hK => ?_)
     refine goes_ Try.func74 z1_ rfl #[.pointer (some ⟨g, 0, none⟩)] (by rfl) rfl rfl (by (try simp only [List.map_toArray, List.map_cons, List.map_nil]); first | done | rfl) ?_
     refine (HQD.out _ _ hSd.s1.s2.s1).mono ?_
     rintro e W2 ⟨rfl, h1⟩
     refine ⟨_, rfl, ?_⟩
     have hHeld1 : W2.cell? ⟨V7.heap.size, 11, none⟩ = some (.slice A8 xs.length c8) := blk_cell h1.s3.blk 11
     have HS3 := mk_ (Sp.s1 (sp_el (d := k50) (p := p) (cs := [.int .i64 p.f0, .int .i64 p.f1]) (fun W ok => k50_mkM W 0 ok p) h1.s2))
     clear hHeld hSd h1
     refine hK.out _ _ ⟨hHeld1, trivial⟩ (fun _ => ?_)
     clear hK K
     refine norm_ (a' := ?_) ?_ ?_
     rotate_left
     ·
      show Act.put _ (some 60) _ = _
      simp only [Act.put, List.setIfInBounds_toArray, List.set_cons_zero, List.set_cons_succ, i64_w, i32_w]
      rfl
     refine one_ (i := 4) (N := some 61) (Steps.Bs 8 31) rfl rfl z1_ z5_ (fun K hK => ?_)
     refine value_ (w1 := ?_) (v := ?_) (by rfl) rfl ?_ ?_
     rotate_left 2
     ·
      go_simp
      constructor
      ·
       rfl
      ·
       rfl
     refine hK.out _ _ ⟨(Below.cell (below_alloc (Below.refl _ _) _) (World.block_lt_of_cell? W2 _ hHeld1)).trans hHeld1, trivial⟩ (fun _ => ?_)
     clear hK K
     refine norm_ (a' := ?_) ?_ ?_
     rotate_left
     ·
      show Act.put _ (some 61) _ = _
      simp only [Act.put, List.setIfInBounds_toArray, List.set_cons_zero, List.set_cons_succ, i64_w, i32_w]
      rfl
     refine one_ (i := 5) (N := some 62) (Steps.Bs 8 63) rfl rfl z1_ z5_ (fun K hK => ?_)
     refine Sp.append_step k50 (W := W2) (by rfl) (.tmp 58) (.tmp 61) 52 50 (.agg #[.int .i64 0, .int .i64 0]) 16 rfl Try.underlying52 z1_ rfl z5_ z2_ (.slice A8 xs.length c8) xs p [.int .i64 p.f0, .int .i64 p.f1] rfl rfl HS3.out (by have := HTL.out; have := HI.out; have := HLE.out; omega) ?_
     intro v9 w1 hS4
     have HS4 := mk_ hS4
     have hg1 := hS4.s3.blk
     obtain ⟨A9, c9, rfl, _, _⟩ := hS4.row
     clear hS4
     refine hK.out _ _ ⟨blk_cell hg1 11, trivial⟩ (fun _ => ?_)
     clear hK K
     refine norm_ (a' := ?_) ?_ ?_
     rotate_left
     ·
      show Act.put _ (some 62) _ = _
      simp only [Act.put, List.setIfInBounds_toArray, List.set_cons_zero, List.set_cons_succ, i64_w, i32_w]
      rfl
     refine Steps.pI_ 6 (some 63) (Steps.Bs 8 127) z1_ (h := ?_)
     refine last_ (i := 7) (N := none) (Steps.Bs 8 255) rfl rfl z1_ z5_ (fun K hK => ?_)
     have hc0 := blk_cell hg1 11
     have hf0 := blk_frozen hg1 11
     refine skip_ (w1 := ?_) (by rfl) rfl ?_ ?_
     rotate_left
     ·
      go_simp
      rfl
     refine hK.out _ _ ?_
     clear hK K
     refine done_ z1_ ?_
     have h5 := (HS4.out.s3.store 11 (.slice A9 (xs ++ [p]).length c9)).s3.s3.s3
     rw [show (xs ++ [p]).length = xs.length + 1 by simp] at h5
     have HS5 := mk_ h5
     clear h5
     clear hc0 hf0 hg1 HS3 HS4 hHeld1
     go_wp2
     go_roundg k1
     case measure => exact Nat.lt_succ_self _
     case rel => exact ⟨i + 1, .slice A9 (xs.length + 1) c9, by rw [w64 z2_ (by have := HI.out; have := HLE.out; omega)]; rfl, ⟨by rw [HX.out]; exact HS5.out⟩, ⟨by have := HK.out; omega, by have := HI.out; omega⟩⟩
    ·
     have hb2 : decide ((i : Int) < m) = false := decide_eq_false hi
     have hie : i = m.toNat := by have := HK.out; omega
     clear hi
     obtain ⟨A8, c8, rfl, _, _⟩ := HA.out.row
     have kx := blk_cell HA.out.s3.blk
     subst hie
     go_wp2_with ((with_reducible refine gate_st (ty := 54) (x := .tmp 2) (y := .tmp 65) rfl ?_); refine wpList_store_row rfl 54 (.tmp 2) (.tmp 65) rfl w.heap.size #[.int .i64 d_.f0, .int .i64 d_.f1, .slice A3 l3.length c3, .int .i64 t_.f0, .int .i64 t_.f1, .int .i64 t_.f2, .int .i64 n1, .int .i64 n5, .string s6, .int .i64 n7, .slice A7 vals.length c7, .slice A8 (rTimes rDot l m.toNat [] r9).1.length c8] rfl rfl 54 #[.int .i64 0, .int .i64 0, .slice none 0 0, .int .i64 0, .int .i64 0, .int .i64 0, .int .i64 0, .int .i64 0, .string ⟨#[]⟩, .int .i64 0, .slice none 0 0, .slice none 0 0] (HA.out.s3.tail.s5.blk) z1_ rfl (by first | decide | rfl | simp [Value.oneCell']) ?_)
     refine bodyPost_ret (results_cell_row rfl _ _ w.heap.size 54 #[.int .i64 d_.f0, .int .i64 d_.f1, .slice A3 l3.length c3, .int .i64 t_.f0, .int .i64 t_.f1, .int .i64 t_.f2, .int .i64 n1, .int .i64 n5, .string s6, .int .i64 n7, .slice A7 vals.length c7, .slice A8 (rTimes rDot l m.toNat [] r9).1.length c8] (0, 0) _ rfl (sp_storeRow HA.out.s3.tail.s5 _).blk Try.underlying54 rfl z1_) rfl ?_
     exact ⟨_, _, _, rfl, (sp_storeRow HA.out.s3.tail.s5 #[.int .i64 d_.f0, .int .i64 d_.f1, .slice A3 l3.length c3, .int .i64 t_.f0, .int .i64 t_.f1, .int .i64 t_.f2, .int .i64 n1, .int .i64 n5, .string s6, .int .i64 n7, .slice A7 vals.length c7, .slice A8 (rTimes rDot l m.toNat [] r9).1.length c8]).tail.s3.s4⟩
end
end Go.Proofs.Ytcbfliajgopdaaa.Ops
end
section
namespace Go.Proofs.Ytcbfliajgopdaaa.Ops
open Go.RowKit Go.Proofs.Ytcbfliajgopdaaa.PAll Go.Proofs.Ytcbfliajgopdaaa.Plain Go.Proofs.YtcbfliajgopdaaaW.PrintWords Go.Proofs.YtcbfliajgopdaaaW.PrintLast Go.Proofs.YtcbfliajgopdaaaW.PrintMore Go.Proofs.Ytcbfliajgopdaaa.Sep Go.Proofs.Ytcbfliajgopdaaa.ZipT Go.Proofs.YtcbfliajgopdaaaW.PrintWords.Kd Go.Proofs.YtcbfliajgopdaaaW.PrintMore.Kd
set_option linter.unusedVariables false
set_option linter.unusedSimpArgs false
theorem Sp.frame {w w' : World} {F X : List Part} (h : Sp w F) (h' : Sp w' (X ++ [Old w])) : Sp w' (X ++ F) := by
 obtain ⟨ok, h1, h2, ok2, h3, h4, _⟩ := Sep.split h'
 refine Sep.app h2 (Sep.moved (Moved.of_below h4.2 (fun _ => False)) h (fun _ _ _ e => e)) h1 (fun k hk => Nat.lt_of_lt_of_le hk h4.2.size) (fun k hk hw => ?_)
 exact (h3 k (h4.1 k hw)).2 hk
section
variable {P : Program} {ops : Array Oper} {o : Oper} {a : Act} {Q : Exit → Act → World → Prop} {Kc : Act → World → Prop}
theorem store_row_step {W : World} (hw : Region.wanted o (yielded ops a.tmps) = true) (ty : TypeId) (x y : Operand) (ho : o.op = .store ty x y)
  (g : Nat) (cells : Array Value) (hx : a.eval x = .pointer (some ⟨g, 0, none⟩)) (hy : a.eval y = .agg cells)
  (t : TypeId) (old : Array Value) (hg : W.heap[g]? = some (.cells old t (0, 0))) (hi : (P.info? ty).map (·.size) = some cells.size)
  (hold : old.size = cells.size) (h1 : cells.all (·.oneCell') = true) (h : Kc (a.put o.dst undef) (W.setRow g cells)) :
  if Region.wanted o (yielded ops a.tmps) = true then Oper.wp P o a W Kc Q else Kc (a.put o.dst undef) W := by
 rw [if_pos hw]
 exact wp_store_row ty x y ho g cells hx hy t old hg hi hold h1 h
end
section
variable {w : World} {A : Option Addr} {c : Nat} {l : List Int}
set_option maxHeartbeats 8000000 in
set_option maxRecDepth 100000 in
theorem read_sp (hC0 : Kd.C (Kd.int .u8) w A l.length l) (hlc : l.length ≤ c) (hb : Bytes l) (hl : l.length ≤ 1000000) (a1 : Int) :
  Calls Try.prog 93 #[.slice A l.length c, .int .i64 a1] w fun e w' => ∃ v1 v7 v8, e = .returned (.tuple #[.agg #[.int .i64 (sOpRead l a1).1.f0.f0, .int .i64 (sOpRead l a1).1.f0.f1, v1, .int .i64 (sOpRead l a1).1.f2.f0, .int .i64 (sOpRead l a1).1.f2.f1, .int .i64 (sOpRead l a1).1.f2.f2, .int .i64 (sOpRead l a1).1.f3, .int .i64 (sOpRead l a1).1.f4, .string (sOpRead l a1).1.f5, .int .i64 (sOpRead l a1).1.f6, v7, v8], .int .i64 (sOpRead l a1).2.1, .int .i64 (sOpRead l a1).2.2]) ∧
   Sp w' [Row (Kd.int .i64) 3 v1 (sOpRead l a1).1.f1, Row k89 89 v7 (sOpRead l a1).1.f7, Row k50 50 v8 (sOpRead l a1).1.f8, Old w] := by
 have h0 := Sp.start w
 have h1 := h0.box (.cells #[.int .i64 0, .int .i64 0, .slice none 0 0, .int .i64 0, .int .i64 0, .int .i64 0, .int .i64 0, .int .i64 0, .string ⟨#[]⟩, .int .i64 0, .slice none 0 0, .slice none 0 0] 54 (0, 0))
 by_cases ha : a1 < 0
 ·
  have hd1 : decide (a1 < 0) = true := decide_eq_true ha
  have hz : sOpRead l a1 = (zOp, 0, 1) := by unfold sOpRead; rw [if_pos (.inl ha)]
  rw [hz]
  have HS1 := mk_ h1
  clear h0 h1 hz hC0 hb
  go_enter Try.func93, Try.ntmps93
  go_wp2_with (((with_reducible refine gate_st (ty := 54) (x := .tmp 4) (y := .tmp 16) rfl ?_); refine wpList_store_row rfl 54 (.tmp 4) (.tmp 16) rfl w.heap.size #[.int .i64 0, .int .i64 0, .slice none 0 0, .int .i64 0, .int .i64 0, .int .i64 0, .int .i64 0, .int .i64 0, .string ⟨#[]⟩, .int .i64 0, .slice none 0 0, .slice none 0 0] rfl rfl 54 #[.int .i64 0, .int .i64 0, .slice none 0 0, .int .i64 0, .int .i64 0, .int .i64 0, .int .i64 0, .int .i64 0, .string ⟨#[]⟩, .int .i64 0, .slice none 0 0, .slice none 0 0] HS1.out.blk z1_ rfl (by first | decide | rfl | simp [Value.oneCell']) ?_))
  refine bodyPost_ret (results_ctt rfl _ _ w.heap.size 54 #[.int .i64 0, .int .i64 0, .slice none 0 0, .int .i64 0, .int .i64 0, .int .i64 0, .int .i64 0, .int .i64 0, .string ⟨#[]⟩, .int .i64 0, .slice none 0 0, .slice none 0 0] (0, 0) _ rfl (sp_storeRow HS1.out _).blk Try.underlying54 rfl z1_) rfl ?_
  exact ⟨_, _, _, rfl, sp_nil (sp_nil (sp_nil ((sp_storeRow HS1.out #[.int .i64 0, .int .i64 0, .slice none 0 0, .int .i64 0, .int .i64 0, .int .i64 0, .int .i64 0, .int .i64 0, .string ⟨#[]⟩, .int .i64 0, .slice none 0 0, .slice none 0 0]).tail)))⟩
 have hd1 : decide (a1 < 0) = false := decide_eq_false ha
 by_cases hn : a1 > l.length
 ·
  have hd2 : decide ((l.length : Int) < a1) = true := decide_eq_true hn
  have hz : sOpRead l a1 = (zOp, 0, 1) := by unfold sOpRead; rw [if_pos (.inr hn)]
  rw [hz]
  have HS1 := mk_ h1
  clear h0 h1 hz hC0 hb
  go_enter Try.func93, Try.ntmps93
  go_wp2_with (((with_reducible refine gate_st (ty := 54) (x := .tmp 4) (y := .tmp 16) rfl ?_); refine wpList_store_row rfl 54 (.tmp 4) (.tmp 16) rfl w.heap.size #[.int .i64 0, .int .i64 0, .slice none 0 0, .int .i64 0, .int .i64 0, .int .i64 0, .int .i64 0, .int .i64 0, .string ⟨#[]⟩, .int .i64 0, .slice none 0 0, .slice none 0 0] rfl rfl 54 #[.int .i64 0, .int .i64 0, .slice none 0 0, .int .i64 0, .int .i64 0, .int .i64 0, .int .i64 0, .int .i64 0, .string ⟨#[]⟩, .int .i64 0, .slice none 0 0, .slice none 0 0] HS1.out.blk z1_ rfl (by first | decide | rfl | simp [Value.oneCell']) ?_))
  refine bodyPost_ret (results_ctt rfl _ _ w.heap.size 54 #[.int .i64 0, .int .i64 0, .slice none 0 0, .int .i64 0, .int .i64 0, .int .i64 0, .int .i64 0, .int .i64 0, .string ⟨#[]⟩, .int .i64 0, .slice none 0 0, .slice none 0 0] (0, 0) _ rfl (sp_storeRow HS1.out _).blk Try.underlying54 rfl z1_) rfl ?_
  exact ⟨_, _, _, rfl, sp_nil (sp_nil (sp_nil ((sp_storeRow HS1.out #[.int .i64 0, .int .i64 0, .slice none 0 0, .int .i64 0, .int .i64 0, .int .i64 0, .int .i64 0, .int .i64 0, .string ⟨#[]⟩, .int .i64 0, .slice none 0 0, .slice none 0 0]).tail)))⟩
 have hd2 : decide ((l.length : Int) < a1) = false := decide_eq_false hn
 have hp : rAt l (a1, false) := ⟨by show 0 ≤ a1; omega, by show a1 ≤ _; omega⟩
 have hu : sOpRead l a1 = if (rOp l (a1, false)).2.2 = true then (zOp, 0, 3) else ((rOp l (a1, false)).1, (rOp l (a1, false)).2.1, 0) := by unfold sOpRead; rw [if_neg (fun e => e.elim ha hn)]
 have h2 := h1.box (.cells #[.slice A l.length c, .int .i64 a1, .bool false] 71 (0, 0))
 rw [show (w.alloc (.cells #[.int .i64 0, .int .i64 0, .slice none 0 0, .int .i64 0, .int .i64 0, .int .i64 0, .int .i64 0, .int .i64 0, .string ⟨#[]⟩, .int .i64 0, .slice none 0 0, .slice none 0 0] 54 (0, 0))).heap.size = w.heap.size + 1 from Array.size_push _] at h2
 have hQ := rop_calls (w0 := w) hC0 hlc hb hl (a1, false) hp (show Sp _ (RdP (w.heap.size + 1) A l.length c (a1, false) :: Old w :: [Blk w.heap.size (.cells #[.int .i64 0, .int .i64 0, .slice none 0 0, .int .i64 0, .int .i64 0, .int .i64 0, .int .i64 0, .int .i64 0, .string ⟨#[]⟩, .int .i64 0, .slice none 0 0, .slice none 0 0] 54 (0, 0))]) from h2.s2.s1)
 rw [hu]
 clear hu h0 h1 h2 hC0 hb hp
 generalize rOp l (a1, false) = q at hQ ⊢
 obtain ⟨x, at2, bad2⟩ := q
 dsimp only at hQ ⊢
 have HQ := mk_ hQ
 clear hQ ha hn
 cases bad2 with
 | true =>
  rw [if_pos rfl]
  go_enter Try.func93, Try.ntmps93
  go_wp2_with (first | (go_at_call 32; refine HQ.out.mono ?_; rintro e V ⟨v1, v7, v8, rfl, h⟩; obtain ⟨A1, c1, rfl, _, _⟩ := h.row; obtain ⟨A7, c7, rfl, _, _⟩ := h.tail.row; obtain ⟨A8, c8, rfl, _, _⟩ := h.tail.tail.row; have HS3 := mk_ h; clear h) | ((with_reducible refine gate_st (ty := 54) (x := .tmp 4) (y := .tmp 22) rfl ?_); refine wpList_store_row rfl 54 (.tmp 4) (.tmp 22) rfl w.heap.size #[.int .i64 x.f0.f0, .int .i64 x.f0.f1, .slice A1 x.f1.length c1, .int .i64 x.f2.f0, .int .i64 x.f2.f1, .int .i64 x.f2.f2, .int .i64 x.f3, .int .i64 x.f4, .string x.f5, .int .i64 x.f6, .slice A7 x.f7.length c7, .slice A8 x.f8.length c8] rfl rfl 54 #[.int .i64 0, .int .i64 0, .slice none 0 0, .int .i64 0, .int .i64 0, .int .i64 0, .int .i64 0, .int .i64 0, .string ⟨#[]⟩, .int .i64 0, .slice none 0 0, .slice none 0 0] HS3.out.s5.blk z1_ rfl (by first | decide | rfl | simp [Value.oneCell']) ?_; have HS4 := mk_ (sp_storeRow HS3.out.s5 #[.int .i64 x.f0.f0, .int .i64 x.f0.f1, .slice A1 x.f1.length c1, .int .i64 x.f2.f0, .int .i64 x.f2.f1, .int .i64 x.f2.f2, .int .i64 x.f3, .int .i64 x.f4, .string x.f5, .int .i64 x.f6, .slice A7 x.f7.length c7, .slice A8 x.f8.length c8]); have kr := blk_cell HS4.out.s4.blk; have kx := blk_cell HS4.out.blk) | ((with_reducible refine gate_st (ty := 54) (x := .tmp 4) (y := .tmp 27) rfl ?_); refine wpList_store_row rfl 54 (.tmp 4) (.tmp 27) rfl w.heap.size #[.int .i64 0, .int .i64 0, .slice none 0 0, .int .i64 0, .int .i64 0, .int .i64 0, .int .i64 0, .int .i64 0, .string ⟨#[]⟩, .int .i64 0, .slice none 0 0, .slice none 0 0] rfl rfl 54 #[.int .i64 x.f0.f0, .int .i64 x.f0.f1, .slice A1 x.f1.length c1, .int .i64 x.f2.f0, .int .i64 x.f2.f1, .int .i64 x.f2.f2, .int .i64 x.f3, .int .i64 x.f4, .string x.f5, .int .i64 x.f6, .slice A7 x.f7.length c7, .slice A8 x.f8.length c8] HS4.out.blk z1_ rfl (by first | decide | rfl | simp [Value.oneCell']) ?_))
  refine bodyPost_ret (results_ctt rfl _ _ w.heap.size 54 #[.int .i64 0, .int .i64 0, .slice none 0 0, .int .i64 0, .int .i64 0, .int .i64 0, .int .i64 0, .int .i64 0, .string ⟨#[]⟩, .int .i64 0, .slice none 0 0, .slice none 0 0] (0, 0) _ rfl (sp_storeRow HS4.out _).blk Try.underlying54 rfl z1_) rfl ?_
  exact ⟨_, _, _, rfl, sp_nil (sp_nil (sp_nil ((sp_storeRow HS4.out #[.int .i64 0, .int .i64 0, .slice none 0 0, .int .i64 0, .int .i64 0, .int .i64 0, .int .i64 0, .int .i64 0, .string ⟨#[]⟩, .int .i64 0, .slice none 0 0, .slice none 0 0]).tail.tail.tail.tail.tail)))⟩
 | false =>
  rw [if_neg (by show ¬ (false = true); decide)]
  go_enter Try.func93, Try.ntmps93
  go_wp2_with (first | (go_at_call 32; refine HQ.out.mono ?_; rintro e V ⟨v1, v7, v8, rfl, h⟩; obtain ⟨A1, c1, rfl, _, _⟩ := h.row; obtain ⟨A7, c7, rfl, _, _⟩ := h.tail.row; obtain ⟨A8, c8, rfl, _, _⟩ := h.tail.tail.row; have HS3 := mk_ h; clear h) | ((with_reducible refine gate_st (ty := 54) (x := .tmp 4) (y := .tmp 22) rfl ?_); refine wpList_store_row rfl 54 (.tmp 4) (.tmp 22) rfl w.heap.size #[.int .i64 x.f0.f0, .int .i64 x.f0.f1, .slice A1 x.f1.length c1, .int .i64 x.f2.f0, .int .i64 x.f2.f1, .int .i64 x.f2.f2, .int .i64 x.f3, .int .i64 x.f4, .string x.f5, .int .i64 x.f6, .slice A7 x.f7.length c7, .slice A8 x.f8.length c8] rfl rfl 54 #[.int .i64 0, .int .i64 0, .slice none 0 0, .int .i64 0, .int .i64 0, .int .i64 0, .int .i64 0, .int .i64 0, .string ⟨#[]⟩, .int .i64 0, .slice none 0 0, .slice none 0 0] HS3.out.s5.blk z1_ rfl (by first | decide | rfl | simp [Value.oneCell']) ?_; have HS4 := mk_ (sp_storeRow HS3.out.s5 #[.int .i64 x.f0.f0, .int .i64 x.f0.f1, .slice A1 x.f1.length c1, .int .i64 x.f2.f0, .int .i64 x.f2.f1, .int .i64 x.f2.f2, .int .i64 x.f3, .int .i64 x.f4, .string x.f5, .int .i64 x.f6, .slice A7 x.f7.length c7, .slice A8 x.f8.length c8]); have kr := blk_cell HS4.out.s4.blk; have kx := blk_cell HS4.out.blk))
  have hSd := HS4.out.drew
  clear kr kx
  refine start_at (n := 8) (S := fun w' => w'.cell? ⟨w.heap.size, 0, none⟩ = some (.int .i64 x.f0.f0) ∧ w'.cell? ⟨w.heap.size, 1, none⟩ = some (.int .i64 x.f0.f1) ∧ w'.cell? ⟨w.heap.size, 2, none⟩ = some (.slice A1 x.f1.length c1) ∧ w'.cell? ⟨w.heap.size, 3, none⟩ = some (.int .i64 x.f2.f0) ∧ w'.cell? ⟨w.heap.size, 4, none⟩ = some (.int .i64 x.f2.f1) ∧ w'.cell? ⟨w.heap.size, 5, none⟩ = some (.int .i64 x.f2.f2) ∧ w'.cell? ⟨w.heap.size, 6, none⟩ = some (.int .i64 x.f3) ∧ w'.cell? ⟨w.heap.size, 7, none⟩ = some (.int .i64 x.f4) ∧ w'.cell? ⟨w.heap.size, 8, none⟩ = some (.string x.f5) ∧ w'.cell? ⟨w.heap.size, 9, none⟩ = some (.int .i64 x.f6) ∧ w'.cell? ⟨w.heap.size, 10, none⟩ = some (.slice A7 x.f7.length c7) ∧ w'.cell? ⟨w.heap.size, 11, none⟩ = some (.slice A8 x.f8.length c8) ∧ w'.cell? ⟨w.heap.size + 1, 1, none⟩ = some (.int .i64 at2) ∧ True) (ds := []) (fun W => Sp W [Blk w.heap.size (.cells #[.int .i64 x.f0.f0, .int .i64 x.f0.f1, .slice A1 x.f1.length c1, .int .i64 x.f2.f0, .int .i64 x.f2.f1, .int .i64 x.f2.f2, .int .i64 x.f3, .int .i64 x.f4, .string x.f5, .int .i64 x.f6, .slice A7 x.f7.length c7, .slice A8 x.f8.length c8] 54 (0, 0)), Row (Kd.int .i64) 3 (.slice A1 x.f1.length c1) x.f1, Row k89 89 (.slice A7 x.f7.length c7) x.f7, Row k50 50 (.slice A8 x.f8.length c8) x.f8, RdP (w.heap.size + 1) A l.length c (at2, false), Old w]) (Steps.Bs 8 0) z1_ rfl rfl hSd (fun W hJ => ⟨blk_cell hJ.blk 0, blk_cell hJ.blk 1, blk_cell hJ.blk 2, blk_cell hJ.blk 3, blk_cell hJ.blk 4, blk_cell hJ.blk 5, blk_cell hJ.blk 6, blk_cell hJ.blk 7, blk_cell hJ.blk 8, blk_cell hJ.blk 9, blk_cell hJ.blk 10, blk_cell hJ.blk 11, blk_cell hJ.s4.blk 1, trivial⟩) (fun W0 hJ => ?_)
  clear hSd HS4 HS3
  have hHeld : W0.cell? ⟨w.heap.size, 0, none⟩ = some (.int .i64 x.f0.f0) ∧ W0.cell? ⟨w.heap.size, 1, none⟩ = some (.int .i64 x.f0.f1) ∧ W0.cell? ⟨w.heap.size, 2, none⟩ = some (.slice A1 x.f1.length c1) ∧ W0.cell? ⟨w.heap.size, 3, none⟩ = some (.int .i64 x.f2.f0) ∧ W0.cell? ⟨w.heap.size, 4, none⟩ = some (.int .i64 x.f2.f1) ∧ W0.cell? ⟨w.heap.size, 5, none⟩ = some (.int .i64 x.f2.f2) ∧ W0.cell? ⟨w.heap.size, 6, none⟩ = some (.int .i64 x.f3) ∧ W0.cell? ⟨w.heap.size, 7, none⟩ = some (.int .i64 x.f4) ∧ W0.cell? ⟨w.heap.size, 8, none⟩ = some (.string x.f5) ∧ W0.cell? ⟨w.heap.size, 9, none⟩ = some (.int .i64 x.f6) ∧ W0.cell? ⟨w.heap.size, 10, none⟩ = some (.slice A7 x.f7.length c7) ∧ W0.cell? ⟨w.heap.size, 11, none⟩ = some (.slice A8 x.f8.length c8) ∧ W0.cell? ⟨w.heap.size + 1, 1, none⟩ = some (.int .i64 at2) ∧ True := ⟨blk_cell hJ.blk 0, blk_cell hJ.blk 1, blk_cell hJ.blk 2, blk_cell hJ.blk 3, blk_cell hJ.blk 4, blk_cell hJ.blk 5, blk_cell hJ.blk 6, blk_cell hJ.blk 7, blk_cell hJ.blk 8, blk_cell hJ.blk 9, blk_cell hJ.blk 10, blk_cell hJ.blk 11, blk_cell hJ.s4.blk 1, trivial⟩
  refine Steps.pI_ 1 (some 29) (Steps.Bs 8 2) z1_ (h := ?_)
  refine Steps.pI_ 2 (some 30) (Steps.Bs 8 6) z1_ (h := ?_)
  refine Steps.pI_ 3 (some 31) (Steps.Bs 8 14) z1_ (h := ?_)
  refine Steps.tI_ 0 (some 28) (Steps.Bs 8 15) z1_ hHeld (h := ?_)
  refine Steps.tI_ 4 (some 32) (Steps.Bs 8 31) z1_ hHeld (h := ?_)
  refine one_ (i := 5) (N := none) (Steps.Bs 8 63) rfl rfl z1_ z5_ (fun K hK => ?_)
  refine store_row_step (by rfl) 54 (.tmp 4) (.tmp 28) rfl w.heap.size #[.int .i64 x.f0.f0, .int .i64 x.f0.f1, .slice A1 x.f1.length c1, .int .i64 x.f2.f0, .int .i64 x.f2.f1, .int .i64 x.f2.f2, .int .i64 x.f3, .int .i64 x.f4, .string x.f5, .int .i64 x.f6, .slice A7 x.f7.length c7, .slice A8 x.f8.length c8] rfl rfl 54 #[.int .i64 x.f0.f0, .int .i64 x.f0.f1, .slice A1 x.f1.length c1, .int .i64 x.f2.f0, .int .i64 x.f2.f1, .int .i64 x.f2.f2, .int .i64 x.f3, .int .i64 x.f4, .string x.f5, .int .i64 x.f6, .slice A7 x.f7.length c7, .slice A8 x.f8.length c8] hJ.blk z1_ rfl (by first | decide | rfl | simp [Value.oneCell']) ?_
  have hS5 := sp_storeRow hJ #[.int .i64 x.f0.f0, .int .i64 x.f0.f1, .slice A1 x.f1.length c1, .int .i64 x.f2.f0, .int .i64 x.f2.f1, .int .i64 x.f2.f2, .int .i64 x.f3, .int .i64 x.f4, .string x.f5, .int .i64 x.f6, .slice A7 x.f7.length c7, .slice A8 x.f8.length c8]
  refine hK.out _ _ ⟨blk_cell hS5.blk 0, blk_cell hS5.blk 1, blk_cell hS5.blk 2, blk_cell hS5.blk 3, blk_cell hS5.blk 4, blk_cell hS5.blk 5, blk_cell hS5.blk 6, blk_cell hS5.blk 7, blk_cell hS5.blk 8, blk_cell hS5.blk 9, blk_cell hS5.blk 10, blk_cell hS5.blk 11, blk_cell hS5.s4.blk 1, trivial⟩ (fun _ => ?_)
  clear hK K
  refine norm_ (a' := ?_) ?_ ?_
  rotate_left
  ·
   show Act.put _ none _ = _
   rfl
  refine Steps.pI_ 6 (some 5) (Steps.Bs 8 127) z1_ (h := ?_)
  refine Steps.pI_ 7 (some 6) (Steps.Bs 8 255) z1_ (h := ?_)
  refine done_ z1_ ?_
  go_wp2
  refine bodyPost_ret (results_ctt rfl _ _ w.heap.size 54 #[.int .i64 x.f0.f0, .int .i64 x.f0.f1, .slice A1 x.f1.length c1, .int .i64 x.f2.f0, .int .i64 x.f2.f1, .int .i64 x.f2.f2, .int .i64 x.f3, .int .i64 x.f4, .string x.f5, .int .i64 x.f6, .slice A7 x.f7.length c7, .slice A8 x.f8.length c8] (0, 0) _ rfl hS5.blk Try.underlying54 rfl z1_) rfl ?_
  exact ⟨_, _, _, rfl, hS5.tail.s3.tail⟩
end
end Go.Proofs.Ytcbfliajgopdaaa.Ops
end
