-- Put together by a program of this session (wip/slice2.py) out of the seat's texts.
import Derived.Test.YtjnjfogfpmeacaaGreatZOEp4
import Derived.Sort.Walk0
set_option maxHeartbeats 8000000
set_option maxRecDepth 100000
open Go.Proofs.YtjnjfogfpmeacaaGreatW Go.Proofs.YtjnjfogfpmeacaaGreat
section
namespace Go.Proofs.YtjnjfogfpmeacaaGreat.Plain
open Go.RowKit PAll PrintWords PrintLast PrintMore ZipT PrintWords.Kd PrintMore.Kd
set_option linter.unusedVariables false
set_option linter.unusedSimpArgs false
theorem iG (s : ByteArray) : s.toList = ([] : List UInt8) ↔ s.size = 0 := by
 rw [jA, show s.size = s.data.toList.length from by rw [Array.length_toList]; rfl]
 exact List.length_eq_zero_iff.symm
theorem toList_inj {s t : ByteArray} : s.toList = t.toList ↔ s = t := by
 rw [jA, jA]
 constructor
 ·
  intro h
  have : s.data = t.data := by rw [← Array.toList_inj]; exact h
  cases s; cases t; simp_all
 ·
  intro h; rw [h]
theorem size_zero {s : ByteArray} (h : s.size = 0) : s = ⟨#[]⟩ := by
 rw [← toList_inj, (iG s).2 h]; exact ((iG _).2 rfl).symm
def vOk (k i : Int) (s : ByteArray) : Prop :=
 (k = 1 ∧ i = 0 ∧ s.size = 0) ∨ (k = 2 ∧ (i = 0 ∨ i = 1) ∧ s.size = 0) ∨ (k = 3 ∧ (-1152921504606846976 ≤ i ∧ i ≤ 1152921504606846976) ∧ s.size = 0) ∨ (k = 4 ∧ i = 0 ∧ s.size ≤ 24)
instance (k i : Int) (s : ByteArray) : Decidable (vOk k i s) := by unfold vOk; infer_instance
theorem within_v (n m : Int) (h0 : 0 ≤ m) (h1 : m ≤ 9223372036854775807) : eG.f n m = some (decide (-m ≤ n ∧ n ≤ m)) := by
 unfold eG.f
 rw [w64 (x := -m) z3_ z3_]
 by_cases h : n ≥ -m
 ·
  rw [if_pos h]; congr 1; simp; omega
 rw [if_neg h]; congr 1; simp; omega
theorem gZ (k i : Int) (s : ByteArray) : bN.f k i s = some (if vOk k i s then 0 else 1) := by
 unfold bN.f
 rw [within_v i 1152921504606846976 z3_ z3_]
 simp only [iG, Option.bind_some, decide_eq_true_eq]
 by_cases ho : vOk k i s
 ·
  rw [if_pos ho]; unfold vOk at ho; repeat' split
  all_goals first | rfl | (exfalso; omega)
 rw [if_neg ho]; unfold vOk at ho; repeat' split
 all_goals first | rfl | (exfalso; omega)
theorem rvalue_eq (k i : Int) (s : ByteArray) : cF.f k i s = some (decide (vOk k i s)) := by
 unfold cF.f
 simp only [fZ, Option.bind_some, decide_eq_true_eq]
 have hn : (s.toList == ([] : List UInt8)) = decide (s.size = 0) := by
  by_cases h : s.size = 0
  ·
   rw [(iG s).2 h, decide_eq_true h]; rfl
  ·
   rw [decide_eq_false h, beq_eq_false_iff_ne]; exact fun e => h ((iG s).1 e)
 rw [hn]
 by_cases ho : vOk k i s
 ·
  rw [decide_eq_true ho]; unfold vOk at ho; repeat' split
  all_goals first | rfl | (exfalso; omega) | (congr 1; rw [decide_eq_true_eq]; omega)
 rw [decide_eq_false ho]; unfold vOk at ho; repeat' split
 all_goals first | rfl | (exfalso; omega) | (congr 1; rw [decide_eq_false_iff_not]; omega)
theorem keepValue_eq (k1 i1 : Int) (s1 : ByteArray) (k2 i2 : Int) (s2 : ByteArray) : eX.f k1 i1 s1 k2 i2 s2 = some (decide (k1 = k2 ∧ i1 = i2 ∧ s1 = s2)) := by
 unfold eX.f
 by_cases h1 : k1 = k2
 rotate_left
 ·
  rw [if_neg h1]; simp [h1]
 rw [if_pos h1]
 by_cases h2 : i1 = i2
 rotate_left
 ·
  rw [if_neg h2]; simp [h2]
 rw [if_pos h2]; congr 1
 by_cases h3 : s1 = s2
 ·
  simp [h1, h2, h3]
 rw [decide_eq_false (by simp [h3]), beq_eq_false_iff_ne]; exact fun e => h3 (toList_inj.1 e)
def vFits (k i : Int) (s : ByteArray) (t : Int) : Prop := (2 ≤ t ∧ t ≤ 4) ∧ vOk k i s ∧ (k = t ∨ k = 1)
instance (k i : Int) (s : ByteArray) (t : Int) : Decidable (vFits k i s t) := by unfold vFits; infer_instance
theorem beq_one (k : Int) : (k == 1) = decide (k = 1) := by by_cases h : k = 1 <;> simp [h]
theorem fits_eq (k i : Int) (s : ByteArray) (t : Int) : gF.f k i s t = some (decide (vFits k i s t)) := by
 unfold gF.f vFits
 simp only [gZ, Option.bind_some, beq_one]
 by_cases ho : vOk k i s
 ·
  simp only [ho, if_true, true_and]
  repeat' split
  all_goals first | rfl | (exfalso; omega) | (congr 1; rw [decide_eq_decide]; omega) | (congr 1; rw [eq_comm, decide_eq_true_eq]; omega) | (congr 1; rw [eq_comm, decide_eq_false_iff_not]; omega)
 simp only [ho, if_false, false_and, and_false]
 repeat' split
 all_goals first | rfl | (exfalso; omega) | (congr 1; rw [decide_eq_decide]; omega) | (congr 1; rw [eq_comm, decide_eq_true_eq]; omega) | (congr 1; rw [eq_comm, decide_eq_false_iff_not]; omega)
theorem rfits_eq (k i : Int) (s : ByteArray) (t : Int) : eL.f k i s t = some (decide (vFits k i s t)) := by
 unfold eL.f cW.f vFits
 simp only [rvalue_eq, fZ, Option.bind_some, beq_one, decide_eq_true_eq]
 by_cases ho : vOk k i s
 ·
  simp only [ho, if_true, true_and]
  repeat' split
  all_goals first | rfl | (exfalso; omega) | (congr 1; rw [decide_eq_decide]; omega) | (congr 1; rw [eq_comm, decide_eq_true_eq]; omega) | (congr 1; rw [eq_comm, decide_eq_false_iff_not]; omega)
 simp only [ho, if_false, false_and, and_false]
 repeat' split
 all_goals first | rfl | (exfalso; omega) | (congr 1; rw [decide_eq_decide]; omega) | (congr 1; rw [eq_comm, decide_eq_true_eq]; omega) | (congr 1; rw [eq_comm, decide_eq_false_iff_not]; omega)
def vSmall (k i : Int) (s : ByteArray) : Prop := vOk k i s ∧ (k = 3 → -2147483648 ≤ i ∧ i ≤ 2147483648)
instance (k i : Int) (s : ByteArray) : Decidable (vSmall k i s) := by unfold vSmall; infer_instance
theorem small_eq (k i : Int) (s : ByteArray) : fV.f k i s = some (decide (vSmall k i s)) := by
 unfold fV.f vSmall
 simp only [gZ, within_v i 2147483648 z3_ z3_, Option.bind_some]
 by_cases ho : vOk k i s
 rotate_left
 ·
  simp [ho]
 simp only [ho, if_true, true_and]
 by_cases h : k = 3 <;> simp [h]
theorem rsmall_eq (k i : Int) (s : ByteArray) : eB.f k i s = some (decide (vSmall k i s)) := by
 unfold eB.f vSmall
 simp only [rvalue_eq, fZ, Option.bind_some, decide_eq_true_eq]
 by_cases ho : vOk k i s
 rotate_left
 ·
  simp [ho]
 simp only [ho, if_true, true_and]
 by_cases h : k = 3 <;> simp [h]
def sVB (k i : Int) (s : ByteArray) : List Int := if k = 2 then [2, i] else if k = 3 then 3 :: intB i else if k = 4 then 4 :: (s.size : Int) :: bytesOf s else [1]
theorem vbytes_eq (fuel : Nat) (k i : Int) (s : ByteArray) (hk : 30 ≤ fuel) : gJ.f fuel k i s = some (if vOk k i s then (sVB k i s, 0) else ([], 1)) := by
 unfold gJ.f
 rw [gZ, Option.bind_some]
 by_cases ho : vOk k i s
 rotate_left
 ·
  rw [if_neg ho, if_neg z5_, if_neg ho]
 rw [if_pos ho, if_pos rfl, Option.bind_some]
 have ho' := ho
 unfold vOk at ho'
 unfold sVB
 by_cases h2 : k = 2
 ·
  rw [if_pos h2, if_pos h2, if_pos z6_, if_pos ho]
  subst h2
  have : i % 256 = i := by omega
  simp [this]
 rw [if_neg h2, if_neg h2]
 by_cases h3 : k = 3
 ·
  rw [if_pos h3, if_pos h3, putInt_eq _ _ _ z6_ z3_, Option.bind_some, if_pos ho]
  subst h3
  unfold sPutInt
  rw [if_pos z3_]
  simp
 rw [if_neg h3, if_neg h3]
 by_cases h4 : k = 4
 ·
  rw [if_pos h4, if_pos h4, putText_eq _ _ z6_, Option.bind_some, if_pos ho]
  subst h4
  unfold sPutText
  rw [if_pos z3_]
  simp
 have h1 : k = 1 := by omega
 rw [if_neg h4, if_neg h4, if_pos ho, h1]
 rfl
theorem rvbytes_eq (fuel : Nat) (k i : Int) (s : ByteArray) (ho : vOk k i s) (hk : 30 ≤ fuel) : bZ.f fuel k i s = some (sVB k i s) := by
 unfold bZ.f
 rw [Option.bind_some]
 have ho' := ho
 unfold vOk at ho'
 unfold sVB
 by_cases h2 : k = 2
 ·
  rw [if_pos h2, if_pos h2, if_pos z6_]
  subst h2
  have : i % 256 = i := by omega
  simp [this]
 rw [if_neg h2, if_neg h2]
 by_cases h3 : k = 3
 ·
  rw [if_pos h3, if_pos h3, rintB_eq _ _ z3_ z3_ z3_, Option.bind_some, if_pos (by rw [hD]; simp)]
  subst h3
  simp
 rw [if_neg h3, if_neg h3]
 by_cases h4 : k = 4
 ·
  rw [if_pos h4, if_pos h4, if_pos z6_, Option.bind_some, if_pos (by simp; omega)]
  subst h4
  have : (s.size : Int) % 256 = s.size := by omega
  simp [this]
 have h1 : k = 1 := by omega
 rw [if_neg h4, if_neg h4, h1]
 rfl
def bad (e : Int) : Int × Int × ByteArray × Int × Int := (0, 0, ⟨#[]⟩, 0, e)
def sVRead (l : List Int) (at_ : Int) : Int × Int × ByteArray × Int × Int :=
  if 0 ≤ at_ ∧ at_ ≤ l.length then
    (if at_ = l.length then bad 3
     else if rd l at_ = 1 then (1, 0, ⟨#[]⟩, at_ + 1, 0)
     else if rd l at_ = 2 then (if at_ + 1 < l.length ∧ rd l (at_ + 1) ≤ 1 then (2, rd l (at_ + 1), ⟨#[]⟩, at_ + 2, 0) else bad 3)
     else if rd l at_ = 3 then (if (sGetInt l (at_ + 1)).2.2 = 0 then (3, (sGetInt l (at_ + 1)).1, ⟨#[]⟩, (sGetInt l (at_ + 1)).2.1, 0) else bad 3)
     else if rd l at_ = 4 then (if (sGetText l (at_ + 1)).2.2 = 0 then (4, 0, (sGetText l (at_ + 1)).1, (sGetText l (at_ + 1)).2.1, 0) else bad 3)
     else bad 3)
  else bad 1
theorem sub_one {l : List Int} {i : Int} (h0 : 0 ≤ i) (h1 : i < l.length) : sub l i.toNat (i + 1).toNat = [rd l i] := by
 obtain ⟨j, rfl⟩ := Int.eq_ofNat_of_zero_le h0
 rw [Int.toNat_natCast, show ((j : Int) + 1).toNat = j + 1 from by omega, iO z3_ z3_]
 have : sub l (j + 1) (j + 1) = [] := List.eq_nil_of_length_eq_zero (by rw [fP z3_]; omega)
 rw [this]
theorem sGet_one (l : List Int) (at_ : Int) : sGet l at_ 1 = if 0 ≤ at_ ∧ at_ ≤ l.length then (if at_ = l.length then (0, 0, 3) else (rd l at_, at_ + 1, 0)) else (0, 0, 1) := by
 unfold sGet
 by_cases h : 0 ≤ at_ ∧ at_ ≤ l.length
 rotate_left
 ·
  rw [if_neg z3_, if_neg h]
 rw [if_pos z3_, if_pos h]
 by_cases h2 : at_ = l.length
 ·
  rw [if_pos z3_, if_pos h2]
 rw [if_neg z3_, if_neg h2, sub_one z3_ z3_]
 simp [val]
theorem sGet_next (l : List Int) (at_ : Int) (h : 0 ≤ at_ ∧ at_ ≤ l.length) (h2 : ¬ at_ = l.length) : sGet l (at_ + 1) 1 = if at_ + 1 = l.length then (0, 0, 3) else (rd l (at_ + 1), at_ + 1 + 1, 0) := by
 rw [sGet_one, if_pos z3_]
theorem getInt_bd {l : List Int} {at_ : Int} (h : (sGetInt l at_).2.2 = 0) : -1152921504606846976 ≤ (sGetInt l at_).1 ∧ (sGetInt l at_).1 ≤ 1152921504606846976 ∨ ¬ Bytes l := by
 by_cases hb : Bytes l
 rotate_left
 ·
  exact .inr hb
 left
 have hv := iD (sub l (at_ + 1).toNat (at_ + 9).toNat) 0 z3_ (fX hb _ _)
 unfold sGetInt at h ⊢
 split at h
 ·
  rename_i h1
  rw [if_pos h1]
  split at h
  ·
   simp at h
  ·
   rename_i h2
   rw [if_neg h2]
   split <;> simp only <;> omega
 ·
  simp at h
theorem div_of {n p q : Int} (hp : 0 < p) (h0 : q * p ≤ n) (h1 : n < (q + 1) * p) : n / p = q := by
 have h2 : (q + 1) * p = q * p + p := by rw [Int.add_mul, Int.one_mul]
 exact ((Int.ediv_emod_unique (r := n - q * p) hp).2 ⟨by rw [Int.mul_comm p q]; omega, by omega, by omega⟩).1
theorem big_val (l : List Int) (hb : Bytes l) : big (val 0 l) l.length = l := by
 suffices ∀ a : Int, 0 ≤ a → big (val a l) l.length = l from this 0 z3_
 induction l with
 | nil => intro a _; rfl
 | cons b l ih =>
  intro a ha
  have hh := hb.head
  unfold Byte at hh
  have hv0 := val_ge l (a * 256 + b) z3_ hb.tail
  have hv1 := val_lt l (a * 256 + b) z3_ hb.tail
  rw [List.length_cons, big]
  show val (a * 256 + b) l / 256 ^ l.length % 256 :: big (val (a * 256 + b) l) l.length = _
  rw [div_of (pow_pos _) hv0 hv1, ih hb.tail _ z3_]
  congr 1
  omega
theorem getInt_sub {l : List Int} {at_ : Int} (hb : Bytes l) (h : (sGetInt l at_).2.2 = 0) : (sGetInt l at_).2.1 = at_ + 9 ∧ (0 ≤ at_ ∧ at_ + 9 ≤ l.length) ∧ intB (sGetInt l at_).1 = sub l at_.toNat (at_ + 9).toNat := by
 have hv := iD (sub l (at_ + 1).toNat (at_ + 9).toNat) 0 z3_ (fX hb _ _)
 have hr := hb.rd at_
 unfold Byte at hr
 unfold sGetInt at h ⊢
 by_cases h1 : 0 ≤ at_ ∧ at_ ≤ l.length
 rotate_left
 ·
  rw [if_neg h1] at h; simp at h
 rw [if_pos h1] at h ⊢
 by_cases h2 : l.length - at_ < 9 ∨ rd l at_ > 1 ∨ val 0 (sub l (at_ + 1).toNat (at_ + 9).toNat) > 1152921504606846976 ∨ (rd l at_ = 1 ∧ val 0 (sub l (at_ + 1).toNat (at_ + 9).toNat) = 0)
 ·
  rw [if_pos h2] at h; simp at h
 rw [if_neg h2]
 obtain ⟨i, rfl⟩ := Int.eq_ofNat_of_zero_le h1.1
 have hb8 : big (val 0 (sub l ((i : Int) + 1).toNat ((i : Int) + 9).toNat)) 8 = sub l ((i : Int) + 1).toNat ((i : Int) + 9).toNat := by
  have := big_val (sub l ((i : Int) + 1).toNat ((i : Int) + 9).toNat) (fX hb _ _)
  rw [fP z3_, show ((i : Int) + 9).toNat - ((i : Int) + 1).toNat = 8 from by omega] at this
  exact this
 have hc : sub l (i : Int).toNat ((i : Int) + 9).toNat = rd l (i : Int) :: sub l ((i : Int) + 1).toNat ((i : Int) + 9).toNat := by
  rw [Int.toNat_natCast, show ((i : Int) + 1).toNat = i + 1 from by omega, iO z3_ z3_]
 rw [hc]
 by_cases h3 : rd l (i : Int) = 1
 ·
  rw [if_pos h3]
  refine ⟨rfl, by omega, ?_⟩
  unfold intB
  simp only
  rw [if_pos z3_, Int.neg_neg, hb8, h3]
 rw [if_neg h3]
 refine ⟨rfl, by omega, ?_⟩
 unfold intB
 simp only
 rw [if_neg z3_, hb8, show rd l (i : Int) = 0 from by omega]
theorem getText_sub {l : List Int} {at_ : Int} (hb : Bytes l) (h : (sGetText l at_).2.2 = 0) : (at_ + 1 ≤ (sGetText l at_).2.1 ∧ (sGetText l at_).2.1 ≤ l.length) ∧ 0 ≤ at_ ∧ ((sGetText l at_).1.size : Int) :: bytesOf (sGetText l at_).1 = sub l at_.toNat (sGetText l at_).2.1.toNat := by
 have hr := hb.rd at_
 unfold Byte at hr
 unfold sGetText at h ⊢
 by_cases h1 : 0 ≤ at_ ∧ at_ ≤ l.length
 rotate_left
 ·
  rw [if_neg h1] at h; simp at h
 rw [if_pos h1] at h ⊢
 by_cases h2 : at_ = l.length ∨ rd l at_ > 24 ∨ l.length - at_ - 1 < rd l at_
 ·
  rw [if_pos h2] at h; simp at h
 rw [if_neg h2]
 obtain ⟨i, rfl⟩ := Int.eq_ofNat_of_zero_le h1.1
 refine ⟨by simp only; omega, by omega, ?_⟩
 simp only
 rw [iZ, jS (fX hb _ _), fP z3_, Int.toNat_natCast, show ((i : Int) + 1).toNat = i + 1 from by omega, iO (i := i) z3_ z3_]
 congr 1
 omega
theorem jI {l : List Int} {at_ : Int} (hb : Bytes l) (h : (sGetText l at_).2.2 = 0) : (sGetText l at_).1.size ≤ 24 := by
 have hr := hb.rd at_
 unfold Byte at hr
 unfold sGetText at h ⊢
 split at h
 ·
  rename_i h1
  rw [if_pos h1]
  split at h
  ·
   simp at h
  ·
   rename_i h2
   rw [if_neg h2]
   simp only
   rw [iZ, fP z3_]
   omega
 ·
  simp at h
theorem vread_eq (fuel : Nat) (l : List Int) (at_ : Int) (hb : Bytes l) (hl : l.length ≤ 1000000) (ha : at_ ≤ 9223372036854775807) (hk : 30 ≤ fuel) : gH.f fuel l at_ = some (sVRead l at_) := by
 unfold gH.f sVRead
 rw [get_eq _ _ _ _ hb hl ha z3_, Option.bind_some, sGet_one]
 by_cases h : 0 ≤ at_ ∧ at_ ≤ l.length
 rotate_left
 ·
  rw [if_neg h, if_neg h, if_neg z5_]; rfl
 rw [if_pos h, if_pos h]
 by_cases h2 : at_ = l.length
 ·
  rw [if_pos h2, if_pos h2, if_neg z5_]; rfl
 have hr := hb.rd at_
 unfold Byte at hr
 rw [if_neg h2, if_neg h2, if_pos rfl]
 simp only
 by_cases k2 : rd l at_ = 2
 ·
  rw [if_pos k2, if_neg z3_, if_pos k2, get_eq _ _ _ _ hb hl z3_ z3_, Option.bind_some, sGet_next _ _ h h2]
  have hr1 := hb.rd (at_ + 1)
  unfold Byte at hr1
  by_cases h3 : at_ + 1 = l.length
  ·
   rw [if_pos h3]
   simp only
   rw [if_neg (show ¬ ((3 : Int) = 0) by decide), if_neg z3_]; rfl
  rw [if_neg h3]
  simp only
  rw [if_pos trivial, gZ, Option.bind_some, k2]
  by_cases h4 : rd l (at_ + 1) ≤ 1
  ·
   rw [if_pos (show vOk 2 (rd l (at_ + 1)) ⟨#[]⟩ from .inr (.inl ⟨rfl, by omega, rfl⟩)), if_pos rfl, if_pos z3_, show at_ + 1 + 1 = at_ + 2 from by omega]
  rw [if_neg (show ¬ vOk 2 (rd l (at_ + 1)) ⟨#[]⟩ from by unfold vOk; omega), if_neg z5_, if_neg z3_]; rfl
 rw [if_neg k2]
 by_cases k3 : rd l at_ = 3
 ·
  rw [if_pos k3, if_neg z3_, if_neg k2, if_pos k3, getInt_eq _ _ _ hb hl z3_ z3_, Option.bind_some, k3]
  by_cases h4 : (sGetInt l (at_ + 1)).2.2 = 0
  rotate_left
  ·
   rw [if_neg h4, if_neg h4]; rfl
  have := (getInt_bd h4).resolve_right (fun h => h hb)
  rw [if_pos h4, if_pos h4, gZ, Option.bind_some, if_pos (show vOk 3 _ ⟨#[]⟩ from .inr (.inr (.inl ⟨rfl, this, rfl⟩))), if_pos rfl]
 rw [if_neg k3]
 by_cases k4 : rd l at_ = 4
 ·
  rw [if_pos k4, if_neg z3_, if_neg k2, if_neg k3, if_pos k4, getText_eq _ _ _ hb hl z3_ z3_, Option.bind_some, k4]
  by_cases h4 : (sGetText l (at_ + 1)).2.2 = 0
  rotate_left
  ·
   rw [if_neg h4, if_neg h4]; rfl
  have := jI hb h4
  rw [if_pos h4, if_pos h4, gZ, Option.bind_some, if_pos (show vOk 4 0 _ from .inr (.inr (.inr ⟨rfl, rfl, this⟩))), if_pos rfl]
 rw [if_neg k4, gZ, Option.bind_some, if_neg k2, if_neg k3, if_neg k4]
 by_cases k1 : rd l at_ = 1
 ·
  rw [if_pos k1, k1, if_pos (show vOk 1 0 ⟨#[]⟩ from .inl ⟨rfl, rfl, rfl⟩), if_pos rfl]
 rw [if_neg k1, if_neg (by unfold vOk; omega)]; rfl
theorem len_one (a : List Int) (x : Int) : ((a ++ [x]).length : Int) = (a.length : Int) + 1 := by simp
theorem vread_put (a c : List Int) (k i : Int) (s : ByteArray) (ho : vOk k i s) : sVRead (a ++ sVB k i s ++ c) a.length = (k, i, s, (a.length : Int) + (sVB k i s).length, 0) := by
 unfold vOk at ho
 unfold sVRead
 by_cases h2 : k = 2
 ·
  subst h2
  have hs := size_zero (s := s) z3_
  have e : sVB 2 i s = [2, i] := rfl
  have hl : (a ++ sVB 2 i s ++ c).length = a.length + 2 + c.length := by rw [e]; simp; omega
  have r0 : rd (a ++ sVB 2 i s ++ c) (a.length : Int) = 2 := by rw [e, List.append_assoc]; exact iT _ _ _ rfl
  have r1 : rd (a ++ sVB 2 i s ++ c) ((a.length : Int) + 1) = i := by
   have : a ++ sVB 2 i s ++ c = (a ++ [2]) ++ i :: c := by rw [e]; simp
   rw [this]; exact iT _ _ _ z6_
  rw [if_pos z3_, if_neg z3_, r0, if_neg z5_, if_pos rfl, r1, if_pos z3_, hs]
  rfl
 by_cases h3 : k = 3
 ·
  subst h3
  have hs := size_zero (s := s) z3_
  have e : sVB 3 i s = 3 :: intB i := rfl
  have hl : (a ++ sVB 3 i s ++ c).length = a.length + 10 + c.length := by rw [e]; simp [hD]; omega
  have r0 : rd (a ++ sVB 3 i s ++ c) (a.length : Int) = 3 := by rw [e, List.append_assoc]; exact iT _ _ _ rfl
  have g := getInt_put (a ++ [3]) c i z3_ z3_
  rw [show a ++ [3] ++ intB i ++ c = a ++ sVB 3 i s ++ c from by rw [e]; simp, len_one a 3] at g
  rw [if_pos z3_, if_neg z3_, r0, if_neg z5_, if_neg z5_, if_pos rfl, g, if_pos rfl, hs, show sVB 3 i ⟨#[]⟩ = 3 :: intB i from rfl, List.length_cons, hD]
  simp only [Prod.mk.injEq, true_and, and_true]
  omega
 by_cases h4 : k = 4
 ·
  subst h4
  have hi : i = 0 := by omega
  have e : sVB 4 i s = 4 :: (s.size : Int) :: bytesOf s := rfl
  have hl : (a ++ sVB 4 i s ++ c).length = a.length + 2 + s.size + c.length := by rw [e]; simp [dN]; omega
  have r0 : rd (a ++ sVB 4 i s ++ c) (a.length : Int) = 4 := by rw [e, List.append_assoc]; exact iT _ _ _ rfl
  have g := getText_put (a ++ [4]) c s z3_
  rw [show a ++ [4] ++ (s.size : Int) :: bytesOf s ++ c = a ++ sVB 4 i s ++ c from by rw [e]; simp, len_one a 4] at g
  rw [if_pos z3_, if_neg z3_, r0, if_neg z5_, if_neg z5_, if_neg z5_, if_pos rfl, g, if_pos rfl, hi, show sVB 4 0 s = 4 :: (s.size : Int) :: bytesOf s from rfl, List.length_cons, List.length_cons, dN]
  simp only [Prod.mk.injEq, true_and, and_true]
  omega
 have h1 : k = 1 := by omega
 subst h1
 have hs := size_zero (s := s) z3_
 have hi : i = 0 := by omega
 have e : sVB 1 i s = [1] := rfl
 have hl : (a ++ sVB 1 i s ++ c).length = a.length + 1 + c.length := by rw [e]; simp; omega
 have r0 : rd (a ++ sVB 1 i s ++ c) (a.length : Int) = 1 := by rw [e, List.append_assoc]; exact iT _ _ _ rfl
 rw [if_pos z3_, if_neg z3_, r0, if_pos rfl, hs, hi]
 rfl
theorem vread_sub {l : List Int} {at_ : Int} (hb : Bytes l) (h : (sVRead l at_).2.2.2.2 = 0) :
  vOk (sVRead l at_).1 (sVRead l at_).2.1 (sVRead l at_).2.2.1 ∧ 0 ≤ at_ ∧ at_ ≤ (sVRead l at_).2.2.2.1 ∧ (sVRead l at_).2.2.2.1 ≤ l.length ∧
  sVB (sVRead l at_).1 (sVRead l at_).2.1 (sVRead l at_).2.2.1 = sub l at_.toNat (sVRead l at_).2.2.2.1.toNat := by
 by_cases h1 : 0 ≤ at_ ∧ at_ ≤ l.length
 rotate_left
 ·
  unfold sVRead at h; rw [if_neg h1] at h; simp [bad] at h
 by_cases h2 : at_ = l.length
 ·
  unfold sVRead at h; rw [if_pos h1, if_pos h2] at h; simp [bad] at h
 have hr := hb.rd at_
 unfold Byte at hr
 obtain ⟨i, rfl⟩ := Int.eq_ofNat_of_zero_le h1.1
 have c1 : ∀ j, i < j → j ≤ l.length → sub l i j = rd l (i : Int) :: sub l (i + 1) j := fun j a b => iO a b
 by_cases k1 : rd l (i : Int) = 1
 ·
  have e : sVRead l i = (1, 0, ⟨#[]⟩, (i : Int) + 1, 0) := by unfold sVRead; rw [if_pos h1, if_neg h2, if_pos k1]
  rw [e]
  refine ⟨.inl ⟨rfl, rfl, rfl⟩, by omega, by simp only; omega, by simp only; omega, ?_⟩
  simp only
  rw [show ((i : Int) + 1).toNat = i + 1 from by omega, Int.toNat_natCast, c1 _ z3_ z3_, k1]
  have : sub l (i + 1) (i + 1) = [] := List.eq_nil_of_length_eq_zero (by rw [fP z3_]; omega)
  rw [this]; rfl
 by_cases k2 : rd l (i : Int) = 2
 ·
  have hr1 := hb.rd ((i : Int) + 1)
  unfold Byte at hr1
  by_cases h3 : (i : Int) + 1 < l.length ∧ rd l ((i : Int) + 1) ≤ 1
  rotate_left
  ·
   unfold sVRead at h; rw [if_pos h1, if_neg h2, if_neg k1, if_pos k2, if_neg h3] at h; simp [bad] at h
  have e : sVRead l i = (2, rd l ((i : Int) + 1), ⟨#[]⟩, (i : Int) + 2, 0) := by unfold sVRead; rw [if_pos h1, if_neg h2, if_neg k1, if_pos k2, if_pos h3]
  rw [e]
  refine ⟨.inr (.inl ⟨rfl, by simp only; omega, rfl⟩), by omega, by simp only; omega, by simp only; omega, ?_⟩
  simp only
  rw [show ((i : Int) + 2).toNat = i + 2 from by omega, Int.toNat_natCast, c1 _ z3_ z3_, k2, iO z3_ z3_]
  have : sub l (i + 1 + 1) (i + 2) = [] := List.eq_nil_of_length_eq_zero (by rw [fP z3_]; omega)
  rw [this]; rfl
 by_cases k3 : rd l (i : Int) = 3
 ·
  by_cases h3 : (sGetInt l ((i : Int) + 1)).2.2 = 0
  rotate_left
  ·
   unfold sVRead at h; rw [if_pos h1, if_neg h2, if_neg k1, if_neg k2, if_pos k3, if_neg h3] at h; simp [bad] at h
  have e : sVRead l i = (3, (sGetInt l ((i : Int) + 1)).1, ⟨#[]⟩, (sGetInt l ((i : Int) + 1)).2.1, 0) := by unfold sVRead; rw [if_pos h1, if_neg h2, if_neg k1, if_neg k2, if_pos k3, if_pos h3]
  have hbd := (getInt_bd h3).resolve_right (fun h => h hb)
  obtain ⟨g1, g2, g3⟩ := getInt_sub hb h3
  rw [e]
  refine ⟨.inr (.inr (.inl ⟨rfl, hbd, rfl⟩)), by omega, by simp only; omega, by simp only; omega, ?_⟩
  simp only
  rw [g1, show ((i : Int) + 1 + 9).toNat = i + 10 from by omega, Int.toNat_natCast, c1 _ z3_ z3_, k3]
  rw [show ((i : Int) + 1).toNat = i + 1 from by omega, show ((i : Int) + 1 + 9).toNat = i + 10 from by omega] at g3
  rw [← g3]; rfl
 by_cases k4 : rd l (i : Int) = 4
 rotate_left
 ·
  unfold sVRead at h; rw [if_pos h1, if_neg h2, if_neg k1, if_neg k2, if_neg k3, if_neg k4] at h; simp [bad] at h
 by_cases h3 : (sGetText l ((i : Int) + 1)).2.2 = 0
 rotate_left
 ·
  unfold sVRead at h; rw [if_pos h1, if_neg h2, if_neg k1, if_neg k2, if_neg k3, if_pos k4, if_neg h3] at h; simp [bad] at h
 have e : sVRead l i = (4, 0, (sGetText l ((i : Int) + 1)).1, (sGetText l ((i : Int) + 1)).2.1, 0) := by unfold sVRead; rw [if_pos h1, if_neg h2, if_neg k1, if_neg k2, if_neg k3, if_pos k4, if_pos h3]
 have hbd := jI hb h3
 obtain ⟨g1, g2, g3⟩ := getText_sub hb h3
 rw [e]
 refine ⟨.inr (.inr (.inr ⟨rfl, rfl, hbd⟩)), by omega, by simp only; omega, by simp only; omega, ?_⟩
 simp only
 rw [show ((i : Int) + 1).toNat = i + 1 from by omega] at g3
 rw [Int.toNat_natCast, c1 _ z3_ z3_, k4, ← g3]; rfl
theorem sVB_bytes {k i : Int} {s : ByteArray} (ho : vOk k i s) : Bytes (sVB k i s) := by
 unfold vOk at ho
 unfold sVB
 repeat' split
 ·
  exact Bytes.cons ⟨by decide, by decide⟩ (Bytes.cons ⟨by omega, by omega⟩ Bytes.nil)
 ·
  exact Bytes.cons ⟨by decide, by decide⟩ (intB_bytes _)
 ·
  exact Bytes.cons ⟨by decide, by decide⟩ (Bytes.cons ⟨by omega, by omega⟩ (jE _))
 ·
  exact Bytes.cons ⟨by decide, by decide⟩ Bytes.nil
theorem sVB_length {k i : Int} {s : ByteArray} (ho : vOk k i s) : (sVB k i s).length = if k = 2 then 2 else if k = 3 then 10 else if k = 4 then 2 + s.size else 1 := by
 unfold sVB
 repeat' split
 all_goals simp [hD, dN]
 omega
end Go.Proofs.YtjnjfogfpmeacaaGreat.Plain
end
section
namespace Go.Proofs.YtjnjfogfpmeacaaGreat.Plain
open Go.RowKit PAll PrintWords PrintLast PrintMore ZipT PrintWords.Kd PrintMore.Kd
set_option linter.unusedVariables false
set_option linter.unusedSimpArgs false
def isLong (v : S102) : Bool := decide ((v.f2.size : Int) > 300)
theorem long_l0 (l : List S102) (hl : l.length ≤ 1000000) (m : List S102) : ∀ (k i : Nat), l.drop i = m → m.length < k → cJ.l0 k l (i : Int) = some (m.any isLong) := by
 induction m with
 | nil =>
  intro k i h hk
  obtain ⟨k, rfl⟩ : ∃ j, k = j + 1 := ⟨k - 1, by simp at hk; omega⟩
  have := List.drop_eq_nil_iff.1 h
  simp only [cJ.l0]
  rw [if_neg z3_]; rfl
 | cons v m ih =>
  intro k i h hk
  obtain ⟨k, rfl⟩ : ∃ j, k = j + 1 := ⟨k - 1, by simp at hk; omega⟩
  have hi : i < l.length := by
   rcases Nat.lt_or_ge i l.length with h1 | h1
   ·
    exact h1
   ·
    rw [List.drop_eq_nil_iff.2 h1] at h; cases h
  have hr : aK l (i : Int) = v := by
   show l.getD ((i : Int).toNat) _ = v
   rw [Int.toNat_natCast, List.getD_eq_getElem?_getD]
   have : l[i]? = (l.drop i)[0]? := by rw [List.getElem?_drop]; simp
   rw [this, h]; rfl
  have ht : l.drop (i + 1) = m := by rw [← List.drop_drop, h]; rfl
  have := ih k (i + 1) ht (by simp at hk; omega)
  simp only [cJ.l0]
  rw [if_pos z3_, if_pos z3_, hr, w64 z3_ z3_, show ((i : Int) + 1) = ((i + 1 : Nat) : Int) from rfl, this]
  by_cases hv : (v.f2.size : Int) > 300
  ·
   rw [if_pos hv]; simp [isLong, hv]
  rw [if_neg hv]; simp [isLong, hv]
theorem long_eq (k : Nat) (l : List S102) (hl : l.length ≤ 1000000) (hk : l.length + 1 ≤ k) : cJ.f k l = some (l.any isLong) := by
 unfold cJ.f
 have := long_l0 l hl l k 0 rfl z3_
 simpa using this
end Go.Proofs.YtjnjfogfpmeacaaGreat.Plain
end
section
namespace Go.Proofs.YtjnjfogfpmeacaaGreat.Plain
open Go.RowKit PAll PrintWords PrintLast PrintMore ZipT PrintWords.Kd PrintMore.Kd
set_option linter.unusedVariables false
set_option linter.unusedSimpArgs false
abbrev V := S102
theorem dO {α : Type} {l : List α} {i : Nat} {v : α} {m : List α} (h : l.drop i = v :: m) : i < l.length := by
 rcases Nat.lt_or_ge i l.length with h1 | h1
 ·
  exact h1
 ·
  rw [List.drop_eq_nil_iff.2 h1] at h; cases h
theorem cM {α : Type} {l : List α} {i : Nat} {v : α} {m : List α} (h : l.drop i = v :: m) : l.drop (i + 1) = m := by
 rw [← List.drop_drop, h]; rfl
theorem dI {α : Type} {l : List α} {i : Nat} (h : l.drop i = []) : l.length ≤ i := List.drop_eq_nil_iff.1 h
theorem gN {l : List V} {i : Nat} {v : V} {m : List V} (h : l.drop i = v :: m) : aK l (i : Int) = v := by
 show l.getD ((i : Int).toNat) _ = v
 rw [Int.toNat_natCast, List.getD_eq_getElem?_getD]
 have : l[i]? = (l.drop i)[0]? := by rw [List.getElem?_drop]; simp
 rw [this, h]; rfl
theorem jK {l : List Int} {i : Nat} {v : Int} {m : List Int} (h : l.drop i = v :: m) : rd l (i : Int) = v := gB h
theorem V_ext {a b : V} (h0 : a.f0 = b.f0) (h1 : a.f1 = b.f1) (h2 : a.f2 = b.f2) : a = b := by cases a; cases b; simp_all
instance : DecidableEq V := fun a b => decidable_of_iff (a.f0 = b.f0 ∧ a.f1 = b.f1 ∧ a.f2 = b.f2) ⟨fun ⟨h0, h1, h2⟩ => V_ext h0 h1 h2, fun h => by subst h; exact ⟨rfl, rfl, rfl⟩⟩
def okV (v : V) : Prop := vOk v.f0 v.f1 v.f2
instance (v : V) : Decidable (okV v) := by unfold okV; infer_instance
def okR (l : List V) : Bool := l.all fun v => decide (okV v)
def rowE (l : List V) : Int := if l.length > 12 then 2 else if okR l = true then 0 else 1
theorem gO (l : List V) : rowE l = 0 ↔ l.length ≤ 12 ∧ ∀ v ∈ l, okV v := by
 unfold rowE okR
 by_cases h : l.length > 12
 ·
  rw [if_pos h]; constructor
  ·
   intro h; omega
  ·
   intro h; omega
 rw [if_neg h]
 by_cases h2 : (l.all fun v => decide (okV v)) = true
 rotate_left
 ·
  rw [if_neg h2]
  refine ⟨fun h => by omega, fun ⟨_, h3⟩ => absurd (List.all_eq_true.2 fun v hv => decide_eq_true (h3 v hv)) h2⟩
 rw [if_pos h2]
 refine ⟨fun _ => ⟨by omega, fun v hv => ?_⟩, fun _ => rfl⟩
 have := List.all_eq_true.1 h2 v hv
 exact of_decide_eq_true this
theorem wrong_eq (v : V) : gR.f v.f0 v.f1 v.f2 = some (!decide (okV v)) := by
 unfold gR.f okV
 rw [gZ, Option.bind_some]
 by_cases h : vOk v.f0 v.f1 v.f2
 ·
  rw [if_pos h, decide_eq_true h]; rfl
 rw [if_neg h, decide_eq_false h]; rfl
theorem index_wrong (l : List V) (hl : l.length ≤ 1000000) (m : List V) : ∀ (k i : Nat), l.drop i = m → m.length < k →
  ∃ r, bM.l0 k l (l.length : Int) (i : Int) = some r ∧ (r ≥ 0 ↔ m.all (fun v => decide (okV v)) = false) := by
 induction m with
 | nil =>
  intro k i h hk
  obtain ⟨k, rfl⟩ : ∃ j, k = j + 1 := ⟨k - 1, by omega⟩
  have := dI h
  refine ⟨-1, ?_, by simp⟩
  simp only [bM.l0]
  rw [if_neg z3_]
 | cons v m ih =>
  intro k i h hk
  obtain ⟨k, rfl⟩ : ∃ j, k = j + 1 := ⟨k - 1, by omega⟩
  have hi := dO h
  simp only [bM.l0]
  rw [if_pos z3_, if_pos z3_, if_pos z3_, gN h, wrong_eq, Option.bind_some]
  by_cases ho : okV v
  rotate_left
  ·
   refine ⟨i, ?_, ?_⟩
   ·
    rw [decide_eq_false ho, if_pos z5_]
   ·
    simp [ho]
  obtain ⟨r, h1, h2⟩ := ih k (i + 1) (cM h) (by simp at hk; omega)
  refine ⟨r, ?_, ?_⟩
  ·
   rw [decide_eq_true ho, if_neg z5_, w64 z3_ z3_]; exact h1
  ·
   rw [h2]; simp [ho]
theorem rcheck_eq (k : Nat) (l : List V) (hl : l.length ≤ 1000000) (hk : l.length + 1 ≤ k) : gI.f k l = some (rowE l) := by
 unfold gI.f rowE
 by_cases h : (l.length : Int) > 12
 ·
  rw [if_pos h, if_pos z3_]
 obtain ⟨r, h1, h2⟩ := index_wrong l hl l k 0 rfl z3_
 rw [if_neg h, if_neg z3_]
 unfold cR.f bM.f
 rw [show ((0 : Nat) : Int) = 0 from rfl] at h1
 rw [h1, Option.bind_some, Option.bind_some]
 unfold okR
 cases hz : (l.all fun v => decide (okV v))
 ·
  rw [hz] at h2; rw [decide_eq_true (h2.2 rfl)]; simp
 ·
  rw [hz] at h2; rw [decide_eq_false (fun h => by simpa using h2.1 h)]; simp
theorem refRow_l0 (l : List V) (hl : l.length ≤ 1000000) (m : List V) : ∀ (k i : Nat), l.drop i = m → m.length < k →
  cX.l0 k l (i : Int) = some (if m.all (fun v => decide (okV v)) = true then 0 else 1) := by
 induction m with
 | nil =>
  intro k i h hk
  obtain ⟨k, rfl⟩ : ∃ j, k = j + 1 := ⟨k - 1, by omega⟩
  have := dI h
  simp only [cX.l0]
  rw [if_neg z3_]; rfl
 | cons v m ih =>
  intro k i h hk
  obtain ⟨k, rfl⟩ : ∃ j, k = j + 1 := ⟨k - 1, by omega⟩
  have hi := dO h
  simp only [cX.l0]
  rw [if_pos z3_, if_pos z3_, gN h, rvalue_eq, Option.bind_some]
  by_cases ho : okV v
  rotate_left
  ·
   rw [decide_eq_false (show ¬ vOk v.f0 v.f1 v.f2 from ho), if_neg z5_]
   simp [ho]
  rw [decide_eq_true (show vOk v.f0 v.f1 v.f2 from ho), if_pos rfl, w64 z3_ z3_]
  have := ih k (i + 1) (cM h) (by simp at hk; omega)
  rw [show ((i : Int) + 1) = ((i + 1 : Nat) : Int) from rfl, this]
  simp [ho]
theorem refRow_eq (k : Nat) (l : List V) (hl : l.length ≤ 1000000) (hk : l.length + 1 ≤ k) : cX.f k l = some (rowE l) := by
 unfold cX.f rowE
 by_cases h : (l.length : Int) > 12
 ·
  rw [if_pos h, if_pos z3_]
 rw [if_neg h, if_neg z3_]
 have := refRow_l0 l hl l k 0 rfl z3_
 exact this
def vB (v : V) : List Int := sVB v.f0 v.f1 v.f2
def rowVs (l : List V) : List Int := l.flatMap vB
def rowB (l : List V) : List Int := (l.length : Int) :: rowVs l
theorem vB_len {v : V} (h : okV v) : 1 ≤ (vB v).length ∧ (vB v).length ≤ 26 := by
 unfold vB; rw [sVB_length h]; unfold okV vOk at h; repeat' split
 all_goals omega
theorem rowVs_len (l : List V) (h : ∀ v ∈ l, okV v) : (rowVs l).length ≤ l.length * 26 ∧ l.length ≤ (rowVs l).length := by
 induction l with
 | nil => simp [rowVs]
 | cons v l ih =>
  have h1 := vB_len (h v List.mem_cons_self)
  have h2 := ih fun x hx => h x (List.mem_cons_of_mem _ hx)
  simp only [rowVs, List.flatMap_cons, List.length_append, List.length_cons] at *
  omega
theorem rowVs_bytes (l : List V) (h : ∀ v ∈ l, okV v) : Bytes (rowVs l) := by
 induction l with
 | nil => exact Bytes.nil
 | cons v l ih =>
  simp only [rowVs, List.flatMap_cons]
  exact (sVB_bytes (h v List.mem_cons_self)).append (ih fun x hx => h x (List.mem_cons_of_mem _ hx))
theorem rowBytes_l0 (l : List V) (hl : l.length ≤ 1000) (ho : ∀ v ∈ l, okV v) (m : List V) : ∀ (k i : Nat) (out : List Int), l.drop i = m → out.length + m.length * 26 ≤ 1000000 → m.length + 40 ≤ k →
    row_Bytes.l0 k out l (l.length : Int) (i : Int) = some (out ++ rowVs m, 0) := by
  induction m with
  | nil =>
    intro k i out h hb hk
    obtain ⟨k, rfl⟩ : ∃ j, k = j + 1 := ⟨k - 1, by omega⟩
    have := dI h
    simp only [row_Bytes.l0]
    rw [if_neg z3_]; simp [rowVs]
  | cons v m ih =>
    intro k i out h hb hk
    obtain ⟨k, rfl⟩ : ∃ j, k = j + 1 := ⟨k - 1, by omega⟩
    have hi := dO h
    have hv : okV v := ho v (by have : v ∈ l.drop i := by rw [h]; exact List.mem_cons_self
                                exact List.mem_of_mem_drop this)
    have hvl := vB_len hv
    simp only [List.length_cons] at hb hk
    simp only [row_Bytes.l0]
    rw [if_pos z3_, if_pos z3_, if_pos z3_, gN h, vbytes_eq _ _ _ _ z3_, if_pos (show vOk v.f0 v.f1 v.f2 from hv), Option.bind_some]
    simp only
    rw [if_pos (by show out.length + (vB v).length < _; omega), w64 z3_ z3_]
    have := ih k (i + 1) (out ++ vB v) (cM h) (by rw [List.length_append]; omega) z3_
    rw [show ((i : Int) + 1) = ((i + 1 : Nat) : Int) from rfl]
    refine Eq.trans this ?_
    simp [rowVs]
theorem rowBytes_eq (k : Nat) (l : List V) (hl : l.length ≤ 1000000) (hk : l.length + 60 ≤ k) : row_Bytes.f k l = some (if rowE l = 0 then (rowB l, 0) else ([], rowE l)) := by
 unfold row_Bytes.f
 rw [rcheck_eq k l hl z3_, Option.bind_some]
 by_cases h : rowE l = 0
 rotate_left
 ·
  rw [if_neg h, if_neg h]
 obtain ⟨h1, h2⟩ := (gO l).1 h
 have hz := rowBytes_l0 l z3_ h2 l k 0 [((l.length : Int)) % 256] rfl (by rw [List.length_singleton]; omega) z3_
 rw [show ((0 : Nat) : Int) = 0 from rfl] at hz
 rw [if_pos h, if_pos h, hz]
 have : (l.length : Int) % 256 = l.length := by omega
 rw [this]; rfl
theorem rrowBytes_l0 (l : List V) (hl : l.length ≤ 1000) (ho : ∀ v ∈ l, okV v) (m : List V) : ∀ (k i : Nat) (out : List Int), l.drop i = m → out.length + m.length * 26 ≤ 1000000 → m.length + 40 ≤ k →
    bC.l0 k l out (i : Int) = some (out ++ rowVs m) := by
  induction m with
  | nil =>
    intro k i out h hb hk
    obtain ⟨k, rfl⟩ : ∃ j, k = j + 1 := ⟨k - 1, by omega⟩
    have := dI h
    simp only [bC.l0]
    rw [if_neg z3_]; simp [rowVs]
  | cons v m ih =>
    intro k i out h hb hk
    obtain ⟨k, rfl⟩ : ∃ j, k = j + 1 := ⟨k - 1, by omega⟩
    have hi := dO h
    have hv : okV v := ho v (by have : v ∈ l.drop i := by rw [h]; exact List.mem_cons_self
                                exact List.mem_of_mem_drop this)
    have hvl := vB_len hv
    simp only [List.length_cons] at hb hk
    simp only [bC.l0]
    rw [if_pos z3_, if_pos z3_, gN h, rvbytes_eq _ _ _ _ hv z3_, Option.bind_some]
    rw [if_pos (by show out.length + (vB v).length < _; omega), w64 z3_ z3_]
    have := ih k (i + 1) (out ++ vB v) (cM h) (by rw [List.length_append]; omega) z3_
    rw [show ((i : Int) + 1) = ((i + 1 : Nat) : Int) from rfl]
    refine Eq.trans this ?_
    simp [rowVs]
theorem rrowBytes_eq (k : Nat) (l : List V) (ho : rowE l = 0) (hk : 80 ≤ k) : bC.f k l = some (rowB l) := by
 obtain ⟨h1, h2⟩ := (gO l).1 ho
 unfold bC.f
 have := rrowBytes_l0 l z3_ h2 l k 0 [((l.length : Int)) % 256] rfl (by simp; omega) z3_
 rw [show ((0 : Nat) : Int) = 0 from rfl] at this
 rw [this]
 have : (l.length : Int) % 256 = l.length := by omega
 rw [this]; rfl
def vals (l : List Int) : Nat → Int → List V → List V × Int × Int
 | 0, at_, acc => (acc, at_, 0)
 | n + 1, at_, acc => if (sVRead l at_).2.2.2.2 = 0 then vals l n (sVRead l at_).2.2.2.1 (acc ++ [⟨(sVRead l at_).1, (sVRead l at_).2.1, (sVRead l at_).2.2.1⟩]) else ([], 0, 3)
def sRowRead (l : List Int) (at_ : Int) : List V × Int × Int :=
 if 0 ≤ at_ ∧ at_ ≤ l.length then (if at_ = l.length ∨ rd l at_ > 12 then ([], 0, 3) else vals l (rd l at_).toNat (at_ + 1) []) else ([], 0, 1)
theorem rowRead_l0 (l : List Int) (hb : Bytes l) (hl : l.length ≤ 1000000) (many : Nat) (hm : many ≤ 12) (n : Nat) : ∀ (k : Nat) (at_ : Int) (acc : List V), n ≤ many → 0 ≤ at_ → at_ ≤ l.length → acc.length + n ≤ 100 → n + 40 ≤ k →
  row_Read.l0 k l acc at_ (many : Int) ((many - n : Nat) : Int) = some (vals l n at_ acc) := by
 induction n with
 | zero =>
  intro k at_ acc hn h0 h1 ha hk
  obtain ⟨k, rfl⟩ : ∃ j, k = j + 1 := ⟨k - 1, by omega⟩
  simp only [row_Read.l0]
  rw [if_neg z3_]; rfl
 | succ n ih =>
  intro k at_ acc hn h0 h1 ha hk
  obtain ⟨k, rfl⟩ : ∃ j, k = j + 1 := ⟨k - 1, by omega⟩
  simp only [row_Read.l0, vals]
  rw [if_pos z3_, vread_eq _ _ _ hb hl z3_ z3_, Option.bind_some]
  by_cases hz : (sVRead l at_).2.2.2.2 = 0
  rotate_left
  ·
   rw [if_neg hz, if_neg hz]
  obtain ⟨_, _, h3, h4, _⟩ := vread_sub hb hz
  rw [if_pos hz, if_pos hz, if_pos z3_, w64 z3_ z3_, show (((many - (n + 1) : Nat) : Int) + 1) = ((many - n : Nat) : Int) from by omega]
  exact ih k _ _ z3_ z3_ h4 (by rw [List.length_append, List.length_singleton]; omega) z3_
theorem rowRead_eq (k : Nat) (l : List Int) (at_ : Int) (hb : Bytes l) (hl : l.length ≤ 1000000) (ha : at_ ≤ 9223372036854775807) (hk : 80 ≤ k) : row_Read.f k l at_ = some (sRowRead l at_) := by
 unfold row_Read.f sRowRead
 rw [get_eq _ _ _ _ hb hl ha z3_, Option.bind_some, sGet_one]
 by_cases h : 0 ≤ at_ ∧ at_ ≤ l.length
 rotate_left
 ·
  rw [if_neg h, if_neg h, if_neg z5_]
 rw [if_pos h, if_pos h]
 have hr := hb.rd at_
 unfold Byte at hr
 by_cases h2 : at_ = l.length
 ·
  rw [if_pos h2, if_neg (show ¬ (((0, 0, 3) : Int × Int × Int).2.2 = 0) by decide), if_pos (Or.inl h2)]
 rw [if_neg h2]
 simp only
 rw [if_pos trivial]
 by_cases h3 : rd l at_ > 12
 ·
  rw [if_pos h3, if_pos (Or.inr h3)]
 rw [if_neg h3, if_neg z3_]
 have := rowRead_l0 l hb hl (rd l at_).toNat z3_ (rd l at_).toNat k (at_ + 1) [] z3_ z3_ z3_ (by simp; omega) z3_
 rw [Nat.sub_self, Int.toNat_of_nonneg hr.1] at this
 exact this
end Go.Proofs.YtjnjfogfpmeacaaGreat.Plain
end
section
namespace Go.Proofs.YtjnjfogfpmeacaaGreat.Plain
open Go.RowKit PAll PrintWords PrintLast PrintMore ZipT PrintWords.Kd PrintMore.Kd
set_option linter.unusedVariables false
set_option linter.unusedSimpArgs false
def fitsL : List V → List Int → Bool
 | [], [] => true
 | v :: l, t :: m => decide (vFits v.f0 v.f1 v.f2 t) && fitsL l m
 | _, _ => false
theorem fitsL_len {l : List V} {m : List Int} (h : fitsL l m = true) : l.length = m.length := by
 induction l generalizing m with
 | nil => cases m with
  | nil => rfl
  | cons t m => cases h
 | cons v l ih => cases m with
  | nil => cases h
  | cons t m => simp only [fitsL, Bool.and_eq_true] at h; simp [ih h.2]
theorem equal_l0 (a : List V) (b : List Int) (ha : a.length ≤ 1000000) (hl : a.length = b.length) (m : List V) : ∀ (k i : Nat), a.drop i = m → m.length < k →
  bI.l0 k b a (a.length : Int) (i : Int) = some (fitsL m (b.drop i)) := by
 induction m with
 | nil =>
  intro k i h hk
  obtain ⟨k, rfl⟩ : ∃ j, k = j + 1 := ⟨k - 1, by omega⟩
  have h1 := dI h
  simp only [bI.l0]
  rw [if_neg z3_, List.drop_eq_nil_iff.2 z3_]; rfl
 | cons v m ih =>
  intro k i h hk
  obtain ⟨k, rfl⟩ : ∃ j, k = j + 1 := ⟨k - 1, by omega⟩
  have h1 := dO h
  simp only [bI.l0]
  cases hd : b.drop i with
  | nil => have h2 := dI hd; omega
  | cons t n =>
   rw [if_pos z3_, if_pos z3_, if_pos z3_, if_pos z3_, gN h, jK hd, fits_eq, Option.bind_some, w64 z3_ z3_]
   simp only [fitsL]
   by_cases hz : vFits v.f0 v.f1 v.f2 t
   rotate_left
   ·
    rw [decide_eq_false hz, if_neg z5_, Bool.false_and]
   rw [decide_eq_true hz, if_pos rfl, Bool.true_and, ← cM hd]
   exact ih k (i + 1) (cM h) (by simp at hk; omega)
theorem fitsL_ne {l : List V} {m : List Int} (h : l.length ≠ m.length) : fitsL l m = false := by
 cases hz : fitsL l m
 ·
  rfl
 ·
  exact absurd (fitsL_len hz) h
theorem rowFits_eq (k : Nat) (a : List V) (b : List Int) (ha : a.length ≤ 1000000) (hk : a.length + 1 ≤ k) : hH.f k a b = some (fitsL a b) := by
 unfold hH.f bI.f
 by_cases hl : (a.length : Int) = b.length
 rotate_left
 ·
  rw [if_neg hl, fitsL_ne z3_]; rfl
 rw [if_pos hl]
 have := equal_l0 a b ha z3_ a k 0 rfl z3_
 rw [show ((0 : Nat) : Int) = 0 from rfl] at this
 rw [this]; rfl
theorem keepRow_l0 (a b : List V) (ha : a.length ≤ 1000000) (hl : a.length = b.length) (m : List V) : ∀ (k i : Nat), a.drop i = m → m.length < k →
  bU.l0 k a b (i : Int) = some (decide (m = b.drop i)) := by
 induction m with
 | nil =>
  intro k i h hk
  obtain ⟨k, rfl⟩ : ∃ j, k = j + 1 := ⟨k - 1, by omega⟩
  have h1 := dI h
  simp only [bU.l0]
  rw [if_neg z3_, List.drop_eq_nil_iff.2 z3_]; simp
 | cons v m ih =>
  intro k i h hk
  obtain ⟨k, rfl⟩ : ∃ j, k = j + 1 := ⟨k - 1, by omega⟩
  have h1 := dO h
  simp only [bU.l0]
  cases hd : b.drop i with
  | nil => have h2 := dI hd; omega
  | cons t n =>
   rw [if_pos z3_, if_pos z3_, if_pos z3_, gN h, gN hd, keepValue_eq, Option.bind_some, w64 z3_ z3_]
   by_cases hz : v.f0 = t.f0 ∧ v.f1 = t.f1 ∧ v.f2 = t.f2
   rotate_left
   ·
    have hv : v ≠ t := fun e => hz (by subst e; exact ⟨rfl, rfl, rfl⟩)
    rw [decide_eq_false hz, if_neg z5_]
    simp [hv]
   have hv : v = t := V_ext hz.1 hz.2.1 hz.2.2
   have := ih k (i + 1) (cM h) (by simp at hk; omega)
   rw [decide_eq_true hz, if_pos rfl, show ((i : Int) + 1) = ((i + 1 : Nat) : Int) from rfl, this, cM hd, hv]
   simp
theorem keepRow_eq (k : Nat) (a b : List V) (ha : a.length ≤ 1000000) (hk : a.length + 1 ≤ k) : bU.f k a b = some (decide (a = b)) := by
 unfold bU.f
 by_cases hl : (a.length : Int) = b.length
 rotate_left
 ·
  rw [if_neg hl, decide_eq_false (fun e => hl (by rw [e]))]
 rw [if_pos hl]
 exact keepRow_l0 a b ha z3_ a k 0 rfl z3_
theorem keepInts_l0 (a b : List Int) (ha : a.length ≤ 1000000) (hl : a.length = b.length) (m : List Int) : ∀ (k i : Nat), a.drop i = m → m.length < k →
  bR.l0 k a b (i : Int) = some (decide (m = b.drop i)) := by
 induction m with
 | nil =>
  intro k i h hk
  obtain ⟨k, rfl⟩ : ∃ j, k = j + 1 := ⟨k - 1, by omega⟩
  have h1 := dI h
  simp only [bR.l0]
  rw [if_neg z3_, List.drop_eq_nil_iff.2 z3_]; simp
 | cons v m ih =>
  intro k i h hk
  obtain ⟨k, rfl⟩ : ∃ j, k = j + 1 := ⟨k - 1, by omega⟩
  have h1 := dO h
  simp only [bR.l0]
  cases hd : b.drop i with
  | nil => have h2 := dI hd; omega
  | cons t n =>
   rw [if_pos z3_, if_pos z3_, if_pos z3_, jK h, jK hd, w64 z3_ z3_]
   by_cases hz : v = t
   rotate_left
   ·
    rw [if_neg hz]
    simp [hz]
   have := ih k (i + 1) (cM h) (by simp at hk; omega)
   rw [if_pos hz, show ((i : Int) + 1) = ((i + 1 : Nat) : Int) from rfl, this, cM hd, hz]
   simp
theorem keepInts_eq (k : Nat) (a b : List Int) (ha : a.length ≤ 1000000) (hk : a.length + 1 ≤ k) : bR.f k a b = some (decide (a = b)) := by
 unfold bR.f
 by_cases hl : (a.length : Int) = b.length
 rotate_left
 ·
  rw [if_neg hl, decide_eq_false (fun e => hl (by rw [e]))]
 rw [if_pos hl]
 exact keepInts_l0 a b ha z3_ a k 0 rfl z3_
def heavy (l : List V) : Bool := decide ((l.length : Int) > 40) || l.any isLong
theorem heavy_eq (k : Nat) (l : List V) (hk : 60 ≤ k) : eC.f k l = some (heavy l) := by
 unfold eC.f heavy
 by_cases h : (l.length : Int) > 40
 ·
  rw [if_pos h, decide_eq_true h]; rfl
 rw [if_neg h, decide_eq_false h, long_eq _ _ z3_ z3_]; rfl
theorem heavy_len {l : List V} (h : ¬ heavy l = true) : l.length ≤ 40 := by
 unfold heavy at h
 simp at h
 omega
end Go.Proofs.YtjnjfogfpmeacaaGreat.Plain
end
section
namespace Go.Proofs.YtjnjfogfpmeacaaGreat.Plain
open Go.RowKit PAll PrintWords PrintLast PrintMore ZipT PrintWords.Kd PrintMore.Kd
set_option linter.unusedVariables false
set_option linter.unusedSimpArgs false
theorem rowB_bytes {l : List V} (h : rowE l = 0) : Bytes (rowB l) := by
 obtain ⟨h1, h2⟩ := (gO l).1 h
 exact Bytes.cons ⟨by omega, by omega⟩ (rowVs_bytes l h2)
theorem rowB_len {l : List V} (h : rowE l = 0) : (rowB l).length ≤ 400 := by
 obtain ⟨h1, h2⟩ := (gO l).1 h
 have := rowVs_len l h2
 simp only [rowB, List.length_cons]; omega
theorem vals_put (m : List V) : ∀ (pre c : List Int) (acc : List V), (∀ v ∈ m, okV v) → vals (pre ++ rowVs m ++ c) m.length pre.length acc = (acc ++ m, ((pre ++ rowVs m).length : Int), 0) := by
 induction m with
 | nil => intro pre c acc h; simp [vals, rowVs]
 | cons v m ih =>
  intro pre c acc h
  have hv := h v List.mem_cons_self
  have e : pre ++ rowVs (v :: m) ++ c = pre ++ sVB v.f0 v.f1 v.f2 ++ (rowVs m ++ c) := by simp [rowVs, vB]
  have g := vread_put pre (rowVs m ++ c) v.f0 v.f1 v.f2 hv
  rw [← e] at g
  simp only [List.length_cons, vals]
  rw [g, if_pos rfl]
  have e2 : pre ++ rowVs (v :: m) ++ c = (pre ++ vB v) ++ rowVs m ++ c := by simp [rowVs]
  have := ih (pre ++ vB v) c (acc ++ [v]) (fun x hx => h x (List.mem_cons_of_mem _ hx))
  rw [← e2, List.length_append] at this
  simp only
  show vals _ m.length ((pre.length : Int) + ((vB v).length : Int)) (acc ++ [v]) = _
  rw [show ((pre.length : Int) + ((vB v).length : Int)) = ((pre.length + (vB v).length : Nat) : Int) from rfl, this]
  simp [rowVs]
end Go.Proofs.YtjnjfogfpmeacaaGreat.Plain
end
section
namespace Go.Proofs.YtjnjfogfpmeacaaGreat.Plain
open Go.RowKit PAll PrintWords PrintLast PrintMore ZipT PrintWords.Kd PrintMore.Kd
set_option linter.unusedVariables false
set_option linter.unusedSimpArgs false
theorem sub_sub (l : List Int) (a b c : Nat) (h1 : a ≤ b) (h2 : b ≤ c) (h3 : c ≤ l.length) : sub l a b ++ sub l b c = sub l a c := by
 unfold sub
 have e : l.take b = (l.take c).take b := by rw [List.take_take, Nat.min_eq_left h2]
 rw [e]
 generalize l.take c = x
 rw [List.drop_take]
 have : x.drop b = (x.drop a).drop (b - a) := by rw [List.drop_drop]; congr 1; omega
 rw [this, List.take_append_drop]
theorem vals_sub (l : List Int) (hb : Bytes l) (n : Nat) : ∀ (at_ : Int) (acc : List V), 0 ≤ at_ → at_ ≤ l.length → (vals l n at_ acc).2.2 = 0 →
  ∃ m : List V, (vals l n at_ acc).1 = acc ++ m ∧ m.length = n ∧ (∀ v ∈ m, okV v) ∧ at_ ≤ (vals l n at_ acc).2.1 ∧ (vals l n at_ acc).2.1 ≤ l.length ∧ rowVs m = sub l at_.toNat (vals l n at_ acc).2.1.toNat := by
 induction n with
 | zero =>
  intro at_ acc h0 h1 h
  refine ⟨[], by simp [vals], rfl, by simp, Int.le_refl _, h1, ?_⟩
  symm; apply List.eq_nil_of_length_eq_zero
  simp only [vals]
  rw [fP z3_]; omega
 | succ n ih =>
  intro at_ acc h0 h1 h
  simp only [vals] at h ⊢
  by_cases hz : (sVRead l at_).2.2.2.2 = 0
  rotate_left
  ·
   rw [if_neg hz] at h; simp at h
  rw [if_pos hz] at h ⊢
  obtain ⟨ho, g0, g1, g2, g3⟩ := vread_sub hb hz
  obtain ⟨m, e1, e2, e3, e4, e5, e6⟩ := ih (sVRead l at_).2.2.2.1 (acc ++ [⟨(sVRead l at_).1, (sVRead l at_).2.1, (sVRead l at_).2.2.1⟩]) z3_ g2 h
  refine ⟨⟨(sVRead l at_).1, (sVRead l at_).2.1, (sVRead l at_).2.2.1⟩ :: m, by rw [e1]; simp, by simp [e2], ?_, by omega, e5, ?_⟩
  ·
   intro v hv
   rcases List.mem_cons.1 hv with rfl | hv
   ·
    exact ho
   ·
    exact e3 v hv
  ·
   have hs : rowVs ((⟨(sVRead l at_).1, (sVRead l at_).2.1, (sVRead l at_).2.2.1⟩ : V) :: m) = sVB (sVRead l at_).1 (sVRead l at_).2.1 (sVRead l at_).2.2.1 ++ rowVs m := by simp [rowVs, vB]
   rw [hs, g3, e6]
   exact sub_sub l _ _ _ z3_ z3_ z3_
end Go.Proofs.YtjnjfogfpmeacaaGreat.Plain
end
section
namespace Go.Proofs.YtjnjfogfpmeacaaGreat.Ops
open Go.RowKit PAll Plain PrintWords ZipT PrintWords.Kd PrintMore.Kd
set_option linter.unusedVariables false
set_option linter.unusedSimpArgs false
abbrev Ox := S31
abbrev Dt := S24
abbrev St := S27
abbrev Wr := List Int × Bool
def wAdd (s : Wr) (r : List Int × Int) : Wr := (s.1 ++ r.1, s.2 || decide (r.2 ≠ 0))
def wNum (n size : Int) (s : Wr) : Wr := wAdd s (sPut [] n size)
def wText (t : ByteArray) (s : Wr) : Wr := wAdd s (sPutText [] t)
def wOr (b : Bool) (s : Wr) : Wr := (s.1, s.2 || b)
def wAll {α : Type} (f : α → Wr → Wr) : List α → Wr → Wr
 | [], s => s
 | x :: l, s => wAll f l (f x s)
def wNums (l : List Int) (s : Wr) : Wr := wAll (fun n => wNum n 4) l (wNum l.length 1 (wOr (decide (l.length > 5)) s))
def wStamp (t : St) (s : Wr) : Wr := wNum t.f2 1 (wNum t.f1 3 (wNum t.f0 6 s))
def wDot (d : Dt) (s : Wr) : Wr := wNum d.f1 4 (wNum d.f0 1 s)
def wRow (l : List V) (s : Wr) : Wr := wAdd s (if rowE l = 0 then (rowB l, 0) else ([], rowE l))
def wHead (x : Ox) (s : Wr) : Wr := wNum x.f6 1 (wText x.f5 (wNum x.f4 1 (wStamp x.f2 (wNums x.f1 (wDot x.f0 (wNum x.f3 1 s))))))
def wOp (x : Ox) (s : Wr) : Wr := wAll wDot x.f8 (wNum x.f8.length 1 (wOr (decide (x.f8.length > 64)) (wRow x.f7 (wHead x s))))
def sOpBytes (x : Ox) : List Int × Int := if (wOp x ([], false)).2 = true then ([], 1) else ((wOp x ([], false)).1, 0)
abbrev Rr := Int × Bool
def rOf {α : Type} (z : α) (g : α × Int × Int) (r : Rr) : α × Rr := if r.2 = true ∨ g.2.2 ≠ 0 then (z, (r.1, true)) else (g.1, (g.2.1, false))
def rNum (size : Int) (l : List Int) (r : Rr) : Int × Rr := rOf 0 (sGet l r.1 size) r
def rText (l : List Int) (r : Rr) : ByteArray × Rr := rOf ⟨#[]⟩ (sGetText l r.1) r
def rRow (l : List Int) (r : Rr) : List V × Rr := rOf [] (sRowRead l r.1) r
def rMany (size most : Int) (l : List Int) (r : Rr) : Int × Rr := if (rNum size l r).1 > most then (0, ((rNum size l r).2.1, true)) else rNum size l r
def rTimes {α : Type} (f : List Int → Rr → α × Rr) (l : List Int) : Nat → List α → Rr → List α × Rr
 | 0, acc, r => (acc, r)
 | n + 1, acc, r => rTimes f l n (acc ++ [(f l r).1]) (f l r).2
def rNums (l : List Int) (r : Rr) : List Int × Rr := rTimes (rNum 4) l (rMany 1 5 l r).1.toNat [] (rMany 1 5 l r).2
def rStamp (l : List Int) (r : Rr) : St × Rr :=
 (⟨(rNum 6 l r).1, (rNum 3 l (rNum 6 l r).2).1, (rNum 1 l (rNum 3 l (rNum 6 l r).2).2).1⟩, (rNum 1 l (rNum 3 l (rNum 6 l r).2).2).2)
def rDot (l : List Int) (r : Rr) : Dt × Rr := (⟨(rNum 1 l r).1, (rNum 4 l (rNum 1 l r).2).1⟩, (rNum 4 l (rNum 1 l r).2).2)
def rDots (l : List Int) (r : Rr) : List Dt × Rr := rTimes rDot l (rMany 1 64 l r).1.toNat [] (rMany 1 64 l r).2
def zOp : Ox := ⟨⟨0, 0⟩, [], ⟨0, 0, 0⟩, 0, 0, ⟨#[]⟩, 0, [], []⟩
def rHead (l : List Int) (r : Rr) : Ox × Rr :=
 let a := rNum 1 l r
 let b := rDot l a.2
 let c := rNums l b.2
 let d := rStamp l c.2
 let e := rNum 1 l d.2
 let f := rText l e.2
 let g := rNum 1 l f.2
 (⟨b.1, c.1, d.1, a.1, e.1, f.1, g.1, [], []⟩, g.2)
def rOp (l : List Int) (r : Rr) : Ox × Rr :=
 if (rRow l (rHead l r).2).2.2 = true then (zOp, (rRow l (rHead l r).2).2)
 else ({ (rHead l r).1 with f7 := (rRow l (rHead l r).2).1, f8 := (rDots l (rRow l (rHead l r).2).2).1 }, (rDots l (rRow l (rHead l r).2).2).2)
def sOpRead (l : List Int) (at_ : Int) : Ox × Int × Int :=
 if at_ < 0 ∨ at_ > l.length then (zOp, 0, 1)
 else if (rOp l (at_, false)).2.2 = true then (zOp, 0, 3) else ((rOp l (at_, false)).1, (rOp l (at_, false)).2.1, 0)
end Go.Proofs.YtjnjfogfpmeacaaGreat.Ops
end
section
namespace Go.Proofs.YtjnjfogfpmeacaaGreat.Ops
open Go.RowKit PAll Plain PrintWords ZipT PrintWords.Kd PrintMore.Kd
set_option linter.unusedVariables false
set_option linter.unusedSimpArgs false
section
variable {α β : Type}
structure Writes (f : α → Wr → Wr) (enc : α → List Int) (fit : α → Prop) : Prop where
 ok : ∀ x s, fit x → f x s = (s.1 ++ enc x, s.2)
 no : ∀ x s, ¬ fit x → (f x s).2 = true
 stay : ∀ x s, s.2 = true → (f x s).2 = true
theorem Writes.comp {γ : Type} {f : α → Wr → Wr} {g : β → Wr → Wr} {e : α → List Int} {e' : β → List Int} {p : α → Prop} {p' : β → Prop} (hf : Writes f e p) (hg : Writes g e' p') (a : γ → α) (b : γ → β) :
  Writes (fun x s => g (b x) (f (a x) s)) (fun x => e (a x) ++ e' (b x)) (fun x => p (a x) ∧ p' (b x)) where
 ok := fun x s h => by rw [hf.ok _ _ h.1, hg.ok _ _ h.2, List.append_assoc]
 no := fun x s h => by
  by_cases h1 : p (a x)
  ·
   exact hg.no _ _ (fun e => h ⟨h1, e⟩)
  ·
   exact hg.stay _ _ (hf.no _ _ h1)
 stay := fun x s h => hg.stay _ _ (hf.stay _ _ h)
theorem Writes.all {f : α → Wr → Wr} {e : α → List Int} {p : α → Prop} (hf : Writes f e p) : Writes (wAll f) (fun l => l.flatMap e) (fun l => ∀ x ∈ l, p x) where
 ok := fun l => by
  induction l with
  | nil => intro s _; simp [wAll]
  | cons x l ih =>
   intro s h
   rw [wAll, hf.ok _ _ (h x List.mem_cons_self), ih _ (fun y hy => h y (List.mem_cons_of_mem _ hy)), List.flatMap_cons, List.append_assoc]
 no := fun l => by
  induction l with
  | nil => intro s h; exact absurd (fun x hx => by cases hx) h
  | cons x l ih =>
   intro s h
   rw [wAll]
   by_cases h1 : ∀ y ∈ l, p y
   ·
    have h2 : ¬ p x := fun e => h (fun y hy => by rcases List.mem_cons.1 hy with rfl | hy; exact e; exact h1 y hy)
    have : ∀ (l : List α) (s : Wr), s.2 = true → (wAll f l s).2 = true := fun l => by
     induction l with
     | nil => intro s h; exact h
     | cons y l ih => intro s h; rw [wAll]; exact ih _ (hf.stay _ _ h)
    exact this l _ (hf.no _ _ h2)
   ·
    exact ih _ h1
 stay := fun l => by
  induction l with
  | nil => intro s h; exact h
  | cons y l ih => intro s h; rw [wAll]; exact ih _ (hf.stay _ _ h)
theorem Writes.or (c : α → Prop) [DecidablePred c] : Writes (fun x => wOr (decide (c x))) (fun _ => []) (fun x => ¬ c x) where
 ok := fun x s h => by unfold wOr; rw [decide_eq_false h]; simp
 no := fun x s h => by unfold wOr; rw [decide_eq_true (Classical.not_not.1 h)]; simp
 stay := fun x s h => by unfold wOr; rw [h]; rfl
theorem Writes.congr {f : α → Wr → Wr} {e e' : α → List Int} {p p' : α → Prop} (hf : Writes f e p) (he : ∀ x, p x → e x = e' x) (hp : ∀ x, p x ↔ p' x) : Writes f e' p' where
 ok := fun x s h => by rw [hf.ok _ _ ((hp x).2 h), he x ((hp x).2 h)]
 no := fun x s h => hf.no _ _ (fun e => h ((hp x).1 e))
 stay := hf.stay
def fitN (s : Nat) (n : Int) : Prop := 0 ≤ n ∧ n < 256 ^ s
instance (s : Nat) (n : Int) : Decidable (fitN s n) := by unfold fitN; infer_instance
theorem Writes.num (s : Nat) (h1 : 1 ≤ s) (h7 : s ≤ 7) : Writes (fun n => wNum n (s : Int)) (fun n => big n s) (fitN s) where
 ok := fun n t h => by
  unfold wNum wAdd sPut
  rw [if_pos ⟨by omega, by omega, h.1, by rw [Int.toNat_natCast]; exact h.2⟩, Int.toNat_natCast]
  simp
 no := fun n t h => by
  unfold wNum wAdd sPut
  rw [if_neg (fun e => h ⟨e.2.2.1, by have := e.2.2.2; rwa [Int.toNat_natCast] at this⟩)]
  simp
 stay := fun n t h => by unfold wNum wAdd; rw [h]; rfl
def encT (t : ByteArray) : List Int := (t.size : Int) :: bytesOf t
theorem Writes.text : Writes wText encT (fun t => t.size ≤ 24) where
 ok := fun t s h => by unfold wText wAdd sPutText; rw [if_pos h]; simp [encT]
 no := fun t s h => by unfold wText wAdd sPutText; rw [if_neg h]; simp
 stay := fun t s h => by unfold wText wAdd; rw [h]; rfl
theorem Writes.row : Writes wRow rowB (fun l => rowE l = 0) where
 ok := fun l s h => by unfold wRow wAdd; rw [if_pos h]; simp
 no := fun l s h => by unfold wRow wAdd; rw [if_neg h]; simp [h]
 stay := fun l s h => by unfold wRow wAdd; rw [h]; rfl
structure Reads (f : List Int → Rr → α × Rr) (enc : α → List Int) (fit : α → Prop) : Prop where
 bad : ∀ (l : List Int) (r : Rr), r.2 = true → (f l r).2.2 = true
 place : ∀ (l : List Int) (r : Rr), Bytes l → 0 ≤ r.1 → r.1 ≤ l.length → 0 ≤ (f l r).2.1 ∧ (f l r).2.1 ≤ l.length
 got : ∀ (l : List Int) (r : Rr), Bytes l → 0 ≤ r.1 → r.1 ≤ l.length → (f l r).2.2 = false → fit (f l r).1 ∧ r.1 ≤ (f l r).2.1 ∧ enc (f l r).1 = sub l r.1.toNat (f l r).2.1.toNat
 put : ∀ (a c : List Int) (x : α), fit x → f (a ++ enc x ++ c) (a.length, false) = (x, ((a.length : Int) + (enc x).length, false))
theorem Reads.good {f : List Int → Rr → α × Rr} {e : α → List Int} {p : α → Prop} (hf : Reads f e p) {l : List Int} {r : Rr} (h : (f l r).2.2 = false) : r.2 = false := by
 cases hr : r.2
 ·
  rfl
 ·
  rw [hf.bad l r hr] at h; cases h
theorem Reads.comp {f : List Int → Rr → α × Rr} {g : List Int → Rr → β × Rr} {e : α → List Int} {e' : β → List Int} {p : α → Prop} {p' : β → Prop} (hf : Reads f e p) (hg : Reads g e' p') :
  Reads (fun l r => (((f l r).1, (g l (f l r).2).1), (g l (f l r).2).2)) (fun x => e x.1 ++ e' x.2) (fun x => p x.1 ∧ p' x.2) where
 bad := fun l r h => hg.bad _ _ (hf.bad _ _ h)
 place := fun l r hb h0 h1 => by
  obtain ⟨a, b⟩ := hf.place l r hb h0 h1
  exact hg.place l _ hb a b
 got := fun l r hb h0 h1 h => by
  have h : (g l (f l r).2).2.2 = false := h
  have hz := hg.good h
  obtain ⟨a, b⟩ := hf.place l r hb h0 h1
  obtain ⟨f1, f2, f3⟩ := hf.got l r hb h0 h1 hz
  obtain ⟨g1, g2, g3⟩ := hg.got l _ hb a b h
  obtain ⟨c, d⟩ := hg.place l _ hb a b
  refine ⟨⟨f1, g1⟩, Int.le_trans f2 g2, ?_⟩
  show e _ ++ e' _ = _
  rw [f3, g3]
  exact sub_sub l _ _ _ z3_ z3_ z3_
 put := fun a c x h => by
  have h1 := hf.put a (e' x.2 ++ c) x.1 h.1
  have h2 := hg.put (a ++ e x.1) c x.2 h.2
  have e1 : a ++ (e x.1 ++ e' x.2) ++ c = a ++ e x.1 ++ (e' x.2 ++ c) := by simp
  have e2 : a ++ (e x.1 ++ e' x.2) ++ c = a ++ e x.1 ++ e' x.2 ++ c := by simp
  have e3 : ((a.length : Int) + (e x.1).length) = ((a ++ e x.1).length : Int) := by simp
  have h1' : f (a ++ (e x.1 ++ e' x.2) ++ c) (a.length, false) = (x.1, (((a ++ e x.1).length : Int), false)) := by rw [e1, h1, e3]
  have h2' : g (a ++ (e x.1 ++ e' x.2) ++ c) ((a ++ e x.1).length, false) = (x.2, (((a ++ e x.1).length : Int) + (e' x.2).length, false)) := by rw [e2, h2]
  show ((( f _ _).1, (g _ (f _ _).2).1), (g _ (f _ _).2).2) = _
  rw [h1', h2']
  simp only [List.length_append]
  have : ((a.length + (e x.1).length : Nat) : Int) + (e' x.2).length = (a.length : Int) + ((e x.1).length + (e' x.2).length : Nat) := by omega
  rw [this]
theorem Reads.map {f : List Int → Rr → α × Rr} {e : α → List Int} {p : α → Prop} (hf : Reads f e p) (mk : α → β) (un : β → α) (h1 : ∀ x, un (mk x) = x) (h2 : ∀ y, mk (un y) = y) :
  Reads (fun l r => (mk (f l r).1, (f l r).2)) (fun y => e (un y)) (fun y => p (un y)) where
 bad := fun l r h => hf.bad _ _ h
 place := fun l r hb h0 h1 => hf.place l r hb h0 h1
 got := fun l r hb ha hc h => by
  have := hf.got l r hb ha hc h
  show p (un (mk _)) ∧ _ ∧ e (un (mk _)) = _
  rw [h1]; exact this
 put := fun a c y h => by
  show (mk (f _ _).1, (f _ _).2) = _
  rw [hf.put a c (un y) h, h2]
theorem Reads.congr {f f' : List Int → Rr → α × Rr} {e e' : α → List Int} {p p' : α → Prop} (hf : Reads f e p) (hF : ∀ l r, f' l r = f l r) (he : ∀ x, p x → e x = e' x) (hp : ∀ x, p x ↔ p' x) : Reads f' e' p' where
 bad := fun l r h => by rw [hF]; exact hf.bad _ _ h
 place := fun l r hb h0 h1 => by rw [hF]; exact hf.place l r hb h0 h1
 got := fun l r hb ha hc h => by
  rw [hF] at h ⊢
  obtain ⟨a, b, c⟩ := hf.got l r hb ha hc h
  exact ⟨(hp _).1 a, b, by rw [← he _ a]; exact c⟩
 put := fun a c x h => by
  have h' := (hp x).2 h
  rw [hF, ← he x h']; exact hf.put a c x h'
theorem Reads.of {z : α} {g : List Int → Int → α × Int × Int} {e : α → List Int} {p : α → Prop}
  (hs : ∀ l at_, Bytes l → (g l at_).2.2 = 0 → 0 ≤ at_ ∧ p (g l at_).1 ∧ at_ ≤ (g l at_).2.1 ∧ (g l at_).2.1 ≤ l.length ∧ e (g l at_).1 = sub l at_.toNat (g l at_).2.1.toNat)
  (hp : ∀ a c x, p x → g (a ++ e x ++ c) a.length = (x, (a.length : Int) + (e x).length, 0)) : Reads (fun l r => rOf z (g l r.1) r) e p where
 bad := fun l r h => by unfold rOf; rw [if_pos (.inl h)]
 place := fun l r hb h0 h1 => by
  unfold rOf
  by_cases h : r.2 = true ∨ (g l r.1).2.2 ≠ 0
  ·
   rw [if_pos h]; exact ⟨h0, h1⟩
  ·
   rw [if_neg h]
   obtain ⟨a, _, b, c, _⟩ := hs l r.1 hb (Classical.not_not.1 (fun e => h (.inr e)))
   exact ⟨Int.le_trans h0 b, c⟩
 got := fun l r hb h0 h1 h => by
  unfold rOf at h ⊢
  by_cases hc : r.2 = true ∨ (g l r.1).2.2 ≠ 0
  ·
   rw [if_pos hc] at h; cases h
  ·
   rw [if_neg hc]
   obtain ⟨a, b, c, d, e⟩ := hs l r.1 hb (Classical.not_not.1 (fun e => hc (.inr e)))
   exact ⟨b, c, e⟩
 put := fun a c x h => by
  show rOf z (g _ (a.length : Int)) _ = _
  unfold rOf
  rw [hp a c x h, if_neg (by rintro (e | e); cases e; exact e rfl)]
theorem Reads.num (s : Nat) (h1 : 1 ≤ s) (h7 : s ≤ 7) : Reads (rNum (s : Int)) (fun n => big n s) (fitN s) :=
 Reads.of (z := (0 : Int)) (g := fun l at_ => sGet l at_ (s : Int)) (e := fun n => big n s) (p := fitN s)
  (fun l at_ hb h => by
   unfold sGet at h ⊢
   by_cases c : 1 ≤ (s : Int) ∧ (s : Int) ≤ 7 ∧ 0 ≤ at_ ∧ at_ ≤ l.length
   ·
    rw [if_pos c] at h ⊢
    by_cases d : (l.length : Int) - at_ < (s : Int)
    ·
     rw [if_pos d] at h; simp at h
    ·
     rw [if_neg d]
     have hl : (sub l at_.toNat (at_ + (s : Int)).toNat).length = s := by rw [fP z3_]; omega
     have hbs := fX hb at_.toNat (at_ + (s : Int)).toNat
     refine ⟨c.2.2.1, ⟨iD _ 0 z3_ hbs, ?_⟩, by show at_ ≤ at_ + _; omega, by show at_ + (s : Int) ≤ _; omega, ?_⟩
     ·
      have := val_lt _ 0 z3_ hbs
      rw [hl] at this
      simpa using this
     ·
      have := big_val _ hbs
      rw [hl] at this
      exact this
   ·
    rw [if_neg c] at h; simp at h)
  (fun a c x h => by
   have := get_put a c x s h1 h7 h.1 h.2
   show sGet _ _ _ = _
   rw [this, cD])
theorem Reads.text : Reads rText encT (fun t => t.size ≤ 24) :=
 Reads.of (z := (⟨#[]⟩ : ByteArray)) (g := fun l at_ => sGetText l at_) (e := encT) (p := fun t => t.size ≤ 24)
  (fun l at_ hb h => by
   obtain ⟨⟨a, b⟩, c, d⟩ := getText_sub hb h
   exact ⟨c, jI hb h, by show at_ ≤ (sGetText l at_).2.1; omega, b, d⟩)
  (fun a c x h => by
   have := getText_put a c x h
   show sGetText (a ++ encT x ++ c) _ = _
   unfold encT
   rw [this]
   simp [dN]; omega)
theorem times_acc (f : List Int → Rr → α × Rr) (l : List Int) (n : Nat) : ∀ (acc : List α) (r : Rr), rTimes f l n acc r = (acc ++ (rTimes f l n [] r).1, (rTimes f l n [] r).2) := by
 induction n with
 | zero => intro acc r; simp [rTimes]
 | succ n ih =>
  intro acc r
  rw [rTimes, rTimes, ih, ih ([] ++ [(f l r).1])]
  simp
theorem iR (f : List Int → Rr → α × Rr) (l : List Int) (n : Nat) (r : Rr) : rTimes f l (n + 1) [] r = ((f l r).1 :: (rTimes f l n [] (f l r).2).1, (rTimes f l n [] (f l r).2).2) := by
 rw [rTimes, times_acc]; simp
theorem Reads.times {f : List Int → Rr → α × Rr} {e : α → List Int} {p : α → Prop} (hf : Reads f e p) (n : Nat) :
  Reads (fun l r => rTimes f l n [] r) (fun xs => xs.flatMap e) (fun xs => xs.length = n ∧ ∀ x ∈ xs, p x) := by
 induction n with
 | zero =>
  exact {
   bad := fun l r h => h
   place := fun l r hb h0 h1 => ⟨h0, h1⟩
   got := fun l r hb h0 h1 h => ⟨⟨rfl, fun x hx => by cases hx⟩, Int.le_refl _, by show ([] : List Int) = _; unfold sub; simp [rTimes]⟩
   put := fun a c x h => by
    obtain rfl : x = [] := List.length_eq_zero_iff.1 h.1
    simp [rTimes] }
 | succ n ih =>
  have hc := hf.comp ih
  exact {
   bad := fun l r h => by show (rTimes f l (n + 1) [] r).2.2 = true; rw [iR]; exact hc.bad l r h
   place := fun l r hb h0 h1 => by show 0 ≤ (rTimes f l (n + 1) [] r).2.1 ∧ (rTimes f l (n + 1) [] r).2.1 ≤ _; rw [iR]; exact hc.place l r hb h0 h1
   got := fun l r hb h0 h1 h => by
    have h : (rTimes f l (n + 1) [] r).2.2 = false := h
    show ((rTimes f l (n + 1) [] r).1.length = n + 1 ∧ ∀ x ∈ (rTimes f l (n + 1) [] r).1, p x) ∧ r.1 ≤ (rTimes f l (n + 1) [] r).2.1 ∧ (rTimes f l (n + 1) [] r).1.flatMap e = sub l r.1.toNat (rTimes f l (n + 1) [] r).2.1.toNat
    rw [iR] at h ⊢
    obtain ⟨⟨a, b, c⟩, d, g⟩ := hc.got l r hb h0 h1 h
    refine ⟨⟨by rw [List.length_cons]; exact congrArg (· + 1) b, fun x hx => ?_⟩, d, by rw [List.flatMap_cons]; exact g⟩
    rcases List.mem_cons.1 hx with rfl | hx
    ·
     exact a
    ·
     exact c x hx
   put := fun a c x h => by
    cases x with
    | nil => simp at h
    | cons y ys =>
     have := hc.put a c (y, ys) ⟨h.2 y List.mem_cons_self, by show ys.length = n; have := h.1; rw [List.length_cons] at this; omega, fun x hx => h.2 x (List.mem_cons_of_mem _ hx)⟩
     show rTimes f _ (n + 1) [] _ = _
     rw [List.flatMap_cons, iR]
     have h1 := congrArg (fun z => z.1.1) this
     have h2 := congrArg (fun z => z.1.2) this
     have h3 := congrArg (fun z => z.2) this
     exact Prod.ext (by show (_ :: _ : List α) = _; exact _root_.congr (congrArg List.cons h1) h2) h3 }
theorem rMany_bad {size most : Int} {l : List Int} {r : Rr} (h : r.2 = true) : (rMany size most l r).2.2 = true := by
 unfold rMany
 split
 ·
  rfl
 ·
  unfold rNum rOf; rw [if_pos (.inl h)]
theorem Reads.many {f : List Int → Rr → α × Rr} {e : α → List Int} {p : α → Prop} (hf : Reads f e p) (s : Nat) (h1 : 1 ≤ s) (h7 : s ≤ 7) (most : Nat) (hm : (most : Int) < 256 ^ s) :
  Reads (fun l r => rTimes f l (rMany (s : Int) most l r).1.toNat [] (rMany (s : Int) most l r).2) (fun xs => big xs.length s ++ xs.flatMap e) (fun xs => xs.length ≤ most ∧ ∀ x ∈ xs, p x) where
 bad := fun l r h => (hf.times _).bad l _ (rMany_bad h)
 place := fun l r hb h0 h1' => by
  obtain ⟨a, b⟩ := (Reads.num s h1 h7).place l r hb h0 h1'
  refine (hf.times _).place l _ hb ?_ ?_ <;> · unfold rMany; split <;> assumption
 got := fun l r hb h0 h1' h => by
  have hN := Reads.num s h1 h7
  have hT := hf.times (rMany (s : Int) most l r).1.toNat
  have h : (rTimes f l (rMany (s : Int) most l r).1.toNat [] (rMany (s : Int) most l r).2).2.2 = false := h
  have hz := hT.good h
  have hle : ¬ (rNum (s : Int) l r).1 > most := fun e => by unfold rMany at hz; rw [if_pos e] at hz; cases hz
  have hM : rMany (s : Int) most l r = rNum (s : Int) l r := if_neg hle
  rw [hM] at h hz hT ⊢
  obtain ⟨a, b⟩ := hN.place l r hb h0 h1'
  obtain ⟨c1, c2, c3⟩ := hN.got l r hb h0 h1' hz
  obtain ⟨d1, d2, d3⟩ := hT.got l _ hb a b h
  obtain ⟨e1, e2⟩ := hT.place l _ hb a b
  have h0' : 0 ≤ (rNum (s : Int) l r).1 := c1.1
  refine ⟨⟨by show List.length _ ≤ most; rw [d1.1]; omega, d1.2⟩, Int.le_trans c2 d2, ?_⟩
  show big (List.length _ : Int) s ++ List.flatMap e _ = _
  rw [d1.1, show (((rNum (s : Int) l r).1.toNat : Nat) : Int) = (rNum (s : Int) l r).1 by omega, d3]
  rw [c3]
  exact sub_sub l _ _ _ z3_ z3_ z3_
 put := fun a c xs h => by
  have hN := (Reads.num s h1 h7).put a (xs.flatMap e ++ c) (xs.length : Int) ⟨by omega, by have := h.1; omega⟩
  have e1 : a ++ (big xs.length s ++ xs.flatMap e) ++ c = a ++ big xs.length s ++ (xs.flatMap e ++ c) := by simp
  have e2 : a ++ (big xs.length s ++ xs.flatMap e) ++ c = (a ++ big xs.length s) ++ xs.flatMap e ++ c := by simp
  have hM : rMany (s : Int) most (a ++ (big xs.length s ++ xs.flatMap e) ++ c) (a.length, false) = ((xs.length : Int), ((a.length : Int) + s, false)) := by
   unfold rMany
   rw [e1, hN, if_neg (by show ¬ (xs.length : Int) > most; have := h.1; omega), cD]
  show rTimes f _ (rMany _ _ _ _).1.toNat [] (rMany _ _ _ _).2 = _
  rw [hM]
  show rTimes f _ ((xs.length : Int).toNat) [] _ = _
  rw [Int.toNat_natCast]
  have hT := (hf.times xs.length).put (a ++ big xs.length s) c xs ⟨rfl, h.2⟩
  rw [← e2] at hT
  rw [show ((a.length : Int) + s, false) = (((a ++ big xs.length s).length : Int), false) by simp [cD]]
  refine Eq.trans hT ?_
  simp [cD]; omega
end
end Go.Proofs.YtjnjfogfpmeacaaGreat.Ops
end
section
namespace Go.Proofs.YtjnjfogfpmeacaaGreat.Ops
open Go.RowKit PAll Plain PrintWords ZipT PrintWords.Kd PrintMore.Kd
set_option linter.unusedVariables false
set_option linter.unusedSimpArgs false
theorem row_got {l : List Int} {at_ : Int} (hb : Bytes l) (h : (sRowRead l at_).2.2 = 0) :
  rowE (sRowRead l at_).1 = 0 ∧ 0 ≤ at_ ∧ at_ ≤ (sRowRead l at_).2.1 ∧ (sRowRead l at_).2.1 ≤ l.length ∧ rowB (sRowRead l at_).1 = sub l at_.toNat (sRowRead l at_).2.1.toNat := by
 unfold sRowRead at h ⊢
 by_cases h1 : 0 ≤ at_ ∧ at_ ≤ l.length
 rotate_left
 ·
  rw [if_neg h1] at h; simp at h
 rw [if_pos h1] at h ⊢
 by_cases h2 : at_ = l.length ∨ rd l at_ > 12
 ·
  rw [if_pos h2] at h; simp at h
 rw [if_neg h2] at h ⊢
 have hr := hb.rd at_
 unfold Byte at hr
 obtain ⟨m, e1, e2, e3, e4, e5, e6⟩ := vals_sub l hb (rd l at_).toNat (at_ + 1) [] z3_ z3_ h
 rw [List.nil_append] at e1
 rw [e1]
 refine ⟨(gO m).2 ⟨by omega, e3⟩, h1.1, by omega, e5, ?_⟩
 unfold rowB
 rw [e6]
 obtain ⟨i, rfl⟩ := Int.eq_ofNat_of_zero_le h1.1
 rw [Int.toNat_natCast, show ((i : Int) + 1).toNat = i + 1 from by omega, iO (i := i) z3_ z3_]
 congr 1
 omega
theorem row_at (a c : List Int) (l : List V) (h : rowE l = 0) : sRowRead (a ++ rowB l ++ c) a.length = (l, (a.length : Int) + (rowB l).length, 0) := by
 obtain ⟨h1, h2⟩ := (gO l).1 h
 have e : a ++ rowB l ++ c = a ++ (l.length : Int) :: (rowVs l ++ c) := by simp [rowB]
 have e2 : a ++ rowB l ++ c = (a ++ [(l.length : Int)]) ++ rowVs l ++ c := by simp [rowB]
 have hl : (a ++ rowB l ++ c).length = a.length + 1 + (rowVs l).length + c.length := by simp [rowB]; omega
 have hr : rd (a ++ rowB l ++ c) (a.length : Int) = l.length := by rw [e]; exact iT _ _ _ rfl
 unfold sRowRead
 rw [if_pos z3_, hr, if_neg z3_, Int.toNat_natCast]
 have := vals_put l (a ++ [(l.length : Int)]) c [] h2
 rw [← e2] at this
 rw [show ((a.length : Int) + 1) = ((a ++ [(l.length : Int)]).length : Int) by simp, this]
 simp [rowB]
theorem Reads.row : Reads rRow rowB (fun l => rowE l = 0) :=
 Reads.of (z := ([] : List V)) (g := fun l at_ => sRowRead l at_) (e := rowB) (p := fun l => rowE l = 0)
  (fun l at_ hb h => by
   obtain ⟨a, b, c, d, e⟩ := row_got hb h
   exact ⟨b, a, c, d, e⟩)
  (fun a c x h => row_at a c x h)
def dotB (d : Dt) : List Int := big d.f0 1 ++ big d.f1 4
def dotFit (d : Dt) : Prop := fitN 1 d.f0 ∧ fitN 4 d.f1
instance (d : Dt) : Decidable (dotFit d) := by unfold dotFit; infer_instance
def stampB (t : St) : List Int := big t.f0 6 ++ big t.f1 3 ++ big t.f2 1
def stampFit (t : St) : Prop := (fitN 6 t.f0 ∧ fitN 3 t.f1) ∧ fitN 1 t.f2
instance (d : St) : Decidable (stampFit d) := by unfold stampFit; infer_instance
def numsB (l : List Int) : List Int := big l.length 1 ++ l.flatMap fun n => big n 4
def numsFit (l : List Int) : Prop := l.length ≤ 5 ∧ ∀ n ∈ l, fitN 4 n
instance (l : List Int) : Decidable (numsFit l) := by unfold numsFit; infer_instance
def dotsB (l : List Dt) : List Int := big l.length 1 ++ l.flatMap dotB
def dotsFit (l : List Dt) : Prop := l.length ≤ 64 ∧ ∀ d ∈ l, dotFit d
instance (l : List Dt) : Decidable (dotsFit l) := by unfold dotsFit; infer_instance
def opB (x : Ox) : List Int := big x.f3 1 ++ dotB x.f0 ++ numsB x.f1 ++ stampB x.f2 ++ big x.f4 1 ++ encT x.f5 ++ big x.f6 1 ++ rowB x.f7 ++ dotsB x.f8
def opFit (x : Ox) : Prop := (((((((fitN 1 x.f3 ∧ dotFit x.f0) ∧ numsFit x.f1) ∧ stampFit x.f2) ∧ fitN 1 x.f4) ∧ x.f5.size ≤ 24) ∧ fitN 1 x.f6) ∧ rowE x.f7 = 0) ∧ dotsFit x.f8
instance (x : Ox) : Decidable (opFit x) := by unfold opFit; infer_instance
theorem Writes.dot : Writes wDot dotB dotFit := (Writes.num 1 z5_ z5_).comp (Writes.num 4 z5_ z5_) (fun d : Dt => d.f0) (fun d => d.f1)
theorem Writes.stamp : Writes wStamp stampB stampFit :=
 ((Writes.num 6 z5_ z5_).comp (Writes.num 3 z5_ z5_) (fun d : St => d.f0) (fun d => d.f1)).comp (Writes.num 1 z5_ z5_) id (fun d : St => d.f2)
theorem Writes.nums : Writes wNums numsB numsFit :=
 (((Writes.or (fun l : List Int => l.length > 5)).comp (Writes.num 1 z5_ z5_) id (fun l : List Int => (l.length : Int))).comp (Writes.all (Writes.num 4 z5_ z5_)) id id).congr
  (fun l _ => by simp [numsB]) (fun l => ⟨fun h => ⟨by have := h.1.1; simp at this; exact this, h.2⟩, fun h => ⟨⟨by have := h.1; simp; omega, by have := h.1; exact ⟨by omega, by show (l.length : Int) < 256 ^ 1; omega⟩⟩, h.2⟩⟩)
theorem Writes.dots : Writes (fun l s => wAll wDot l (wNum l.length 1 (wOr (decide (l.length > 64)) s))) dotsB dotsFit :=
 (((Writes.or (fun l : List Dt => l.length > 64)).comp (Writes.num 1 z5_ z5_) id (fun l : List Dt => (l.length : Int))).comp (Writes.all Writes.dot) id id).congr
  (fun l _ => by simp [dotsB]) (fun l => ⟨fun h => ⟨by have := h.1.1; simp at this; exact this, h.2⟩, fun h => ⟨⟨by have := h.1; simp; omega, by have := h.1; exact ⟨by omega, by show (l.length : Int) < 256 ^ 1; omega⟩⟩, h.2⟩⟩)
theorem Writes.op : Writes wOp opB opFit :=
 (((((((((Writes.num 1 z5_ z5_).comp Writes.dot (fun x : Ox => x.f3) (fun x : Ox => x.f0)).comp Writes.nums id (fun x : Ox => x.f1)).comp Writes.stamp id (fun x : Ox => x.f2)).comp (Writes.num 1 z5_ z5_) id (fun x : Ox => x.f4)).comp Writes.text id (fun x : Ox => x.f5)).comp (Writes.num 1 z5_ z5_) id (fun x : Ox => x.f6)).comp Writes.row id (fun x : Ox => x.f7)).comp Writes.dots id (fun x : Ox => x.f8))
theorem opBytes_eq (x : Ox) : sOpBytes x = if opFit x then (opB x, 0) else ([], 1) := by
 unfold sOpBytes
 by_cases h : opFit x
 ·
  rw [if_pos h, Writes.op.ok x _ h]; simp
 rw [if_neg h, Writes.op.no x _ h, if_pos rfl]
theorem Reads.dot : Reads rDot dotB dotFit :=
 ((Reads.num 1 z5_ z5_).comp (Reads.num 4 z5_ z5_)).map (fun p => (⟨p.1, p.2⟩ : Dt)) (fun d => (d.f0, d.f1)) (fun _ => rfl) (fun _ => rfl)
theorem Reads.stamp : Reads rStamp stampB stampFit :=
 (((Reads.num 6 z5_ z5_).comp (Reads.num 3 z5_ z5_)).comp (Reads.num 1 z5_ z5_)).map (fun p => (⟨p.1.1, p.1.2, p.2⟩ : St)) (fun d => ((d.f0, d.f1), d.f2)) (fun _ => rfl) (fun _ => rfl)
theorem Reads.nums : Reads rNums numsB numsFit := (Reads.num 4 z5_ z5_).many 1 z5_ z5_ 5 z5_
theorem Reads.dots : Reads rDots dotsB dotsFit := Reads.dot.many 1 z5_ z5_ 64 z5_
theorem Reads.head : Reads (fun l r => (((rHead l r).1.f3, (rHead l r).1.f0, (rHead l r).1.f1, (rHead l r).1.f2, (rHead l r).1.f4, (rHead l r).1.f5, (rHead l r).1.f6), (rHead l r).2))
  (fun p => big p.1 1 ++ dotB p.2.1 ++ numsB p.2.2.1 ++ stampB p.2.2.2.1 ++ big p.2.2.2.2.1 1 ++ encT p.2.2.2.2.2.1 ++ big p.2.2.2.2.2.2 1)
  (fun p => ((((((fitN 1 p.1 ∧ dotFit p.2.1) ∧ numsFit p.2.2.1) ∧ stampFit p.2.2.2.1) ∧ fitN 1 p.2.2.2.2.1) ∧ p.2.2.2.2.2.1.size ≤ 24) ∧ fitN 1 p.2.2.2.2.2.2)) :=
 (((((((Reads.num 1 z5_ z5_).comp Reads.dot).comp Reads.nums).comp Reads.stamp).comp (Reads.num 1 z5_ z5_)).comp Reads.text).comp (Reads.num 1 z5_ z5_)).map
  (fun p => (p.1.1.1.1.1.1, p.1.1.1.1.1.2, p.1.1.1.1.2, p.1.1.1.2, p.1.1.2, p.1.2, p.2)) (fun p => ((((((p.1, p.2.1), p.2.2.1), p.2.2.2.1), p.2.2.2.2.1), p.2.2.2.2.2.1), p.2.2.2.2.2.2)) (fun _ => rfl) (fun _ => rfl)
def rOpC (l : List Int) (r : Rr) : Ox × Rr :=
 ({ (rHead l r).1 with f7 := (rRow l (rHead l r).2).1, f8 := (rDots l (rRow l (rHead l r).2).2).1 }, (rDots l (rRow l (rHead l r).2).2).2)
theorem Reads.opC : Reads rOpC opB opFit :=
 ((Reads.head.comp Reads.row).comp Reads.dots).map
  (fun p => (⟨p.1.1.2.1, p.1.1.2.2.1, p.1.1.2.2.2.1, p.1.1.1, p.1.1.2.2.2.2.1, p.1.1.2.2.2.2.2.1, p.1.1.2.2.2.2.2.2, p.1.2, p.2⟩ : Ox)) (fun x => (((x.f3, x.f0, x.f1, x.f2, x.f4, x.f5, x.f6), x.f7), x.f8)) (fun _ => rfl) (fun _ => rfl)
theorem jQ {l : List Int} {r : Rr} (h : (rRow l (rHead l r).2).2.2 = false) : rOp l r = rOpC l r := by
 unfold rOp; rw [if_neg (by rw [h]; decide)]; rfl
theorem rOp_bad {l : List Int} {r : Rr} (h : (rRow l (rHead l r).2).2.2 = true) : rOp l r = (zOp, (rRow l (rHead l r).2).2) := by
 unfold rOp; rw [if_pos h]
theorem rOpC_good {l : List Int} {r : Rr} (h : (rOpC l r).2.2 = false) : (rRow l (rHead l r).2).2.2 = false := Reads.dots.good h
theorem Reads.op : Reads rOp opB opFit where
 bad := fun l r h => by
  cases hr : (rRow l (rHead l r).2).2.2
  ·
   rw [jQ hr]; exact Reads.opC.bad l r h
  ·
   rw [rOp_bad hr]; exact hr
 place := fun l r hb h0 h1 => by
  cases hr : (rRow l (rHead l r).2).2.2
  ·
   rw [jQ hr]; exact Reads.opC.place l r hb h0 h1
  ·
   rw [rOp_bad hr]
   obtain ⟨a, b⟩ := Reads.head.place l r hb h0 h1
   exact Reads.row.place l _ hb a b
 got := fun l r hb h0 h1 h => by
  cases hr : (rRow l (rHead l r).2).2.2
  ·
   rw [jQ hr] at h ⊢; exact Reads.opC.got l r hb h0 h1 h
  ·
   rw [rOp_bad hr] at h; exact absurd (hr.symm.trans h) z5_
 put := fun a c x h => by
  have := Reads.opC.put a c x h
  rw [jQ (rOpC_good (by rw [this])), this]
theorem opRead_put (a c : List Int) (x : Ox) (h : opFit x) : sOpRead (a ++ opB x ++ c) a.length = (x, (a.length : Int) + (opB x).length, 0) := by
 unfold sOpRead
 rw [if_neg (by simp; omega), Reads.op.put a c x h, if_neg z6_]
theorem opB_len (x : Ox) (h : opFit x) : 22 ≤ (opB x).length ∧ (opB x).length ≤ 1000 := by
 obtain ⟨⟨⟨⟨⟨⟨⟨⟨k, d⟩, n⟩, t⟩, b⟩, y⟩, c⟩, v⟩, z⟩ := h
 have hr := rowB_len v
 have hr1 : 1 ≤ (rowB x.f7).length := by simp [rowB]
 have h1 : (x.f1.flatMap fun n => big n 4).length = 4 * x.f1.length := by
  have : ∀ l : List Int, (l.flatMap fun n => big n 4).length = 4 * l.length := fun l => by
   induction l with
   | nil => rfl
   | cons a l ih => rw [List.flatMap_cons, List.length_append, ih, cD, List.length_cons]; omega
  exact this _
 have h2 : (x.f8.flatMap dotB).length = 5 * x.f8.length := by
  have : ∀ l : List Dt, (l.flatMap dotB).length = 5 * l.length := fun l => by
   induction l with
   | nil => rfl
   | cons a l ih => rw [List.flatMap_cons, List.length_append, ih, List.length_cons]; simp [dotB, cD]; omega
  exact this _
 have := n.1
 have := z.1
 simp only [opB, dotB, numsB, stampB, dotsB, encT, List.length_append, cD, h1, h2, List.length_cons, dN]
 omega
end Go.Proofs.YtjnjfogfpmeacaaGreat.Ops
end
section
namespace Go.Proofs.YtjnjfogfpmeacaaGreat.Ops
open Go.RowKit PAll Plain PrintWords PrintMore ZipT PrintWords.Kd PrintMore.Kd
set_option linter.unusedVariables false
set_option linter.unusedSimpArgs false
abbrev Tb := S53
theorem iV {l : List Tb} {i : Nat} {v : Tb} {m : List Tb} (h : l.drop i = v :: m) : cP l (i : Int) = v := by
 show l.getD ((i : Int).toNat) _ = v
 rw [Int.toNat_natCast, List.getD_eq_getElem?_getD]
 have : l[i]? = (l.drop i)[0]? := by rw [List.getElem?_drop]; simp
 rw [this, h]; rfl
def formsE (f : List Tb) : Int :=
 if f.length < 1 ∨ f.length > 3 then 2 else if (f.any fun t => decide (t.f0.length < 1 ∨ t.f0.length > 4)) = true then 2
 else if (f.any fun t => t.f0.any fun c => decide (c < 2 ∨ c > 4)) = true then 10 else 0
def badLen (t : Tb) : Bool := decide (t.f0.length < 1 ∨ t.f0.length > 4)
def badType (c : Int) : Bool := decide (c < 2 ∨ c > 4)
theorem formsE_eq (f : List Tb) : formsE f = if f.length < 1 ∨ f.length > 3 then 2 else if f.any badLen = true then 2 else if (f.any fun t => t.f0.any badType) = true then 10 else 0 := rfl
theorem forms1_eq (t : Tb) : gE.f t.f0 = some (badLen t) := by
 unfold gE.f badLen
 by_cases h : (t.f0.length : Int) < 1
 ·
  rw [if_pos h, decide_eq_true z3_]
 rw [if_neg h]; congr 1; rw [decide_eq_decide]; omega
theorem forms2_eq (c : Int) : gG.f c = some (badType c) := by
 unfold gG.f badType
 by_cases h : c < 2
 ·
  rw [if_pos h, decide_eq_true (.inl h)]
 rw [if_neg h]; congr 1; rw [decide_eq_decide]; omega
theorem index1 (l : List Tb) (hl : l.length ≤ 1000000) (m : List Tb) : ∀ (k i : Nat), l.drop i = m → m.length < k →
  ∃ r, bH.l0 k l (l.length : Int) (i : Int) = some r ∧ (r ≥ 0 ↔ m.any badLen = true) := by
 induction m with
 | nil =>
  intro k i h hk
  obtain ⟨k, rfl⟩ : ∃ j, k = j + 1 := ⟨k - 1, by omega⟩
  have := dI h
  refine ⟨-1, ?_, by simp⟩
  simp only [bH.l0]
  rw [if_neg z3_]
 | cons v m ih =>
  intro k i h hk
  obtain ⟨k, rfl⟩ : ∃ j, k = j + 1 := ⟨k - 1, by omega⟩
  have hi := dO h
  simp only [bH.l0]
  rw [if_pos z3_, if_pos z3_, if_pos z3_, iV h, forms1_eq, Option.bind_some]
  cases ho : badLen v
  ·
   obtain ⟨r, h1, h2⟩ := ih k (i + 1) (cM h) (by simp at hk; omega)
   refine ⟨r, ?_, ?_⟩
   ·
    rw [if_neg z5_, w64 z3_ z3_]; exact h1
   ·
    rw [h2, List.any_cons, ho, Bool.false_or]
  ·
   refine ⟨i, ?_, ?_⟩
   ·
    rw [if_pos rfl]
   ·
    rw [List.any_cons, ho, Bool.true_or]; simp
theorem contains1 (k : Nat) (l : List Tb) (hl : l.length ≤ 1000000) (hk : l.length < k) : cN.f k l () = some (l.any badLen) := by
 obtain ⟨r, h1, h2⟩ := index1 l hl l k 0 rfl hk
 unfold cN.f bH.f
 rw [show ((0 : Nat) : Int) = 0 from rfl] at h1
 rw [h1, Option.bind_some]
 congr 1
 cases hz : l.any badLen
 ·
  rw [hz] at h2; exact decide_eq_false (fun h => by simpa using h2.1 h)
 ·
  rw [hz] at h2; exact decide_eq_true (h2.2 rfl)
theorem index2 (l : List Int) (hl : l.length ≤ 1000000) (m : List Int) : ∀ (k i : Nat), l.drop i = m → m.length < k →
  ∃ r, bG.l0 k l (l.length : Int) (i : Int) = some r ∧ (r ≥ 0 ↔ m.any badType = true) := by
 induction m with
 | nil =>
  intro k i h hk
  obtain ⟨k, rfl⟩ : ∃ j, k = j + 1 := ⟨k - 1, by omega⟩
  have := dI h
  refine ⟨-1, ?_, by simp⟩
  simp only [bG.l0]
  rw [if_neg z3_]
 | cons v m ih =>
  intro k i h hk
  obtain ⟨k, rfl⟩ : ∃ j, k = j + 1 := ⟨k - 1, by omega⟩
  have hi := dO h
  simp only [bG.l0]
  rw [if_pos z3_, if_pos z3_, if_pos z3_, gB h, forms2_eq, Option.bind_some]
  cases ho : badType v
  ·
   obtain ⟨r, h1, h2⟩ := ih k (i + 1) (cM h) (by simp at hk; omega)
   refine ⟨r, ?_, ?_⟩
   ·
    rw [if_neg z5_, w64 z3_ z3_]; exact h1
   ·
    rw [h2, List.any_cons, ho, Bool.false_or]
  ·
   refine ⟨i, ?_, ?_⟩
   ·
    rw [if_pos rfl]
   ·
    rw [List.any_cons, ho, Bool.true_or]; simp
theorem contains2 (k : Nat) (l : List Int) (hl : l.length ≤ 1000000) (hk : l.length < k) : cL.f k l () = some (l.any badType) := by
 obtain ⟨r, h1, h2⟩ := index2 l hl l k 0 rfl hk
 unfold cL.f bG.f
 rw [show ((0 : Nat) : Int) = 0 from rfl] at h1
 rw [h1, Option.bind_some]
 congr 1
 cases hz : l.any badType
 ·
  rw [hz] at h2; exact decide_eq_false (fun h => by simpa using h2.1 h)
 ·
  rw [hz] at h2; exact decide_eq_true (h2.2 rfl)
theorem forms_l0 (l : List Tb) (hl : l.length ≤ 1000000) (hb : l.any badLen = false) (m : List Tb) : ∀ (k i : Nat), l.drop i = m → m.length + 5 < k →
  dB.l0 k l (l.length : Int) (i : Int) = some (if (m.any fun t => t.f0.any badType) = true then 10 else 0) := by
 induction m with
 | nil =>
  intro k i h hk
  obtain ⟨k, rfl⟩ : ∃ j, k = j + 1 := ⟨k - 1, by omega⟩
  have := dI h
  simp only [dB.l0]
  rw [if_neg z3_]; rfl
 | cons v m ih =>
  intro k i h hk
  obtain ⟨k, rfl⟩ : ∃ j, k = j + 1 := ⟨k - 1, by omega⟩
  have hi := dO h
  have hv : v.f0.length ≤ 4 := by
   have hm : v ∈ l := List.mem_of_mem_drop (i := i) (by rw [h]; exact List.mem_cons_self)
   have := List.any_eq_false.1 hb v hm
   unfold badLen at this
   simp at this
   omega
  simp only [List.length_cons] at hk
  simp only [dB.l0]
  rw [if_pos z3_, if_pos z3_, if_pos z3_, iV h, contains2 _ _ z3_ z3_, Option.bind_some, List.any_cons]
  cases ho : v.f0.any badType
  ·
   rw [if_neg z5_, w64 z3_ z3_, Bool.false_or]
   exact ih k (i + 1) (cM h) z3_
  ·
   rw [if_pos rfl, Bool.true_or, if_pos rfl]
theorem forms_eq (k : Nat) (f : List Tb) (hl : f.length ≤ 1000) (hk : f.length + 10 ≤ k) : dB.f k f = some (formsE f) := by
 obtain ⟨k, rfl⟩ : ∃ j, k = j + 1 := ⟨k - 1, by omega⟩
 rw [formsE_eq]
 unfold dB.f
 have hj : ∀ b : Bool, dB.j0 (k + 1) f b = if b = true then some 2 else some (if f.any badLen = true then 2 else if (f.any fun t => t.f0.any badType) = true then 10 else 0) := fun b => by
  simp only [dB.j0]
  cases b
  ·
   rw [if_neg z5_, if_neg z5_, contains1 _ _ z3_ z3_, Option.bind_some]
   cases hb : f.any badLen
   ·
    rw [if_neg z5_, if_neg z5_]
    exact forms_l0 f z3_ hb f k 0 rfl z3_
   ·
    rw [if_pos rfl, if_pos rfl]
  ·
   rfl
 rw [hj, hj]
 by_cases h1 : (f.length : Int) < 1
 ·
  rw [if_pos h1, if_pos rfl, if_pos z3_]
 rw [if_neg h1]
 by_cases h2 : (f.length : Int) > 3
 ·
  rw [decide_eq_true h2, if_pos rfl, if_pos z3_]
 rw [decide_eq_false h2, if_neg z5_, if_neg (show ¬ (f.length < 1 ∨ f.length > 3) by omega)]
theorem rtype_eq (c : Int) : cW.f c = some (!badType c) := by
 unfold cW.f badType
 rw [fZ, Option.bind_some]
 congr 1
 by_cases h : c < 2 ∨ c > 4
 ·
  rw [decide_eq_true h, decide_eq_false z3_]; rfl
 rw [decide_eq_false h, decide_eq_true z3_]; rfl
theorem rforms_l2 (l : List Tb) (hl : l.length ≤ 1000000) (i : Nat) (v : Tb) (hi : i < l.length) (hv : cP l (i : Int) = v) (hc : v.f0.length ≤ 4) (m : List Int) : ∀ (k j : Nat), v.f0.drop j = m → m.length < k →
  aV.l2 k l (i : Int) (j : Int) = if m.any badType = true then some 10 else aV.l1 (k - m.length - 1) l ((i + 1 : Nat) : Int) := by
 induction m with
 | nil =>
  intro k j h hk
  obtain ⟨k, rfl⟩ : ∃ q, k = q + 1 := ⟨k - 1, by omega⟩
  have h1 := dI h
  simp only [aV.l2]
  rw [if_pos z3_, if_pos z3_, hv, if_neg z3_, w64 z3_ z3_]
  rfl
 | cons c m ih =>
  intro k j h hk
  obtain ⟨k, rfl⟩ : ∃ q, k = q + 1 := ⟨k - 1, by omega⟩
  have h1 := dO h
  simp only [List.length_cons] at hk
  simp only [aV.l2]
  rw [if_pos z3_, if_pos z3_, hv, if_pos z3_, if_pos z3_, gB h, rtype_eq, Option.bind_some, List.any_cons]
  cases ho : badType c
  ·
   rw [if_pos z5_, w64 z3_ z3_, Bool.false_or]
   have := ih k (j + 1) (cM h) z3_
   rw [show ((j : Int) + 1) = ((j + 1 : Nat) : Int) from rfl, this, List.length_cons]
   rw [show k + 1 - (m.length + 1) - 1 = k - m.length - 1 by omega]
  ·
   rw [if_neg z5_, Bool.true_or, if_pos rfl]
theorem rforms_l1 (l : List Tb) (hl : l.length ≤ 1000000) (hb : l.any badLen = false) (m : List Tb) : ∀ (k i : Nat), l.drop i = m → m.length * 8 < k →
  aV.l1 k l (i : Int) = some (if (m.any fun t => t.f0.any badType) = true then 10 else 0) := by
 induction m with
 | nil =>
  intro k i h hk
  obtain ⟨k, rfl⟩ : ∃ j, k = j + 1 := ⟨k - 1, by omega⟩
  have := dI h
  simp only [aV.l1]
  rw [if_neg z3_]; rfl
 | cons v m ih =>
  intro k i h hk
  obtain ⟨k, rfl⟩ : ∃ j, k = j + 1 := ⟨k - 1, by omega⟩
  have hi := dO h
  have hv : v.f0.length ≤ 4 := by
   have hm : v ∈ l := List.mem_of_mem_drop (i := i) (by rw [h]; exact List.mem_cons_self)
   have := List.any_eq_false.1 hb v hm
   unfold badLen at this
   simp at this
   omega
  simp only [List.length_cons] at hk
  simp only [aV.l1]
  rw [if_pos z3_]
  rw [show (0 : Int) = ((0 : Nat) : Int) from rfl, rforms_l2 l hl i v hi (iV h) hv v.f0 k 0 rfl z3_, List.any_cons]
  cases ho : v.f0.any badType
  ·
   rw [if_neg z5_, Bool.false_or]
   exact ih _ (i + 1) (cM h) z3_
  ·
   rw [if_pos rfl, Bool.true_or, if_pos rfl]
theorem rforms_l0 (l : List Tb) (hl : l.length ≤ 1000) (m : List Tb) : ∀ (k i : Nat), l.drop i = m → m.length + 8 * l.length + 2 < k →
  aV.l0 k l (i : Int) = if m.any badLen = true then some 2 else if l.any badLen = false then some (if (l.any fun t => t.f0.any badType) = true then 10 else 0) else aV.l0 k l (i : Int) := by
 induction m with
 | nil =>
  intro k i h hk
  obtain ⟨k, rfl⟩ : ∃ j, k = j + 1 := ⟨k - 1, by omega⟩
  have := dI h
  rw [if_neg z6_]
  by_cases hb : l.any badLen = false
  rotate_left
  ·
   rw [if_neg hb]
  rw [if_pos hb]
  simp only [aV.l0]
  rw [if_neg z3_]
  exact rforms_l1 l z3_ hb l k 0 rfl (by simp only [List.length_nil] at hk; omega)
 | cons v m ih =>
  intro k i h hk
  obtain ⟨k, rfl⟩ : ∃ j, k = j + 1 := ⟨k - 1, by omega⟩
  have hi := dO h
  have hr : aV.l0 (k + 1) l (i : Int) = if badLen v = true then some 2 else aV.l0 k l ((i + 1 : Nat) : Int) := by
   simp only [aV.l0]
   rw [if_pos z3_, if_pos z3_, iV h, fZ, Option.bind_some]
   unfold badLen
   by_cases hz : v.f0.length < 1 ∨ v.f0.length > 4
   ·
    rw [decide_eq_true hz, decide_eq_false z3_]; rfl
   ·
    rw [decide_eq_false hz, decide_eq_true z3_, w64 z3_ z3_]; rfl
  simp only [List.length_cons] at hk
  rw [List.any_cons]
  by_cases hb : l.any badLen = false
  ·
   have hv : badLen v = false := by
    have hm : v ∈ l := List.mem_of_mem_drop (i := i) (by rw [h]; exact List.mem_cons_self)
    exact Bool.eq_false_iff.2 (fun e => by have := List.any_eq_false.1 hb v hm; exact this e)
   rw [hr, hv, if_neg z5_, Bool.false_or, ih k (i + 1) (cM h) z3_, if_pos hb, if_pos hb]
  rw [if_neg hb]
  cases ho : badLen v
  ·
   rw [Bool.false_or, hr, ho, if_neg z5_]
   cases hz : m.any badLen
   ·
    rw [if_neg z5_]
   ·
    rw [if_pos rfl, ih k (i + 1) (cM h) z3_, hz, if_pos rfl]
  ·
   rw [Bool.true_or, if_pos rfl, hr, ho, if_pos rfl]
theorem rforms_eq (k : Nat) (f : List Tb) (hl : f.length ≤ 1000) (hk : 9 * f.length + 10 ≤ k) : aV.f k f = some (formsE f) := by
 rw [formsE_eq]
 unfold aV.f
 rw [fZ, Option.bind_some]
 by_cases h1 : f.length < 1 ∨ f.length > 3
 ·
  rw [decide_eq_false z3_, if_neg z5_, if_pos h1]
 rw [decide_eq_true z3_, if_pos rfl, if_neg h1, show (0 : Int) = ((0 : Nat) : Int) from rfl, rforms_l0 f hl f k 0 rfl z3_]
 cases hb : f.any badLen
 ·
  rfl
 ·
  rfl
end Go.Proofs.YtjnjfogfpmeacaaGreat.Ops
end
section
namespace Go.Proofs.YtjnjfogfpmeacaaGreat.PAll
open Go.RowKit PrintWords PrintLast PrintMore ZipT PrintWords.Kd PrintMore.Kd
attribute [local go_sem] eP eN fD fA dS dT eO eK   -- for this text's walks alone
set_option linter.unusedVariables false
set_option linter.unusedSimpArgs false
def eI.l0 : Nat → List Int → List (S24) → List (S24) → Int → Int → Option (Bool)
 | 0, _, _, _, _, _ => none
 | k + 1, x0, x1, x7, x8, x9 => if x9 < x8 then (if 0 ≤ x9 then (if x9 < (x7.length : Int) then ((hO.f x0 ((aW x7 x9).f0) ((aW x7 x9).f1)).bind fun t294 => (if t294 = true then (if x9 > 0 then (if 0 ≤ (wrap64 (x9 - 1)) then (if (wrap64 (x9 - 1)) < (x1.length : Int) then ((gY.f k ((aW x1 (wrap64 (x9 - 1))).f0) ((aW x1 (wrap64 (x9 - 1))).f1) ((aW x7 x9).f0) ((aW x7 x9).f1)).bind fun t296 => (if t296 = true then (eI.l0 k x0 x1 x7 x8 (wrap64 (x9 + 1))) else (some false))) else (none)) else (none)) else (eI.l0 k x0 x1 x7 x8 (wrap64 (x9 + 1)))) else (some false))) else (none)) else (none)) else (some true)
def eI.f (k : Nat) (l0 : List Int) (l1 : List (S24)) : Option (Bool) := eI.l0 k l0 l1 l1 (l1.length : Int) 0
def eI.T4 : Bool × List (List Nat × List Nat) := (true, [([], []), ([], []), ([0, 1], [0, 1]), ([2], [2]), ([3, 2], [3]), ([4], [4]), ([5, 4], [4, 5]), ([6, 4, 4], [4, 6]), ([7], [7]), ([7], [7]), ([9, 7], [7, 9]), ([8, 10, 7], [7, 8, 10]), ([11, 7], [7, 11]), ([7], [7]), ([12, 13, 7, 7], [7, 12, 13]), ([14, 7], [7, 14]), ([7, 15, 4], [4, 7, 15]), ([4, 16], [4, 16])])
def eI.B4 : List Nat := [0, 0, 3, 7, 15, 31, 63, 127, 255, 255, 767, 2047, 4095, 255, 16383, 32767, 65535, 131071]
theorem eI.tab4 : rtab .any (opsOf Tryz.f61 4) = eI.T4 := by kernel_rfl
theorem eI.bits4 : waitsOk eI.T4.2 eI.B4 = true := by kernel_rfl
theorem eI.calls (k : Nat) (A0 : Option Addr) (c0 : Nat) (l0 : List Int) (A1 : Option Addr) (c1 : Nat) (l1 : List (S24)) (r : Bool) (w : World) (hr0 : Kd.C (Kd.int .i64) w A0 l0.length l0) (hc0 : l0.length ≤ c0) (hr1 : Kd.C k24 w A1 l1.length l1) (hc1 : l1.length ≤ c1) (h : eI.f k l0 l1 = some r) :
  Calls Tryz.prog 61 #[.slice A0 l0.length c0, .slice A1 l1.length c1] w fun e w' => e = .returned (.bool r) ∧ Below w.heap.size w w' := by
 have hu24 := Tryz.underlying24
 have HR0 := mk_ hr0
 have HC0 := mk_ hc0
 clear hr0 hc0
 have HR1 := mk_ hr1
 have HC1 := mk_ hc1
 clear hr1 hc1
 have HB := mk_ (Below.refl w.heap.size w)
 have H : (eI.l0 k l0 l1 l1 (l1.length : Int) 0) = some r := h
 clear h
 have H' := mk_ H
 clear H
 go_enter Tryz.func61, Tryz.ntmps61
 go_wp2
 go_loopg [9] k (fun kq v9 w' => ∃ (x9_1 : Int), v9 = .int .i64 x9_1 ∧ Aside0 (eI.l0 kq l0 l1 l1 (l1.length : Int) x9_1 = some r) ∧ Aside0 (kq ≤ k) ∧ Aside0 (Below w.heap.size w w'))
 case atStart => exact ⟨(0), z4_, H', ⟨Nat.le_refl _⟩, ⟨Short.hB HB⟩⟩
 case round =>
  clear H'
  try clear c1
  try clear p2
  obtain ⟨x9_1, rfl, HA, HK1, HB⟩ := hrel
  cases gk with
  | zero => exact absurd HA.out (by simp [eI.l0])
  | succ k1 =>
   have H := HA.out
   clear HA
   simp only [eI.l0] at H
   by_cases c3 : x9_1 < (l1.length : Int)
   rotate_left
   ·
    rw [if_neg c3] at H
    have c3b0 : decide (x9_1 < (l1.length : Int)) = false := decide_eq_false c3
    clear c3
    obtain rfl := Option.some.inj H
    go_wp2
    go_ret
    exact ⟨q0, Short.hB HB⟩
   rw [if_pos c3] at H
   have c3b0 : decide (x9_1 < (l1.length : Int)) = true := decide_eq_true c3
   clear c3
   by_cases c4 : 0 ≤ x9_1
   rotate_left
   ·
    rw [if_neg c4] at H
    exact absurd H z6_
   rw [if_pos c4] at H
   have c4b0 : decide (0 ≤ x9_1) = true := decide_eq_true c4
   clear c4
   by_cases c5 : x9_1 < (l1.length : Int)
   rotate_left
   ·
    rw [if_neg c5] at H
    exact absurd H z6_
   rw [if_pos c5] at H
   have c5b0 : decide (x9_1 < (l1.length : Int)) = true := decide_eq_true c5
   clear c5
   obtain ⟨t294, A6, H⟩ := Option.bind_eq_some_iff.mp H
   replace A6 := mk_ A6
   by_cases c7 : t294 = true
   rotate_left
   ·
    replace c7 := Bool.eq_false_iff.mpr c7
    subst c7
    rw [if_neg (show ¬ (false = true) by decide)] at H
    obtain rfl := Option.some.inj H
    have p292 : 0 ≤ (x9_1 : Int) := of_decide_eq_true z1_
    have q292 : x9_1 < (l1.length : Int) := of_decide_eq_true z1_
    obtain ⟨ad292, e292, hx292_0, hx292_1⟩ := fS HR1.out x9_1 p292 q292
    cases e292
    replace hx292_0 := up_ HB hx292_0
    replace hx292_1 := up_ HB hx292_1
    replace p292 := eq_true p292
    replace q292 := eq_true q292
    try go_wp2_with (first | ((with_reducible refine aQ (N := 6) rfl ?_); refine aN ?hg (N := 6) ?hd (cs := #[.int .i64 0, .int .i64 0]) (t := 24) ?hr ?_; (case hd => rfl); (case hg => rfl); (case hr => first | (go_simp; done) | (go_simp; rfl)); intro gb293 hg w31 hbox hb; have n0_ := mk_ (aC (Short.hB HB) hb); have n1_ := mk_ (hbox); have n2_ := mk_ ((by rw [hg]; exact (aA (Short.hB HB)) : w.heap.size ≤ gb293)); have n3_ := mk_ ((by rw [hg]; exact (aA (Short.hB HB)) : w.heap.size ≤ gb293)); clear HB; revert n0_ n1_ n2_ n3_; intro HB BK293 GW293 GE293; clear hb hbox hg; obtain ⟨hcz_0, hcz_1, hfz_0, hfz_1⟩ := Short.c2 BK293.out))
    have n0_ : Aside0 (((w31.setCell ⟨gb293, 0, none⟩ (.int .i64 ((aW l1 x9_1).f0))).setCell ⟨gb293, 1, none⟩ (.int .i64 ((aW l1 x9_1).f1))).heap[gb293]? = some (.cells #[.int .i64 ((aW l1 x9_1).f0), .int .i64 ((aW l1 x9_1).f1)] 24 (0, 0))) := ⟨by (with_reducible repeat (first | refine aH ?_ _ | refine aI ?_ | refine aG ?_ _)); refine bA (cs := #[.int .i64 ((aW l1 x9_1).f0), .int .i64 0]) ?_ 1 _ rfl; (with_reducible repeat (first | refine aH ?_ _ | refine aI ?_ | refine aG ?_ _)); refine bA (cs := #[.int .i64 0, .int .i64 0]) ?_ 0 _ rfl; (with_reducible repeat (first | refine aH ?_ _ | refine aI ?_ | refine aG ?_ _)); exact BK293.out⟩
    have n1_ : Aside0 (Below w.heap.size w ((w31.setCell ⟨gb293, 0, none⟩ (.int .i64 ((aW l1 x9_1).f0))).setCell ⟨gb293, 1, none⟩ (.int .i64 ((aW l1 x9_1).f1)))) := ⟨Short.hB HB⟩
    (try clear BK293)
    (try clear HB)
    generalize ((w31.setCell ⟨gb293, 0, none⟩ (.int .i64 ((aW l1 x9_1).f0))).setCell ⟨gb293, 1, none⟩ (.int .i64 ((aW l1 x9_1).f1))) = w33 at n0_ n1_ ⊢
    revert n0_ n1_
    intro BK293 HB
    have n0_ := mk_ (aI BK293.out)
    have n1_ := mk_ (dE HB.out)
    clear BK293 HB
    revert n0_ n1_
    intro BK293 HB
    refine fM (n := 18) (S := fun w' => w'.cell? ⟨gb293, 0, none⟩ = some (.int .i64 ((aW l1 x9_1).f0)) ∧ w'.cell? ⟨gb293, 1, none⟩ = some (.int .i64 ((aW l1 x9_1).f1))) (ds := []) (Steps.Bs 18 0) z2_ rfl rfl ⟨kc_ BK293 0, kc_ BK293 1⟩ (fun hHeld => ?_); refine cZ eI.tab4 eI.bits4 (fun HT_ HW_ => ?_)
    generalize w33.drew = w34 at BK293 HB hHeld ⊢
    refine tI HT_ 0 14 18 1 ?_
    refine tT HT_ HW_ hHeld 1 15 18 3 ?_
    refine one_ (i := 2) (N := some 16) (Steps.Bs 18 7) rfl rfl (cB HT_.out z2_) z5_ (fun K hK => ?_)
    refine goes_ Tryz.func89 z2_ rfl #[.slice A0 l0.length c0, .agg #[.int .i64 ((aW l1 x9_1).f0), .int .i64 ((aW l1 x9_1).f1)]] (by rfl) rfl rfl z0_ ?_
    with_reducible refine (hO.calls _ _ l0 ((aW l1 x9_1).f0) ((aW l1 x9_1).f1) false _ ?side1 ?side2 A6.out).mono ?_
    (case side1 => exact cX_ (aU HR0.out HB.out))
    (case side2 => exact HC0.out)
    rintro e w35 ⟨rfl, hb⟩
    refine ⟨_, rfl, ?_⟩
    have n0_ := mk_ (bB_ BK293 hb)
    have n1_ := mk_ (aC (Short.hB HB) hb)
    clear BK293 HB
    revert n0_ n1_
    intro BK293 HB
    (try clear hb)
    (try clear hb2)
    (try clear hk)
    (try clear hi)
    refine hK.out _ _ ⟨kc_ BK293 0, kc_ BK293 1⟩ (fun hHeld => ?_)
    clear hK K
    refine nrm 16 ?_
    refine tI HT_ 3 17 18 15 ?_
    refine tI HT_ 4 18 18 31 ?_
    refine tR HT_ 5 19 18 63 ?_
    refine tR HT_ 6 20 18 127 ?_
    refine tR HT_ 7 21 18 255 ?_
    refine tR HT_ 8 22 18 511 ?_
    refine tR HT_ 9 23 18 1023 ?_
    refine tR HT_ 10 24 18 2047 ?_
    refine tR HT_ 11 25 18 4095 ?_
    refine tR HT_ 12 26 18 8191 ?_
    refine tR HT_ 13 27 18 16383 ?_
    refine tR HT_ 14 28 18 32767 ?_
    refine tR HT_ 15 29 18 65535 ?_
    refine tR HT_ 16 30 18 131071 ?_
    refine tI HT_ 17 31 18 262143 ?_
    refine done_ (cC HT_.out z2_) ?_
    try go_wp2
    go_ret
    exact ⟨q0, Short.hB HB⟩
   subst c7
   rw [if_pos rfl] at H
   by_cases c8 : x9_1 > 0
   rotate_left
   ·
    rw [if_neg c8] at H
    have c8b0 : decide (0 < x9_1) = false := decide_eq_false c8
    clear c8
    have H' := mk_ H
    clear H
    have p292 : 0 ≤ (x9_1 : Int) := of_decide_eq_true z1_
    have q292 : x9_1 < (l1.length : Int) := of_decide_eq_true z1_
    obtain ⟨ad292, e292, hx292_0, hx292_1⟩ := fS HR1.out x9_1 p292 q292
    cases e292
    replace hx292_0 := up_ HB hx292_0
    replace hx292_1 := up_ HB hx292_1
    replace p292 := eq_true p292
    replace q292 := eq_true q292
    try go_wp2_with (first | ((with_reducible refine aQ (N := 6) rfl ?_); refine aN ?hg (N := 6) ?hd (cs := #[.int .i64 0, .int .i64 0]) (t := 24) ?hr ?_; (case hd => rfl); (case hg => rfl); (case hr => first | (go_simp; done) | (go_simp; rfl)); intro gb293 hg w26 hbox hb; have n0_ := mk_ (aC (Short.hB HB) hb); have n1_ := mk_ (hbox); have n2_ := mk_ ((by rw [hg]; exact (aA (Short.hB HB)) : w.heap.size ≤ gb293)); have n3_ := mk_ ((by rw [hg]; exact (aA (Short.hB HB)) : w.heap.size ≤ gb293)); clear HB; revert n0_ n1_ n2_ n3_; intro HB BK293 GW293 GE293; clear hb hbox hg; obtain ⟨hcz_0, hcz_1, hfz_0, hfz_1⟩ := Short.c2 BK293.out))
    have n0_ : Aside0 (((w26.setCell ⟨gb293, 0, none⟩ (.int .i64 ((aW l1 x9_1).f0))).setCell ⟨gb293, 1, none⟩ (.int .i64 ((aW l1 x9_1).f1))).heap[gb293]? = some (.cells #[.int .i64 ((aW l1 x9_1).f0), .int .i64 ((aW l1 x9_1).f1)] 24 (0, 0))) := ⟨by (with_reducible repeat (first | refine aH ?_ _ | refine aI ?_ | refine aG ?_ _)); refine bA (cs := #[.int .i64 ((aW l1 x9_1).f0), .int .i64 0]) ?_ 1 _ rfl; (with_reducible repeat (first | refine aH ?_ _ | refine aI ?_ | refine aG ?_ _)); refine bA (cs := #[.int .i64 0, .int .i64 0]) ?_ 0 _ rfl; (with_reducible repeat (first | refine aH ?_ _ | refine aI ?_ | refine aG ?_ _)); exact BK293.out⟩
    have n1_ : Aside0 (Below w.heap.size w ((w26.setCell ⟨gb293, 0, none⟩ (.int .i64 ((aW l1 x9_1).f0))).setCell ⟨gb293, 1, none⟩ (.int .i64 ((aW l1 x9_1).f1)))) := ⟨Short.hB HB⟩
    (try clear BK293)
    (try clear HB)
    generalize ((w26.setCell ⟨gb293, 0, none⟩ (.int .i64 ((aW l1 x9_1).f0))).setCell ⟨gb293, 1, none⟩ (.int .i64 ((aW l1 x9_1).f1))) = w28 at n0_ n1_ ⊢
    revert n0_ n1_
    intro BK293 HB
    have n0_ := mk_ (aI BK293.out)
    have n1_ := mk_ (dE HB.out)
    clear BK293 HB
    revert n0_ n1_
    intro BK293 HB
    refine fM (n := 18) (S := fun w' => w'.cell? ⟨gb293, 0, none⟩ = some (.int .i64 ((aW l1 x9_1).f0)) ∧ w'.cell? ⟨gb293, 1, none⟩ = some (.int .i64 ((aW l1 x9_1).f1))) (ds := []) (Steps.Bs 18 0) z2_ rfl rfl ⟨kc_ BK293 0, kc_ BK293 1⟩ (fun hHeld => ?_); refine cZ eI.tab4 eI.bits4 (fun HT_ HW_ => ?_)
    generalize w28.drew = w29 at BK293 HB hHeld ⊢
    refine tI HT_ 0 14 18 1 ?_
    refine tT HT_ HW_ hHeld 1 15 18 3 ?_
    refine one_ (i := 2) (N := some 16) (Steps.Bs 18 7) rfl rfl (cB HT_.out z2_) z5_ (fun K hK => ?_)
    refine goes_ Tryz.func89 z2_ rfl #[.slice A0 l0.length c0, .agg #[.int .i64 ((aW l1 x9_1).f0), .int .i64 ((aW l1 x9_1).f1)]] (by rfl) rfl rfl z0_ ?_
    with_reducible refine (hO.calls _ _ l0 ((aW l1 x9_1).f0) ((aW l1 x9_1).f1) true _ ?side1 ?side2 A6.out).mono ?_
    (case side1 => exact cX_ (aU HR0.out HB.out))
    (case side2 => exact HC0.out)
    rintro e w30 ⟨rfl, hb⟩
    refine ⟨_, rfl, ?_⟩
    have n0_ := mk_ (bB_ BK293 hb)
    have n1_ := mk_ (aC (Short.hB HB) hb)
    clear BK293 HB
    revert n0_ n1_
    intro BK293 HB
    (try clear hb)
    (try clear hb2)
    (try clear hk)
    (try clear hi)
    refine hK.out _ _ ⟨kc_ BK293 0, kc_ BK293 1⟩ (fun hHeld => ?_)
    clear hK K
    refine nrm 16 ?_
    refine tI HT_ 3 17 18 15 ?_
    refine tI HT_ 4 18 18 31 ?_
    refine tI HT_ 5 19 18 63 ?_
    refine tI HT_ 6 20 18 127 ?_
    refine tI HT_ 7 21 18 255 ?_
    refine tR HT_ 8 22 18 511 ?_
    refine tR HT_ 9 23 18 1023 ?_
    refine tR HT_ 10 24 18 2047 ?_
    refine tR HT_ 11 25 18 4095 ?_
    refine tR HT_ 12 26 18 8191 ?_
    refine tR HT_ 13 27 18 16383 ?_
    refine tR HT_ 14 28 18 32767 ?_
    refine tR HT_ 15 29 18 65535 ?_
    refine tI HT_ 16 30 18 131071 ?_
    refine tI HT_ 17 31 18 262143 ?_
    refine done_ (cC HT_.out z2_) ?_
    try go_wp2
    go_roundg k1
    case measure => have := HK1.out; omega
    case rel => exact ⟨(wrap64 (x9_1 + 1)), z4_, H', ⟨by have := HK1.out; omega⟩, ⟨Short.hB HB⟩⟩
   rw [if_pos c8] at H
   have c8b0 : decide (0 < x9_1) = true := decide_eq_true c8
   clear c8
   obtain ⟨ji9, hji9⟩ : ∃ j_ : Int, (wrap64 (x9_1 - 1)) = j_ := ⟨_, rfl⟩
   replace H : (if 0 ≤ (ji9) then (if (ji9) < (l1.length : Int) then ((gY.f k1 ((aW l1 (ji9)).f0) ((aW l1 (ji9)).f1) ((aW l1 x9_1).f0) ((aW l1 x9_1).f1)).bind fun t296 => (if t296 = true then (eI.l0 k1 l0 l1 l1 (l1.length : Int) (wrap64 (x9_1 + 1))) else (some false))) else (none)) else (none)) = some r := by first | (rw [hji9] at H; exact H) | (simp only [hji9] at H ⊢; exact H)
   (try rw [hji9] at A6)
   have hji9w : (IntKind.i64.wrap (x9_1 - 1)) = ji9 := (i64_w _).trans hji9
   by_cases c10 : 0 ≤ (ji9)
   rotate_left
   ·
    rw [if_neg c10] at H
    exact absurd H z6_
   rw [if_pos c10] at H
   have c10b0 : decide (0 ≤ (ji9)) = true := decide_eq_true c10
   clear c10
   by_cases c11 : (ji9) < (l1.length : Int)
   rotate_left
   ·
    rw [if_neg c11] at H
    exact absurd H z6_
   rw [if_pos c11] at H
   have c11b0 : decide ((ji9) < (l1.length : Int)) = true := decide_eq_true c11
   clear c11
   obtain ⟨t296, A12, H⟩ := Option.bind_eq_some_iff.mp H
   replace A12 := mk_ A12
   by_cases c13 : t296 = true
   rotate_left
   ·
    replace c13 := Bool.eq_false_iff.mpr c13
    subst c13
    rw [if_neg (show ¬ (false = true) by decide)] at H
    obtain rfl := Option.some.inj H
    have p292 : 0 ≤ (x9_1 : Int) := of_decide_eq_true z1_
    have q292 : x9_1 < (l1.length : Int) := of_decide_eq_true z1_
    obtain ⟨ad292, e292, hx292_0, hx292_1⟩ := fS HR1.out x9_1 p292 q292
    cases e292
    replace hx292_0 := up_ HB hx292_0
    replace hx292_1 := up_ HB hx292_1
    replace p292 := eq_true p292
    replace q292 := eq_true q292
    try go_wp2_with (first | ((with_reducible refine aQ (N := 6) rfl ?_); refine aN ?hg (N := 6) ?hd (cs := #[.int .i64 0, .int .i64 0]) (t := 24) ?hr ?_; (case hd => rfl); (case hg => rfl); (case hr => first | (go_simp; done) | (go_simp; rfl)); intro gb293 hg w20 hbox hb; have n0_ := mk_ (aC (Short.hB HB) hb); have n1_ := mk_ (hbox); have n2_ := mk_ ((by rw [hg]; exact (aA (Short.hB HB)) : w.heap.size ≤ gb293)); have n3_ := mk_ ((by rw [hg]; exact (aA (Short.hB HB)) : w.heap.size ≤ gb293)); clear HB; revert n0_ n1_ n2_ n3_; intro HB BK293 GW293 GE293; clear hb hbox hg; obtain ⟨hcz_0, hcz_1, hfz_0, hfz_1⟩ := Short.c2 BK293.out))
    have n0_ : Aside0 (((w20.setCell ⟨gb293, 0, none⟩ (.int .i64 ((aW l1 x9_1).f0))).setCell ⟨gb293, 1, none⟩ (.int .i64 ((aW l1 x9_1).f1))).heap[gb293]? = some (.cells #[.int .i64 ((aW l1 x9_1).f0), .int .i64 ((aW l1 x9_1).f1)] 24 (0, 0))) := ⟨by (with_reducible repeat (first | refine aH ?_ _ | refine aI ?_ | refine aG ?_ _)); refine bA (cs := #[.int .i64 ((aW l1 x9_1).f0), .int .i64 0]) ?_ 1 _ rfl; (with_reducible repeat (first | refine aH ?_ _ | refine aI ?_ | refine aG ?_ _)); refine bA (cs := #[.int .i64 0, .int .i64 0]) ?_ 0 _ rfl; (with_reducible repeat (first | refine aH ?_ _ | refine aI ?_ | refine aG ?_ _)); exact BK293.out⟩
    have n1_ : Aside0 (Below w.heap.size w ((w20.setCell ⟨gb293, 0, none⟩ (.int .i64 ((aW l1 x9_1).f0))).setCell ⟨gb293, 1, none⟩ (.int .i64 ((aW l1 x9_1).f1)))) := ⟨Short.hB HB⟩
    (try clear BK293)
    (try clear HB)
    generalize ((w20.setCell ⟨gb293, 0, none⟩ (.int .i64 ((aW l1 x9_1).f0))).setCell ⟨gb293, 1, none⟩ (.int .i64 ((aW l1 x9_1).f1))) = w22 at n0_ n1_ ⊢
    revert n0_ n1_
    intro BK293 HB
    have n0_ := mk_ (aI BK293.out)
    have n1_ := mk_ (dE HB.out)
    clear BK293 HB
    revert n0_ n1_
    intro BK293 HB
    have p295 : 0 ≤ ((ji9) : Int) := of_decide_eq_true z1_
    have q295 : (ji9) < (l1.length : Int) := of_decide_eq_true z1_
    obtain ⟨ad295, e295, hx295_0, hx295_1⟩ := fS HR1.out (ji9) p295 q295
    have hw295_1 := hx295_1
    have hw295_0 := hx295_0
    obtain rfl : ad292 = ad295 := (by injection e295)
    replace hx295_0 := up_ HB hx295_0
    replace hx295_1 := up_ HB hx295_1
    replace p295 := eq_true p295
    replace q295 := eq_true q295
    refine fM (n := 18) (S := fun w' => w'.cell? ⟨gb293, 0, none⟩ = some (.int .i64 ((aW l1 x9_1).f0)) ∧ w'.cell? ⟨gb293, 1, none⟩ = some (.int .i64 ((aW l1 x9_1).f1)) ∧ w'.cell? (ad292.add (((ji9)).toNat * 2)) = some (.int .i64 ((aW l1 (ji9)).f0)) ∧ w'.cell? ⟨(ad292.add (((ji9)).toNat * 2)).block, (ad292.add (((ji9)).toNat * 2)).off + 1, none⟩ = some (.int .i64 ((aW l1 (ji9)).f1))) (ds := []) (Steps.Bs 18 0) z2_ rfl rfl ⟨kc_ BK293 0, kc_ BK293 1, ((HB.out.cell (World.block_lt_of_cell? w _ hw295_0)).trans hw295_0), ((HB.out.cell (World.block_lt_of_cell? w _ hw295_1)).trans hw295_1)⟩ (fun hHeld => ?_); refine cZ eI.tab4 eI.bits4 (fun HT_ HW_ => ?_)
    generalize w22.drew = w23 at BK293 HB hx295_0 hx295_1 hHeld ⊢
    refine tI HT_ 0 14 18 1 ?_
    refine tT HT_ HW_ hHeld 1 15 18 3 ?_
    refine one_ (i := 2) (N := some 16) (Steps.Bs 18 7) rfl rfl (cB HT_.out z2_) z5_ (fun K hK => ?_)
    refine goes_ Tryz.func89 z2_ rfl #[.slice A0 l0.length c0, .agg #[.int .i64 ((aW l1 x9_1).f0), .int .i64 ((aW l1 x9_1).f1)]] (by rfl) rfl rfl z0_ ?_
    with_reducible refine (hO.calls _ _ l0 ((aW l1 x9_1).f0) ((aW l1 x9_1).f1) true _ ?side1 ?side2 A6.out).mono ?_
    (case side1 => exact cX_ (aU HR0.out HB.out))
    (case side2 => exact HC0.out)
    rintro e w24 ⟨rfl, hb⟩
    refine ⟨_, rfl, ?_⟩
    have n0_ := mk_ (bB_ BK293 hb)
    have n1_ := mk_ (aC (Short.hB HB) hb)
    clear BK293 HB
    revert n0_ n1_
    intro BK293 HB
    (try clear hb)
    (try clear hb2)
    (try clear hk)
    (try clear hi)
    refine hK.out _ _ ⟨kc_ BK293 0, kc_ BK293 1, ((HB.out.cell (World.block_lt_of_cell? w _ hw295_0)).trans hw295_0), ((HB.out.cell (World.block_lt_of_cell? w _ hw295_1)).trans hw295_1)⟩ (fun hHeld => ?_)
    clear hK K
    refine nrm 16 ?_
    refine tI HT_ 3 17 18 15 ?_
    refine tI HT_ 4 18 18 31 ?_
    refine tI HT_ 5 19 18 63 ?_
    refine tI HT_ 6 20 18 127 ?_
    refine tI HT_ 7 21 18 255 ?_
    refine tI HT_ 8 22 18 511 ?_
    refine tI HT_ 9 23 18 1023 ?_
    refine tI HT_ 10 24 18 2047 ?_
    refine tI HT_ 11 25 18 4095 ?_
    refine tT HT_ HW_ hHeld 12 26 18 8191 ?_
    refine tT HT_ HW_ hHeld 13 27 18 16383 ?_
    refine one_ (i := 14) (N := some 28) (Steps.Bs 18 32767) rfl rfl (cB HT_.out z2_) z5_ (fun K hK => ?_)
    refine goes_ Tryz.func90 z2_ rfl #[.agg #[.int .i64 ((aW l1 (ji9)).f0), .int .i64 ((aW l1 (ji9)).f1)], .agg #[.int .i64 ((aW l1 x9_1).f0), .int .i64 ((aW l1 x9_1).f1)]] (by rfl) rfl rfl (by (try simp only [List.map_toArray, List.map_cons, List.map_nil]); first | done | (simp only [hji9]; rfl) | rfl | (simp only [List.length_drop, List.length_take]; rfl) | (go_simp; done) | (simp; done)) ?_
    with_reducible refine (gY.calls k1 ((aW l1 (ji9)).f0) ((aW l1 (ji9)).f1) ((aW l1 x9_1).f0) ((aW l1 x9_1).f1) false _ A12.out).mono ?_
    rintro e w25 ⟨rfl, hb⟩
    refine ⟨_, rfl, ?_⟩
    have n0_ := mk_ (bB_ BK293 hb)
    have n1_ := mk_ (aC (Short.hB HB) hb)
    clear BK293 HB
    revert n0_ n1_
    intro BK293 HB
    (try clear hb)
    (try clear hb2)
    (try clear hk)
    (try clear hi)
    refine hK.out _ _ ⟨kc_ BK293 0, kc_ BK293 1, ((HB.out.cell (World.block_lt_of_cell? w _ hw295_0)).trans hw295_0), ((HB.out.cell (World.block_lt_of_cell? w _ hw295_1)).trans hw295_1)⟩ (fun hHeld => ?_)
    clear hK K
    refine nrm 28 ?_
    refine tI HT_ 15 29 18 65535 ?_
    refine tI HT_ 16 30 18 131071 ?_
    refine tI HT_ 17 31 18 262143 ?_
    refine done_ (cC HT_.out z2_) ?_
    try go_wp2
    go_ret
    exact ⟨by first | rfl | (simp [aZ, aY] <;> rfl) | (simp only [← hji9]; first | rfl | (simp [aZ, aY] <;> rfl)) | (simp [*, aZ, aY] <;> rfl), Short.hB HB⟩
   subst c13
   rw [if_pos rfl] at H
   have H' := mk_ H
   clear H
   have p292 : 0 ≤ (x9_1 : Int) := of_decide_eq_true z1_
   have q292 : x9_1 < (l1.length : Int) := of_decide_eq_true z1_
   obtain ⟨ad292, e292, hx292_0, hx292_1⟩ := fS HR1.out x9_1 p292 q292
   cases e292
   replace hx292_0 := up_ HB hx292_0
   replace hx292_1 := up_ HB hx292_1
   replace p292 := eq_true p292
   replace q292 := eq_true q292
   try go_wp2_with (first | ((with_reducible refine aQ (N := 6) rfl ?_); refine aN ?hg (N := 6) ?hd (cs := #[.int .i64 0, .int .i64 0]) (t := 24) ?hr ?_; (case hd => rfl); (case hg => rfl); (case hr => first | (go_simp; done) | (go_simp; rfl)); intro gb293 hg w14 hbox hb; have n0_ := mk_ (aC (Short.hB HB) hb); have n1_ := mk_ (hbox); have n2_ := mk_ ((by rw [hg]; exact (aA (Short.hB HB)) : w.heap.size ≤ gb293)); have n3_ := mk_ ((by rw [hg]; exact (aA (Short.hB HB)) : w.heap.size ≤ gb293)); clear HB; revert n0_ n1_ n2_ n3_; intro HB BK293 GW293 GE293; clear hb hbox hg; obtain ⟨hcz_0, hcz_1, hfz_0, hfz_1⟩ := Short.c2 BK293.out))
   have n0_ : Aside0 (((w14.setCell ⟨gb293, 0, none⟩ (.int .i64 ((aW l1 x9_1).f0))).setCell ⟨gb293, 1, none⟩ (.int .i64 ((aW l1 x9_1).f1))).heap[gb293]? = some (.cells #[.int .i64 ((aW l1 x9_1).f0), .int .i64 ((aW l1 x9_1).f1)] 24 (0, 0))) := ⟨by (with_reducible repeat (first | refine aH ?_ _ | refine aI ?_ | refine aG ?_ _)); refine bA (cs := #[.int .i64 ((aW l1 x9_1).f0), .int .i64 0]) ?_ 1 _ rfl; (with_reducible repeat (first | refine aH ?_ _ | refine aI ?_ | refine aG ?_ _)); refine bA (cs := #[.int .i64 0, .int .i64 0]) ?_ 0 _ rfl; (with_reducible repeat (first | refine aH ?_ _ | refine aI ?_ | refine aG ?_ _)); exact BK293.out⟩
   have n1_ : Aside0 (Below w.heap.size w ((w14.setCell ⟨gb293, 0, none⟩ (.int .i64 ((aW l1 x9_1).f0))).setCell ⟨gb293, 1, none⟩ (.int .i64 ((aW l1 x9_1).f1)))) := ⟨Short.hB HB⟩
   (try clear BK293)
   (try clear HB)
   generalize ((w14.setCell ⟨gb293, 0, none⟩ (.int .i64 ((aW l1 x9_1).f0))).setCell ⟨gb293, 1, none⟩ (.int .i64 ((aW l1 x9_1).f1))) = w16 at n0_ n1_ ⊢
   revert n0_ n1_
   intro BK293 HB
   have n0_ := mk_ (aI BK293.out)
   have n1_ := mk_ (dE HB.out)
   clear BK293 HB
   revert n0_ n1_
   intro BK293 HB
   have p295 : 0 ≤ ((ji9) : Int) := of_decide_eq_true z1_
   have q295 : (ji9) < (l1.length : Int) := of_decide_eq_true z1_
   obtain ⟨ad295, e295, hx295_0, hx295_1⟩ := fS HR1.out (ji9) p295 q295
   have hw295_1 := hx295_1
   have hw295_0 := hx295_0
   obtain rfl : ad292 = ad295 := (by injection e295)
   replace hx295_0 := up_ HB hx295_0
   replace hx295_1 := up_ HB hx295_1
   replace p295 := eq_true p295
   replace q295 := eq_true q295
   refine fM (n := 18) (S := fun w' => w'.cell? ⟨gb293, 0, none⟩ = some (.int .i64 ((aW l1 x9_1).f0)) ∧ w'.cell? ⟨gb293, 1, none⟩ = some (.int .i64 ((aW l1 x9_1).f1)) ∧ w'.cell? (ad292.add (((ji9)).toNat * 2)) = some (.int .i64 ((aW l1 (ji9)).f0)) ∧ w'.cell? ⟨(ad292.add (((ji9)).toNat * 2)).block, (ad292.add (((ji9)).toNat * 2)).off + 1, none⟩ = some (.int .i64 ((aW l1 (ji9)).f1))) (ds := []) (Steps.Bs 18 0) z2_ rfl rfl ⟨kc_ BK293 0, kc_ BK293 1, ((HB.out.cell (World.block_lt_of_cell? w _ hw295_0)).trans hw295_0), ((HB.out.cell (World.block_lt_of_cell? w _ hw295_1)).trans hw295_1)⟩ (fun hHeld => ?_); refine cZ eI.tab4 eI.bits4 (fun HT_ HW_ => ?_)
   generalize w16.drew = w17 at BK293 HB hx295_0 hx295_1 hHeld ⊢
   refine tI HT_ 0 14 18 1 ?_
   refine tT HT_ HW_ hHeld 1 15 18 3 ?_
   refine one_ (i := 2) (N := some 16) (Steps.Bs 18 7) rfl rfl (cB HT_.out z2_) z5_ (fun K hK => ?_)
   refine goes_ Tryz.func89 z2_ rfl #[.slice A0 l0.length c0, .agg #[.int .i64 ((aW l1 x9_1).f0), .int .i64 ((aW l1 x9_1).f1)]] (by rfl) rfl rfl z0_ ?_
   with_reducible refine (hO.calls _ _ l0 ((aW l1 x9_1).f0) ((aW l1 x9_1).f1) true _ ?side1 ?side2 A6.out).mono ?_
   (case side1 => exact cX_ (aU HR0.out HB.out))
   (case side2 => exact HC0.out)
   rintro e w18 ⟨rfl, hb⟩
   refine ⟨_, rfl, ?_⟩
   have n0_ := mk_ (bB_ BK293 hb)
   have n1_ := mk_ (aC (Short.hB HB) hb)
   clear BK293 HB
   revert n0_ n1_
   intro BK293 HB
   (try clear hb)
   (try clear hb2)
   (try clear hk)
   (try clear hi)
   refine hK.out _ _ ⟨kc_ BK293 0, kc_ BK293 1, ((HB.out.cell (World.block_lt_of_cell? w _ hw295_0)).trans hw295_0), ((HB.out.cell (World.block_lt_of_cell? w _ hw295_1)).trans hw295_1)⟩ (fun hHeld => ?_)
   clear hK K
   refine nrm 16 ?_
   refine tI HT_ 3 17 18 15 ?_
   refine tI HT_ 4 18 18 31 ?_
   refine tI HT_ 5 19 18 63 ?_
   refine tI HT_ 6 20 18 127 ?_
   refine tI HT_ 7 21 18 255 ?_
   refine tI HT_ 8 22 18 511 ?_
   refine tI HT_ 9 23 18 1023 ?_
   refine tI HT_ 10 24 18 2047 ?_
   refine tI HT_ 11 25 18 4095 ?_
   refine tT HT_ HW_ hHeld 12 26 18 8191 ?_
   refine tT HT_ HW_ hHeld 13 27 18 16383 ?_
   refine one_ (i := 14) (N := some 28) (Steps.Bs 18 32767) rfl rfl (cB HT_.out z2_) z5_ (fun K hK => ?_)
   refine goes_ Tryz.func90 z2_ rfl #[.agg #[.int .i64 ((aW l1 (ji9)).f0), .int .i64 ((aW l1 (ji9)).f1)], .agg #[.int .i64 ((aW l1 x9_1).f0), .int .i64 ((aW l1 x9_1).f1)]] (by rfl) rfl rfl (by (try simp only [List.map_toArray, List.map_cons, List.map_nil]); first | done | (simp only [hji9]; rfl) | rfl | (simp only [List.length_drop, List.length_take]; rfl) | (go_simp; done) | (simp; done)) ?_
   with_reducible refine (gY.calls k1 ((aW l1 (ji9)).f0) ((aW l1 (ji9)).f1) ((aW l1 x9_1).f0) ((aW l1 x9_1).f1) true _ A12.out).mono ?_
   rintro e w19 ⟨rfl, hb⟩
   refine ⟨_, rfl, ?_⟩
   have n0_ := mk_ (bB_ BK293 hb)
   have n1_ := mk_ (aC (Short.hB HB) hb)
   clear BK293 HB
   revert n0_ n1_
   intro BK293 HB
   (try clear hb)
   (try clear hb2)
   (try clear hk)
   (try clear hi)
   refine hK.out _ _ ⟨kc_ BK293 0, kc_ BK293 1, ((HB.out.cell (World.block_lt_of_cell? w _ hw295_0)).trans hw295_0), ((HB.out.cell (World.block_lt_of_cell? w _ hw295_1)).trans hw295_1)⟩ (fun hHeld => ?_)
   clear hK K
   refine nrm 28 ?_
   refine tI HT_ 15 29 18 65535 ?_
   refine tI HT_ 16 30 18 131071 ?_
   refine tI HT_ 17 31 18 262143 ?_
   refine done_ (cC HT_.out z2_) ?_
   try go_wp2
   go_roundg k1
   case measure => have := HK1.out; omega
   case rel => exact ⟨(wrap64 (x9_1 + 1)), z4_, H', ⟨by have := HK1.out; omega⟩, ⟨Short.hB HB⟩⟩
end Go.Proofs.YtjnjfogfpmeacaaGreat.PAll
end
section
namespace Go.Proofs.YtjnjfogfpmeacaaGreat.Ops
open Go.RowKit PAll Plain PrintWords PrintMore ZipT PrintWords.Kd PrintMore.Kd
set_option linter.unusedVariables false
set_option linter.unusedSimpArgs false
def keyB (t : ByteArray) : Bool := decide (1 ≤ t.size ∧ t.size ≤ 12)
theorem key_eq (t : ByteArray) : gP.f t = some (keyB t) := by
 unfold gP.f keyB
 by_cases h : (t.size : Int) ≥ 1
 ·
  rw [if_pos h]; congr 1; rw [decide_eq_decide]; omega
 rw [if_neg h, decide_eq_false z3_]
theorem rkey_eq (t : ByteArray) : eW.f t = some (keyB t) := by
 unfold eW.f keyB
 rw [fZ, Option.bind_some]; congr 1; rw [decide_eq_decide]; omega
def badSeq (c : Int) : Bool := decide (c < 0 ∨ c > 1073741824)
def vecE (l : List Int) : Int := if l.length < 1 ∨ l.length > 5 then 2 else if l.any badSeq = true then 1 else 0
theorem seq_eq (c : Int) : fT.f c = some (badSeq c) := by
 unfold fT.f badSeq
 by_cases h : c < 0
 ·
  rw [if_pos h, decide_eq_true (.inl h)]
 rw [if_neg h]; congr 1; rw [decide_eq_decide]; omega
theorem index_seq (l : List Int) (hl : l.length ≤ 1000000) (m : List Int) : ∀ (k i : Nat), l.drop i = m → m.length < k →
  ∃ r, bD.l0 k l (l.length : Int) (i : Int) = some r ∧ (r ≥ 0 ↔ m.any badSeq = true) := by
 induction m with
 | nil =>
  intro k i h hk
  obtain ⟨k, rfl⟩ : ∃ j, k = j + 1 := ⟨k - 1, by omega⟩
  have := dI h
  refine ⟨-1, ?_, by simp⟩
  simp only [bD.l0]
  rw [if_neg z3_]
 | cons v m ih =>
  intro k i h hk
  obtain ⟨k, rfl⟩ : ∃ j, k = j + 1 := ⟨k - 1, by omega⟩
  have hi := dO h
  simp only [bD.l0]
  rw [if_pos z3_, if_pos z3_, if_pos z3_, gB h, seq_eq, Option.bind_some]
  cases ho : badSeq v
  ·
   obtain ⟨r, h1, h2⟩ := ih k (i + 1) (cM h) (by simp at hk; omega)
   refine ⟨r, ?_, ?_⟩
   ·
    rw [if_neg z5_, w64 z3_ z3_]; exact h1
   ·
    rw [h2, List.any_cons, ho, Bool.false_or]
  ·
   refine ⟨i, ?_, ?_⟩
   ·
    rw [if_pos rfl]
   ·
    rw [List.any_cons, ho, Bool.true_or]; simp
theorem contains_seq (k : Nat) (l : List Int) (hl : l.length ≤ 1000000) (hk : l.length < k) : cH.f k l () = some (l.any badSeq) := by
 obtain ⟨r, h1, h2⟩ := index_seq l hl l k 0 rfl hk
 unfold cH.f bD.f
 rw [show ((0 : Nat) : Int) = 0 from rfl] at h1
 rw [h1, Option.bind_some]
 congr 1
 cases hz : l.any badSeq
 ·
  rw [hz] at h2; exact decide_eq_false (fun h => by simpa using h2.1 h)
 ·
  rw [hz] at h2; exact decide_eq_true (h2.2 rfl)
theorem vec_eq (k : Nat) (l : List Int) (hl : l.length ≤ 1000000) (hk : l.length + 2 ≤ k) : eZ.f k l = some (vecE l) := by
 obtain ⟨k, rfl⟩ : ∃ j, k = j + 1 := ⟨k - 1, by omega⟩
 unfold eZ.f vecE
 have hj : ∀ b : Bool, eZ.j0 (k + 1) l b = if b = true then some 2 else some (if l.any badSeq = true then 1 else 0) := fun b => by
  simp only [eZ.j0]
  cases b
  ·
   rw [if_neg z5_, if_neg z5_, contains_seq _ _ z3_ z3_, Option.bind_some]
   cases l.any badSeq <;> rfl
  ·
   rfl
 rw [hj, hj]
 by_cases h1 : (l.length : Int) < 1
 ·
  rw [if_pos h1, if_pos rfl, if_pos z3_]
 rw [if_neg h1]
 by_cases h2 : (l.length : Int) > 5
 ·
  rw [decide_eq_true h2, if_pos rfl, if_pos z3_]
 rw [decide_eq_false h2, if_neg z5_, if_neg (show ¬ (l.length < 1 ∨ l.length > 5) by omega)]
theorem rvec_l0 (l : List Int) (hl : l.length ≤ 1000000) (m : List Int) : ∀ (k i : Nat), l.drop i = m → m.length < k → cI.l0 k l (i : Int) = some (if m.any badSeq = true then 1 else 0) := by
 induction m with
 | nil =>
  intro k i h hk
  obtain ⟨k, rfl⟩ : ∃ j, k = j + 1 := ⟨k - 1, by omega⟩
  have := dI h
  simp only [cI.l0]
  rw [if_neg z3_]; rfl
 | cons v m ih =>
  intro k i h hk
  obtain ⟨k, rfl⟩ : ∃ j, k = j + 1 := ⟨k - 1, by omega⟩
  have hi := dO h
  simp only [List.length_cons] at hk
  simp only [cI.l0]
  rw [if_pos z3_, if_pos z3_, gB h, fZ, Option.bind_some, List.any_cons]
  by_cases ho : 0 ≤ v ∧ v ≤ 1073741824
  rotate_left
  ·
   have hb : badSeq v = true := decide_eq_true z3_
   rw [decide_eq_false ho, if_neg z5_, hb, Bool.true_or, if_pos rfl]
  have hb : badSeq v = false := decide_eq_false z3_
  rw [decide_eq_true ho, if_pos rfl, w64 z3_ z3_, hb, Bool.false_or]
  exact ih k (i + 1) (cM h) z3_
theorem rvec_eq (k : Nat) (l : List Int) (hl : l.length ≤ 1000000) (hk : l.length + 2 ≤ k) : cI.f k l = some (vecE l) := by
 unfold cI.f vecE
 rw [fZ, Option.bind_some]
 by_cases h : (1 : Int) ≤ l.length ∧ (l.length : Int) ≤ 5
 rotate_left
 ·
  rw [decide_eq_false h, if_neg z5_, if_pos z3_]
 rw [decide_eq_true h, if_pos rfl, if_neg z3_]
 exact rvec_l0 l hl l k 0 rfl z3_
def stampOk (t : St) : Prop := ((0 ≤ t.f0 ∧ t.f0 ≤ 1099511627776) ∧ (0 ≤ t.f1 ∧ t.f1 ≤ 65536)) ∧ (0 ≤ t.f2 ∧ t.f2 ≤ 4)
instance (t : St) : Decidable (stampOk t) := by unfold stampOk; infer_instance
theorem hin_eq (a b : Int) : fR.f a b = some (decide (0 ≤ a ∧ a ≤ b)) := by
 unfold fR.f
 by_cases h : a ≥ 0
 ·
  rw [if_pos h]; congr 1; rw [decide_eq_decide]; omega
 rw [if_neg h, decide_eq_false z3_]
theorem hlc_eq (t : St) : hZ.f t.f0 t.f1 t.f2 = some (if stampOk t then 0 else 1) := by
 unfold hZ.f stampOk
 simp only [hin_eq, Option.bind_some, decide_eq_true_eq]
 by_cases h1 : 0 ≤ t.f0 ∧ t.f0 ≤ 1099511627776 <;> by_cases h2 : 0 ≤ t.f1 ∧ t.f1 ≤ 65536 <;> by_cases h3 : 0 ≤ t.f2 ∧ t.f2 ≤ 4 <;> simp only [h1, h2, h3, if_true, if_false, and_true, and_false, and_self, true_and, false_and]
theorem rstamp_eq (t : St) : fC.f t.f0 t.f1 t.f2 = some (decide (stampOk t)) := by
 unfold fC.f stampOk
 simp only [fZ, Option.bind_some, decide_eq_true_eq]
 by_cases h1 : 0 ≤ t.f0 ∧ t.f0 ≤ 1099511627776 <;> by_cases h2 : 0 ≤ t.f1 ∧ t.f1 ≤ 65536 <;> by_cases h3 : 0 ≤ t.f2 ∧ t.f2 ≤ 4 <;> simp only [h1, h2, h3, if_true, if_false, and_true, and_false, and_self, true_and, false_and, decide_true, decide_false]
def hasB (v : List Int) (d : Dt) : Bool := decide ((0 ≤ d.f0 ∧ d.f0 < v.length) ∧ 1 ≤ d.f1 ∧ d.f1 ≤ rd v d.f0)
theorem has_eq (v : List Int) (d : Dt) : hO.f v d.f0 d.f1 = some (hasB v d) := by
 have hin : gC.f v d.f0 = some (decide (0 ≤ d.f0 ∧ d.f0 < (v.length : Int))) := by
  unfold gC.f
  by_cases h : d.f0 ≥ 0
  ·
   rw [if_pos h]; congr 1; rw [decide_eq_decide]; omega
  ·
   rw [if_neg h, decide_eq_false z3_]
 unfold hO.f hasB
 rw [hin, Option.bind_some]
 by_cases h : 0 ≤ d.f0 ∧ d.f0 < (v.length : Int)
 rotate_left
 ·
  rw [decide_eq_false h, if_neg z5_, decide_eq_false (fun e => h e.1)]
 rw [decide_eq_true h, if_pos rfl, if_pos h.1, if_pos h.2]
 by_cases h1 : d.f1 ≥ 1
 ·
  rw [if_pos h1]; congr 1; rw [decide_eq_decide]; exact ⟨fun e => ⟨h, h1, e⟩, fun e => e.2.2⟩
 rw [if_neg h1, decide_eq_false (fun e => h1 e.2.1)]
theorem rhas_eq (v : List Int) (d : Dt) (hv : v.length ≤ 1000000) : fG.f v d.f0 d.f1 = some (hasB v d) := by
 unfold fG.f hasB
 rw [fZ, Option.bind_some, w64 z3_ z3_]
 by_cases h : 0 ≤ d.f0 ∧ d.f0 < (v.length : Int)
 rotate_left
 ·
  rw [decide_eq_false (show ¬ (0 ≤ d.f0 ∧ d.f0 ≤ (v.length : Int) - 1) by omega), if_neg z5_, decide_eq_false (fun e => h e.1)]
 rw [decide_eq_true (show 0 ≤ d.f0 ∧ d.f0 ≤ (v.length : Int) - 1 by omega), if_pos rfl, if_pos h.1, if_pos h.2]
 by_cases h1 : d.f1 ≥ 1
 ·
  rw [if_pos h1]; congr 1; rw [decide_eq_decide]; exact ⟨fun e => ⟨h, h1, e⟩, fun e => e.2.2⟩
 rw [if_neg h1, decide_eq_false (fun e => h1 e.2.1)]
def lessD (a b : Dt) : Bool := decide (a.f0 < b.f0 ∨ a.f0 = b.f0 ∧ a.f1 < b.f1)
theorem cmpi_eq (a b : Int) : dY.f a b = some (if a < b then -1 else if a > b then 1 else 0) := by
 unfold dY.f cV.f
 simp only [bne_self_eq_false, Option.bind_some]
 rw [if_neg z5_, if_neg z5_]
 split
 ·
  rfl
 ·
  split <;> rfl
theorem ori_eq (k : Nat) (a b : Int) (hk : 3 ≤ k) : dZ.f k [a, b] = some (if a = 0 then b else a) := by
 obtain ⟨k, rfl⟩ : ∃ j, k = j + 3 := ⟨k - 3, by omega⟩
 have e1 : wrap64 ((0 : Int) + 1) = 1 := w64 z3_ z3_
 have e2 : wrap64 ((1 : Int) + 1) = 2 := w64 z3_ z3_
 have r0 : rd [a, b] 0 = a := rfl
 have r1 : rd [a, b] 1 = b := rfl
 unfold dZ.f
 simp only [dZ.l0, List.length_cons, List.length_nil]
 rw [if_pos z3_, if_pos z3_, if_pos z3_, r0, e1]
 by_cases h : a = 0
 rotate_left
 ·
  rw [if_neg h, if_neg h]
 rw [if_pos h, if_pos h, if_pos z3_, if_pos z3_, if_pos z3_, r1, e2]
 by_cases h2 : b = 0
 ·
  rw [if_pos h2, h2, if_neg z3_]
 rw [if_neg h2]
theorem less_eq (k : Nat) (a b : Dt) (hk : 3 ≤ k) : gY.f k a.f0 a.f1 b.f0 b.f1 = some (lessD a b) := by
 unfold gY.f dW.f lessD
 rw [cmpi_eq, Option.bind_some, cmpi_eq, Option.bind_some, ori_eq _ _ _ hk, Option.bind_some, Option.bind_some]
 congr 1
 rw [decide_eq_decide]
 repeat' split
 all_goals omega
theorem rless_eq (a b : Dt) : eV.f a.f0 a.f1 b.f0 b.f1 = some (lessD a b) := by
 unfold eV.f lessD
 by_cases h : a.f0 < b.f0
 ·
  rw [if_pos h, decide_eq_true (.inl h)]
 rw [if_neg h]
 by_cases h2 : a.f0 = b.f0
 ·
  rw [if_pos h2]; congr 1; rw [decide_eq_decide]; omega
 rw [if_neg h2, decide_eq_false z3_]
def hadG (v : List Int) : Option Dt → List Dt → Bool
 | _, [] => true
 | p, d :: m => hasB v d && (match p with | none => true | some q => lessD q d) && hadG v (some d) m
theorem hadG_cons (v : List Int) (p : Option Dt) (d : Dt) (m : List Dt) : hadG v p (d :: m) = (hasB v d && (match p with | none => true | some q => lessD q d) && hadG v (some d) m) := rfl
def ahead? (l : List Dt) (i : Nat) : Option Dt := if i = 0 then none else l[i - 1]?
theorem ahead_next {l : List Dt} {i : Nat} {d : Dt} {m : List Dt} (h : l.drop i = d :: m) : ahead? l (i + 1) = some d := by
 unfold ahead?
 rw [if_neg z3_, Nat.add_sub_cancel]
 have : l[i]? = (l.drop i)[0]? := by rw [List.getElem?_drop]; simp
 rw [this, h]; rfl
theorem iN {l : List Dt} {i : Nat} {v : Dt} {m : List Dt} (h : l.drop i = v :: m) : aW l (i : Int) = v := by
 show l.getD ((i : Int).toNat) _ = v
 rw [Int.toNat_natCast, List.getD_eq_getElem?_getD]
 have : l[i]? = (l.drop i)[0]? := by rw [List.getElem?_drop]; simp
 rw [this, h]; rfl
theorem rdD_ahead {l : List Dt} {i : Nat} (h0 : 0 < i) (h : i ≤ l.length) : ahead? l i = some (aW l ((i : Int) - 1)) := by
 unfold ahead?
 rw [if_neg z3_, List.getElem?_eq_getElem z3_]
 congr 1
 show _ = l.getD (((i : Int) - 1).toNat) _
 rw [show ((i : Int) - 1).toNat = i - 1 by omega, List.getD_eq_getElem?_getD, List.getElem?_eq_getElem z3_]; rfl
theorem had_l0 (v : List Int) (l : List Dt) (hl : l.length ≤ 1000000) (m : List Dt) : ∀ (k i : Nat), l.drop i = m → m.length + 5 < k → eI.l0 k v l l (l.length : Int) (i : Int) = some (hadG v (ahead? l i) m) := by
 induction m with
 | nil =>
  intro k i h hk
  obtain ⟨k, rfl⟩ : ∃ j, k = j + 1 := ⟨k - 1, by omega⟩
  have := dI h
  simp only [eI.l0]
  rw [if_neg z3_]; rfl
 | cons d m ih =>
  intro k i h hk
  obtain ⟨k, rfl⟩ : ∃ j, k = j + 1 := ⟨k - 1, by omega⟩
  have hi := dO h
  simp only [List.length_cons] at hk
  have hn := ih k (i + 1) (cM h) z3_
  rw [ahead_next h] at hn
  have hw : wrap64 ((i : Int) + 1) = ((i + 1 : Nat) : Int) := by rw [w64 z3_ z3_]; rfl
  simp only [eI.l0]
  rw [if_pos z3_, if_pos z3_, if_pos z3_, iN h, has_eq, Option.bind_some, hw, hn]
  rw [hadG_cons]
  cases hb : hasB v d
  ·
   rw [if_neg z5_]; simp
  rw [if_pos rfl, Bool.true_and]
  by_cases h0 : (i : Int) > 0
  rotate_left
  ·
   rw [if_neg h0]
   have : ahead? l i = none := by unfold ahead?; rw [if_pos z3_]
   rw [this]; simp
  rw [if_pos h0, w64 z3_ z3_, if_pos z3_, if_pos z3_, less_eq _ _ _ z3_, Option.bind_some, rdD_ahead z3_ z3_]
  simp only
  cases lessD (aW l ((i : Int) - 1)) d
  ·
   rw [if_neg z5_]; simp
  ·
   rw [if_pos rfl, Bool.true_and]
theorem had_eq (k : Nat) (v : List Int) (l : List Dt) (hl : l.length ≤ 1000000) (hk : l.length + 6 ≤ k) : eI.f k v l = some (hadG v none l) := had_l0 v l hl l k 0 rfl z3_
def smallV (v : V) : Bool := decide (vSmall v.f0 v.f1 v.f2)
def smallB (l : List V) (c : List Int) : Bool := fitsL l c && l.all smallV
def bigV (v : V) : Bool := !smallV v
theorem big_eq (v : V) : gD.f v.f0 v.f1 v.f2 = some (bigV v) := by
 unfold gD.f bigV smallV
 rw [small_eq, Option.bind_some]
theorem index_big (l : List V) (hl : l.length ≤ 1000000) (m : List V) : ∀ (k i : Nat), l.drop i = m → m.length < k →
  ∃ r, bF.l0 k l (l.length : Int) (i : Int) = some r ∧ (r ≥ 0 ↔ m.any bigV = true) := by
 induction m with
 | nil =>
  intro k i h hk
  obtain ⟨k, rfl⟩ : ∃ j, k = j + 1 := ⟨k - 1, by omega⟩
  have := dI h
  refine ⟨-1, ?_, by simp⟩
  simp only [bF.l0]
  rw [if_neg z3_]
 | cons v m ih =>
  intro k i h hk
  obtain ⟨k, rfl⟩ : ∃ j, k = j + 1 := ⟨k - 1, by omega⟩
  have hi := dO h
  simp only [bF.l0]
  rw [if_pos z3_, if_pos z3_, if_pos z3_, gN h, big_eq, Option.bind_some]
  cases ho : bigV v
  ·
   obtain ⟨r, h1, h2⟩ := ih k (i + 1) (cM h) (by simp at hk; omega)
   refine ⟨r, ?_, ?_⟩
   ·
    rw [if_neg z5_, w64 z3_ z3_]; exact h1
   ·
    rw [h2, List.any_cons, ho, Bool.false_or]
  ·
   refine ⟨i, ?_, ?_⟩
   ·
    rw [if_pos rfl]
   ·
    rw [List.any_cons, ho, Bool.true_or]; simp
theorem contains_big (k : Nat) (l : List V) (hl : l.length ≤ 1000000) (hk : l.length < k) : cO.f k l () = some (l.any bigV) := by
 obtain ⟨r, h1, h2⟩ := index_big l hl l k 0 rfl hk
 unfold cO.f bF.f
 rw [show ((0 : Nat) : Int) = 0 from rfl] at h1
 rw [h1, Option.bind_some]
 congr 1
 cases hz : l.any bigV
 ·
  rw [hz] at h2; exact decide_eq_false (fun h => by simpa using h2.1 h)
 ·
  rw [hz] at h2; exact decide_eq_true (h2.2 rfl)
theorem smallL_eq (k : Nat) (l : List V) (c : List Int) (hl : l.length ≤ 1000000) (hk : l.length + 1 ≤ k) : iC.f k l c = some (smallB l c) := by
 unfold iC.f smallB
 rw [rowFits_eq _ _ _ hl hk, Option.bind_some]
 cases fitsL l c
 ·
  rfl
 ·
  rw [if_pos rfl, contains_big _ _ hl hk, Option.bind_some, Bool.true_and]
  congr 1
  have : ∀ l : List V, (!l.any bigV) = l.all smallV := fun l => by
   induction l with
   | nil => rfl
   | cons v l ih => rw [List.any_cons, List.all_cons, Bool.not_or, ih]; unfold bigV; rw [Bool.not_not]
  exact this l
def wholeP (n : Int) (x : Ox) : Prop := (0 ≤ x.f0.f0 ∧ x.f0.f0 < n) ∧ (1 ≤ x.f0.f1 ∧ x.f0.f1 ≤ 1073741824) ∧ (x.f1.length : Int) = n ∧ vecE x.f1 = 0 ∧ rd x.f1 x.f0.f0 = x.f0.f1 - 1 ∧ stampOk x.f2 ∧ x.f2.f2 = x.f0.f0
instance (n : Int) (x : Ox) : Decidable (wholeP n x) := by unfold wholeP; infer_instance
def colsOf (f : List Tb) (x : Ox) : List Int := (cP f x.f4).f0
def kindB (c : List Int) (x : Ox) : Bool :=
 if x.f3 = 1 then smallB x.f7 c && decide (x.f6 = 0) && decide (x.f8.length = 0)
 else if x.f3 = 2 then decide (0 ≤ x.f6 ∧ x.f6 < c.length) && smallB x.f7 [rd c x.f6] && decide (x.f8.length = 0)
 else if x.f3 = 3 then decide (1 ≤ x.f8.length ∧ x.f8.length ≤ 64) && hadG x.f1 none x.f8 && decide (x.f6 = 0) && decide (x.f7.length = 0)
 else false
def rightB (n : Int) (f : List Tb) (x : Ox) : Bool := decide (wholeP n x) && decide (0 ≤ x.f4 ∧ x.f4 < f.length) && keyB x.f5 && kindB (colsOf f x) x
theorem cut1 (c : List Int) (i : Int) (h0 : 0 ≤ i) (h1 : i < c.length) : (c.take (i + 1).toNat).drop i.toNat = [rd c i] := by
 obtain ⟨j, rfl⟩ := Int.eq_ofNat_of_zero_le h0
 rw [show ((j : Int) + 1).toNat = j + 1 by omega, Int.toNat_natCast]
 have hj : j < c.length := by omega
 have hr : rd c (j : Int) = c[j] := by
  show c.getD (j : Int).toNat 0 = _
  rw [Int.toNat_natCast, List.getD_eq_getElem?_getD, List.getElem?_eq_getElem hj]; rfl
 rw [hr, List.take_add_one, List.getElem?_eq_getElem hj, List.drop_append, List.drop_eq_nil_iff.2 (by rw [List.length_take]; omega)]
 rw [List.length_take, Nat.min_eq_left z3_, Nat.sub_self]; rfl
def checkE (n : Int) (f : List Tb) (x : Ox) : Int := if formsE f ≠ 0 then formsE f else if n < 1 ∨ n > 5 then 1 else if rightB n f x = true then 0 else 1
end Go.Proofs.YtjnjfogfpmeacaaGreat.Ops
end
section
namespace Go.Proofs.YtjnjfogfpmeacaaGreat.Steps
open Go.RowKit PrintWords PrintLast PrintMore ZipT PrintWords.Kd PrintMore.Kd
set_option linter.unusedVariables false
def Pre (n k : Nat) : Array Bool := ⟨(List.range n).map (fun i => Nat.blt i k)⟩
section
variable {P : Program} {ops : Array Oper} {Q : Exit → Act → World → Prop} {md : Region.Mode} {S : World → Prop} {ds : List Nat} {T : Bool × List (List Nat × List Nat)} {B : List Nat}
theorem want_ {oi : Oper} {k : Nat} {a : Act} {b : Bool} (hi : ops[k]? = some oi) (hw : (ops[k]?).map (fun o => Region.wanted o (yielded ops a.tmps)) = some b) : Region.wanted oi (yielded ops a.tmps) = b := by
 rw [hi] at hw
 exact Option.some.inj hw
theorem nR_ (off : Nat) (hT : rtab md ops = T) {oi : Oper} {fuel n k : Nat} {a : Act} {w : World} {a' : Act} (hi : ops[k]? = some oi := by rfl) (hN : oi.dst = some (k + off) := by rfl) (hw : (ops[k]?).map (fun o => Region.wanted o (yielded ops a.tmps)) = some false := by kernel_rfl)
  (hc : anyT T (Pre n k).toList (Pre n (k + 1)).toList k = true := by kernel_rfl)
  (hQ : ∀ c a w, Q (.panic c) (a.put oi.dst undef) w → Q (.panic c) a w := by exact fun _ _ _ h => h)
  (ha : a.put (some (k + off)) undef = a' := by simp only [Nat.reduceAdd, Act.put, List.setIfInBounds_toArray, List.set_cons_zero, List.set_cons_succ, i64_w, i32_w]; rfl)
  (h : wpAnyLast P md ops Q S ds fuel (Pre n (k + 1)) a' w) : wpAnyLast P md ops Q S ds (fuel + 1) (Pre n k) a w :=
 pure_ _ hi hN (eY hT hc) hQ (Or.inr ⟨want_ hi hw, rfl⟩) ha h
theorem nI_ (off : Nat) (hT : rtab md ops = T) {oi : Oper} {v : Value} {fuel n k : Nat} {a : Act} {w : World} {a' : Act} (hi : ops[k]? = some oi := by rfl) (hN : oi.dst = some (k + off) := by rfl) (hw : (ops[k]?).map (fun o => Region.wanted o (yielded ops a.tmps)) = some true := by kernel_rfl)
  (hy : ∀ w, (execOp a.eval oi).run P w = .ok (.value v) w := by intro w'; go_simp; with_reducible rfl)
  (hc : anyT T (Pre n k).toList (Pre n (k + 1)).toList k = true := by kernel_rfl)
  (hQ : ∀ c a w, Q (.panic c) (a.put oi.dst v) w → Q (.panic c) a w := by exact fun _ _ _ h => h)
  (ha : a.put (some (k + off)) v = a' := by simp only [Nat.reduceAdd, Act.put, List.setIfInBounds_toArray, List.set_cons_zero, List.set_cons_succ, i64_w, i32_w]; rfl)
  (h : wpAnyLast P md ops Q S ds fuel (Pre n (k + 1)) a' w) : wpAnyLast P md ops Q S ds (fuel + 1) (Pre n k) a w :=
 pure_ _ hi hN (eY hT hc) hQ (Or.inl ⟨want_ hi hw, hy⟩) ha h
theorem start_n {S : World → Prop} {ds : List Nat} {id n : Nat} {a : Act} {w : World} (J : World → Prop) (hm : P.follows .mixedOrders = true) (hn : ops.size = n) (hl : Array.replicate n false = Pre n 0)
  (hJ : J w.drew) (hS : ∀ W, J W → S W) (h : ∀ W, J W → S W → wpAnyLast P .any ops Q S ds n (Pre n 0) a W) : (Code.region id ops true).wp P Q a w :=
 fM _ hm hn hl (hS _ hJ) (fun _ => h _ hJ (hS _ hJ))
theorem nT_ (off : Nat) (hT : rtab md ops = T) (hB : waitsOk T.2 B = true) {oi : Oper} {v : Value} {fuel n k : Nat} {a : Act} {w : World} (hS : S w) {a' : Act} (hi : ops[k]? = some oi := by rfl) (hN : oi.dst = some (k + off) := by rfl) (hw : (ops[k]?).map (fun o => Region.wanted o (yielded ops a.tmps)) = some true := by kernel_rfl)
  (hy : ∀ w, S w → (execOp a.eval oi).run P w = .ok (.value v) w := by intro w' hS_; have hb_ := aD hS_.1; replace hS_ := hS_.2; (try (have hb2_ := aD hS_.1; replace hS_ := hS_.2)); (repeat (have h_ := hS_.1; replace hS_ := hS_.2)); go_simp; with_reducible rfl)
  (hc : takeW T B ds (Pre n k).toList (Pre n (k + 1)).toList k = true := by kernel_rfl)
  (hQ : ∀ c a w, Q (.panic c) (a.put oi.dst v) w → Q (.panic c) a w := by exact fun _ _ _ h => h)
  (ha : a.put (some (k + off)) v = a' := by simp only [Nat.reduceAdd, Act.put, List.setIfInBounds_toArray, List.set_cons_zero, List.set_cons_succ, i64_w, i32_w]; rfl)
  (h : wpAnyLast P md ops Q S ds fuel (Pre n (k + 1)) a' w) : wpAnyLast P md ops Q S ds (fuel + 1) (Pre n k) a w :=
 take_ _ hi hN (take_ofW hT hB hc) hQ (Or.inl ⟨want_ hi hw, hy⟩) hS ha h
end
end Go.Proofs.YtjnjfogfpmeacaaGreat.Steps
end
section
namespace Go.Proofs.YtjnjfogfpmeacaaGreat.Ops
open Go.RowKit PAll Ops Plain PrintWords PrintLast PrintMore ZipT PrintWords.Kd PrintMore.Kd
set_option linter.unusedVariables false
set_option linter.unusedSimpArgs false
def opT (n : Int) (f : List Tb) (x : Ox) : Bool := decide (wholeP n x) && decide (0 ≤ x.f4 ∧ x.f4 < f.length) && keyB x.f5
theorem hY {n : Int} {f : List Tb} {x : Ox} (h : ¬ (wholeP n x ∧ (0 ≤ x.f4 ∧ x.f4 < f.length) ∧ keyB x.f5 = true)) : opT n f x = false := by
 cases hb : opT n f x
 ·
  rfl
 ·
  unfold opT at hb
  rw [Bool.and_eq_true, Bool.and_eq_true, decide_eq_true_eq, decide_eq_true_eq] at hb
  exact absurd ⟨hb.1.1, hb.1.2, hb.2⟩ h
theorem opT_yes {n : Int} {f : List Tb} {x : Ox} (h : opT n f x = true) : wholeP n x ∧ (0 ≤ x.f4 ∧ x.f4 < f.length) ∧ keyB x.f5 = true := by
 unfold opT at h
 rw [Bool.and_eq_true, Bool.and_eq_true, decide_eq_true_eq, decide_eq_true_eq] at h
 exact ⟨h.1.1, h.1.2, h.2⟩
def fitV (v : V) (t : Int) : Bool := decide (vFits v.f0 v.f1 v.f2 t)
def sfG : List V → List Int → Bool
 | v :: l, t :: m => smallV v && fitV v t && sfG l m
 | _, _ => true
theorem sf_nil (l : List V) : sfG l [] = true := by cases l <;> rfl
theorem small_sf : ∀ {l : List V} {c : List Int}, l.length = c.length → smallB l c = sfG l c
 | [], [], _ => rfl
 | [], t :: m, h => by cases h
 | v :: l, [], h => by cases h
 | v :: l, t :: m, h => by
  have ih := small_sf (l := l) (c := m) (by simpa using h)
  unfold smallB at ih ⊢
  rw [sfG, ← ih, List.all_cons]
  show (fitV v t && fitsL l m && (smallV v && l.all smallV)) = _
  cases fitV v t <;> cases smallV v <;> cases fitsL l m <;> cases l.all smallV <;> rfl
theorem small_ne {l : List V} {c : List Int} (h : l.length ≠ c.length) : smallB l c = false := by
 cases hb : smallB l c
 ·
  rfl
 ·
  unfold smallB at hb
  rw [Bool.and_eq_true] at hb
  exact absurd (fitsL_len hb.1) h
theorem sf_step {l : List V} {c : List Int} {i : Nat} (h1 : i < l.length) (h2 : i < c.length) : sfG (l.drop i) (c.drop i) = (smallV (aK l (i : Int)) && fitV (aK l (i : Int)) (rd c (i : Int)) && sfG (l.drop (i + 1)) (c.drop (i + 1))) := by
 have e1 := List.drop_eq_getElem_cons h1
 have e2 := List.drop_eq_getElem_cons h2
 rw [gN e1, jK e2, e1, e2, sfG]
theorem had_step {v : List Int} {l : List Dt} {i : Nat} (h : i < l.length) : hadG v (ahead? l i) (l.drop i) = (hasB v (aW l (i : Int)) && (if i = 0 then true else lessD (aW l ((i : Int) - 1)) (aW l (i : Int))) && hadG v (ahead? l (i + 1)) (l.drop (i + 1))) := by
 have e1 := List.drop_eq_getElem_cons h
 rw [iN e1, ahead_next e1, e1, hadG_cons]
 congr 2
 by_cases h0 : i = 0
 rotate_left
 ·
  rw [if_neg h0, rdD_ahead z3_ z3_]
 rw [if_pos h0]
 unfold ahead?
 rw [if_pos h0]
def pgT1 : Bool × List (List Nat × List Nat) := (true, [([], []), ([0], [0]), ([1], [1]), ([], []), ([3], [3]), ([2, 4], [2, 4]), ([5], [5]), ([6, 5], [6]), ([7], [7]), ([8, 7], [7, 8]), ([9, 7], [7, 9]), ([10, 7, 7], [7, 10]), ([11, 7], [7, 11]), ([7, 12], [7, 12]), ([13, 11], [13]), ([14], [14]), ([15, 14], [14, 15]), ([16, 14], [14, 16]), ([14], [14]), ([17, 18, 14], [14, 17, 18]), ([14, 19], [14, 19]), ([20, 14], [20]), ([21], [21]), ([22, 21], [21, 22]), ([23, 21, 21], [21, 23]), ([24, 21], [21, 24]), ([21, 25], [21, 25]), ([26, 24], [26]), ([27], [27]), ([28, 27], [27, 28]), ([27], [27]), ([30, 27], [27, 30]), ([31, 27], [27, 31]), ([29, 32, 27], [27, 29, 32]), ([33, 27], [27, 33]), ([27], [27]), ([35, 27], [27, 35]), ([36, 27], [27, 36]), ([37, 27], [27, 37]), ([34, 38, 27], [27, 34, 38]), ([27, 39], [27, 39]), ([40, 27], [40]), ([41], [41]), ([42, 41], [41, 42]), ([43, 41, 41], [41, 43]), ([44, 41], [41, 44]), ([41, 45], [41, 45]), ([46, 44], [46]), ([47], [47]), ([48, 47], [47, 48]), ([49, 47], [47, 49]), ([47], [47]), ([51, 47], [47, 51]), ([52, 47], [47, 52]), ([50, 53, 47], [47, 50, 53]), ([47, 54], [47, 54]), ([55, 47], [55]), ([56], [56]), ([57, 56], [56, 57]), ([56], [56]), ([59, 56], [56, 59]), ([60, 56], [56, 60]), ([58, 61, 56, 56], [56, 58, 61]), ([62, 56], [56, 62]), ([56, 63], [56, 63]), ([64, 62], [64]), ([65], [65]), ([66, 65], [65, 66]), ([67, 65, 65], [65, 67]), ([68, 65], [65, 68]), ([65, 69], [65, 69])])
def pgB1 : List Nat := [0, 1, 3, 0, 8, 31, 63, 127, 255, 511, 1023, 2047, 4095, 8191, 16383, 32767, 65535, 131071, 32767, 524287, 1048575, 2097151, 4194303, 8388607, 16777215, 33554431, 67108863, 134217727, 268435455, 536870911, 268435455, 1342177279, 3489660927, 8589934591, 17179869183, 268435455, 34628173823, 103347650559, 240786604031, 549755813887, 1099511627775, 2199023255551, 4398046511103, 8796093022207, 17592186044415, 35184372088831, 70368744177663, 140737488355327, 281474976710655, 562949953421311, 1125899906842623, 281474976710655, 2533274790395903, 7036874417766399, 18014398509481983, 36028797018963967, 72057594037927935, 144115188075855871, 288230376151711743, 144115188075855871, 720575940379279359, 1873497444986126335, 4611686018427387903, 9223372036854775807, 18446744073709551615, 36893488147419103231, 73786976294838206463, 147573952589676412927, 295147905179352825855, 590295810358705651711, 1180591620717411303423]
def pgT11 : Bool × List (List Nat × List Nat) := (true, [([], []), ([0], [0]), ([], []), ([1, 2], [1, 2]), ([3], [3]), ([4], [4]), ([5], [5]), ([6, 5], [6]), ([7], [7]), ([8, 7], [7, 8]), ([7], [7]), ([9, 10, 7], [7, 9, 10]), ([11, 7], [7, 11]), ([7], [7]), ([7], [7]), ([13, 14, 7], [7, 13, 14]), ([15, 7], [7, 15]), ([12, 16, 7, 7], [7, 12, 16]), ([17, 7], [7, 17]), ([7, 18], [7, 18])])
def pgB11 : List Nat := [0, 1, 0, 7, 15, 31, 63, 127, 255, 511, 255, 2047, 4095, 255, 255, 24831, 57599, 131071, 262143, 524287]
def pgT15 : Bool × List (List Nat × List Nat) := (true, [([], []), ([0], [0]), ([], []), ([2], [2]), ([3], [3]), ([1, 4], [1, 4]), ([5, 5], [5]), ([6], [6]), ([7, 6], [6, 7]), ([8, 6], [6, 8]), ([9, 6], [6, 9]), ([6, 10], [6, 10]), ([11, 6], [11]), ([12], [12]), ([13, 12], [12, 13]), ([14, 12], [12, 14]), ([15, 12], [12, 15]), ([16, 12, 12], [12, 16]), ([12, 17], [12, 17]), ([18, 17], [18]), ([19], [19]), ([20, 19], [19, 20]), ([21, 19], [19, 21]), ([22, 19], [19, 22]), ([19], [19]), ([19], [19]), ([25, 19], [19, 25]), ([24, 26, 19], [19, 24, 26]), ([27, 19], [19, 27]), ([23, 28, 19, 19], [19, 23, 28]), ([19, 29], [19, 29]), ([30, 29], [30]), ([31], [31]), ([32, 31], [31, 32]), ([33, 31], [31, 33]), ([34, 31], [31, 34]), ([31, 35], [31, 35]), ([36, 31, 0, 1, 2, 3, 4, 5, 6, 7, 8, 9, 10, 11, 12, 13, 14, 15, 16, 17, 18, 19, 20, 21, 22, 23, 24, 25, 26, 27, 28, 29, 30, 31, 32, 33, 34, 35, 36], [36])])
def pgB15 : List Nat := [0, 1, 0, 4, 12, 31, 63, 127, 255, 511, 1023, 2047, 4095, 8191, 16383, 32767, 65535, 131071, 262143, 524287, 1048575, 2097151, 4194303, 8388607, 1048575, 1048575, 34603007, 118489087, 252706815, 536870911, 1073741823, 2147483647, 4294967295, 8589934591, 17179869183, 34359738367, 68719476735, 137438953471]
def pgT22 : Bool × List (List Nat × List Nat) := (true, [([], []), ([0], [0]), ([], []), ([2], [2]), ([], []), ([3, 4], [3, 4]), ([5], [5]), ([1, 6], [1, 6]), ([7], [7]), ([8, 7], [8]), ([9], [9]), ([10, 9], [9, 10]), ([11, 9, 9], [9, 11]), ([12], [12]), ([13, 12], [12, 13]), ([12], [12]), ([15, 12], [12, 15]), ([14, 16, 12], [12, 14, 16]), ([17, 12], [12, 17]), ([12], [12]), ([19, 12], [12, 19]), ([12], [12]), ([20, 21, 12], [12, 20, 21]), ([22, 12], [12, 22]), ([18, 23, 12, 12], [12, 18, 23]), ([24, 12], [12, 24]), ([12, 25, 9], [9, 12, 25]), ([9, 26], [9, 26])])
def pgB22 : List Nat := [0, 1, 0, 4, 0, 28, 60, 127, 255, 511, 1023, 2047, 4095, 8191, 16383, 8191, 40959, 131071, 262143, 8191, 532479, 8191, 3678207, 7872511, 16777215, 33554431, 67108863, 134217727]
theorem pgtab1 : rtab .any (opsOf Tryz.f33 1) = pgT1 := by kernel_rfl
theorem pgbits1 : waitsOk pgT1.2 pgB1 = true := by kernel_rfl
theorem pgtab11 : rtab .any (opsOf Tryz.f33 11) = pgT11 := by kernel_rfl
theorem pgbits11 : waitsOk pgT11.2 pgB11 = true := by kernel_rfl
theorem pgtab15 : rtab .any (opsOf Tryz.f33 15) = pgT15 := by kernel_rfl
theorem pgbits15 : waitsOk pgT15.2 pgB15 = true := by kernel_rfl
theorem pgtab22 : rtab .any (opsOf Tryz.f33 22) = pgT22 := by kernel_rfl
theorem pgbits22 : waitsOk pgT22.2 pgB22 = true := by kernel_rfl
set_option maxHeartbeats 40000000 in
theorem pgop_calls (n : Int) (f : List Tb) (x : Ox) (A1 : Option Addr) (c1 : Nat) (A2 : Option Addr) (c2 : Nat) (A10 : Option Addr) (c10 : Nat) (A11 : Option Addr) (c11 : Nat) (w : World) (hr1 : Kd.C k53 w A1 f.length f) (hc1 : f.length ≤ c1) (hr2 : Kd.C (Kd.int .i64) w A2 x.f1.length x.f1) (hc2 : x.f1.length ≤ c2) (hr10 : Kd.C k102 w A10 x.f7.length x.f7) (hc10 : x.f7.length ≤ c10) (hr11 : Kd.C k24 w A11 x.f8.length x.f8) (hc11 : x.f8.length ≤ c11)
  (hn : 1 ≤ n ∧ n ≤ 5) (hx : x.f1.length ≤ 1000 ∧ x.f7.length ≤ 1000 ∧ x.f8.length ≤ 1000) (hf : f.length ≤ 1000 ∧ ∀ t ∈ f, t.f0.length ≤ 1000) :
  Calls Tryz.prog 33 #[.int .i64 n, .slice A1 f.length c1, .agg #[.int .i64 x.f0.f0, .int .i64 x.f0.f1, .slice A2 x.f1.length c2, .int .i64 x.f2.f0, .int .i64 x.f2.f1, .int .i64 x.f2.f2, .int .i64 x.f3, .int .i64 x.f4, .string x.f5, .int .i64 x.f6, .slice A10 x.f7.length c10, .slice A11 x.f8.length c11]] w fun e w' => e = .returned (.bool (rightB n f x)) ∧ Below w.heap.size w w' := by
 have hu1 := Tryz.underlying31
 have hu1 := Tryz.underlying27
 have hu1 := Tryz.underlying102
 have hu1 := Tryz.underlying24
 obtain ⟨res, hres⟩ : ∃ r, rightB n f x = r := ⟨_, rfl⟩
 rw [hres]
 have HR0 := mk_ (show res = (opT n f x && kindB (colsOf f x) x) from by rw [← hres]; rfl)
 clear hres
 have HR1 := mk_ hr1
 have HR2 := mk_ hr2
 have HC2 := mk_ hc2
 have HR10 := mk_ hr10
 have HR11 := mk_ hr11
 have HN := mk_ (And.intro hn (And.intro hx hf))
 have hwn : wrap64 (n - 1) = n - 1 := w64 z3_ z3_
 have hwf : wrap64 ((f.length : Int) - 1) = (f.length : Int) - 1 := w64 z3_ z3_
 obtain ⟨b1, e1⟩ : ∃ b, decide (0 ≤ x.f0.f0 ∧ x.f0.f0 ≤ n - 1) = b := ⟨_, rfl⟩
 obtain ⟨b2, e2⟩ : ∃ b, decide (1 ≤ x.f0.f1 ∧ x.f0.f1 ≤ 1073741824) = b := ⟨_, rfl⟩
 obtain ⟨b6, e6⟩ : ∃ b, decide (stampOk x.f2) = b := ⟨_, rfl⟩
 obtain ⟨b8, e8⟩ : ∃ b, decide (0 ≤ x.f4 ∧ x.f4 ≤ (f.length : Int) - 1) = b := ⟨_, rfl⟩
 obtain ⟨b9, e9⟩ : ∃ b, keyB x.f5 = b := ⟨_, rfl⟩
 have HI1 := mk_ (show aT.f x.f0.f0 0 (wrap64 (n - 1)) = some b1 by rw [fZ, hwn, e1])
 have HI2 := mk_ (show aT.f x.f0.f1 1 1073741824 = some b2 by rw [fZ, e2])
 have HV := mk_ (rvec_eq 2000 x.f1 z3_ z3_)
 have HS := mk_ (show fC.f x.f2.f0 x.f2.f1 x.f2.f2 = some b6 by rw [rstamp_eq, e6])
 have HI8 := mk_ (show aT.f x.f4 0 (wrap64 ((f.length : Int) - 1)) = some b8 by rw [fZ, hwf, e8])
 have HK := mk_ (show eW.f x.f5 = some b9 by rw [rkey_eq, e9])
 have E1 : Aside0 (b1 = true ↔ 0 ≤ x.f0.f0 ∧ x.f0.f0 < n) := ⟨by rw [← e1, decide_eq_true_eq]; omega⟩
 have E2 : Aside0 (b2 = true ↔ 1 ≤ x.f0.f1 ∧ x.f0.f1 ≤ 1073741824) := ⟨by rw [← e2, decide_eq_true_eq]⟩
 have E6 : Aside0 (b6 = true ↔ stampOk x.f2) := ⟨by rw [← e6, decide_eq_true_eq]⟩
 have E8 : Aside0 (b8 = true ↔ 0 ≤ x.f4 ∧ x.f4 < (f.length : Int)) := ⟨by rw [← e8, decide_eq_true_eq]; omega⟩
 have E9 := mk_ e9
 clear e1 e2 e6 e8 e9 hwn hwf hr1 hc1 hr2 hc2 hr10 hc10 hr11 hc11 hn hx hf
 have HB := mk_ (Below.refl w.heap.size w)
 go_enter Tryz.func33, Tryz.ntmps33
 go_upto_region 1 with (first | ((with_reducible refine aQ (N := 5) rfl ?_); (try (refine dC (by rfl) ?_; dsimp only)); refine aN ?hg (N := 5) ?hd (cs := #[.int .i64 x.f0.f0, .int .i64 x.f0.f1, .slice A2 x.f1.length c2, .int .i64 x.f2.f0, .int .i64 x.f2.f1, .int .i64 x.f2.f2, .int .i64 x.f3, .int .i64 x.f4, .string x.f5, .int .i64 x.f6, .slice A10 x.f7.length c10, .slice A11 x.f8.length c11]) (t := 31) ?hr ?_; (case hd => rfl); (case hg => rfl); (case hr => first | (go_simp; done) | (go_simp; rfl)); intro gb hg w5 hbox hb; have n0_ := mk_ (aC HB.out hb); have n1_ := mk_ (hbox); clear HB; revert n0_ n1_; intro HB BK; clear hb hbox hg))
 (try simp only [Act.put, List.setIfInBounds_toArray, List.set_cons_zero, List.set_cons_succ])
 go_cut [80] (fun v80 wc => ∃ b : Bool, v80 = .bool b ∧ Aside0 (b = !opT n f x) ∧ Aside0 (wc.heap[gb]? = some (.cells #[.int .i64 x.f0.f0, .int .i64 x.f0.f1, .slice A2 x.f1.length c2, .int .i64 x.f2.f0, .int .i64 x.f2.f1, .int .i64 x.f2.f2, .int .i64 x.f3, .int .i64 x.f4, .string x.f5, .int .i64 x.f6, .slice A10 x.f7.length c10, .slice A11 x.f8.length c11] 31 (0, 0))) ∧ Aside0 (Below w.heap.size w wc))
 case first =>
  by_cases hg : (x.f1.length : Int) = n ∧ 0 ≤ x.f0.f0 ∧ x.f0.f0 < (x.f1.length : Int)
  rotate_left
  ·
   as_aux_lemma =>
    have HG := mk_ hg
    clear hg
    refine Steps.start_n (n := 71) (S := fun w' => w'.heap[gb]? = some (.cells #[.int .i64 x.f0.f0, .int .i64 x.f0.f1, .slice A2 x.f1.length c2, .int .i64 x.f2.f0, .int .i64 x.f2.f1, .int .i64 x.f2.f2, .int .i64 x.f3, .int .i64 x.f4, .string x.f5, .int .i64 x.f6, .slice A10 x.f7.length c10, .slice A11 x.f8.length c11] 31 (0, 0)) ∧ True) (ds := []) (fun W => W.heap[gb]? = some (.cells #[.int .i64 x.f0.f0, .int .i64 x.f0.f1, .slice A2 x.f1.length c2, .int .i64 x.f2.f0, .int .i64 x.f2.f1, .int .i64 x.f2.f2, .int .i64 x.f3, .int .i64 x.f4, .string x.f5, .int .i64 x.f6, .slice A10 x.f7.length c10, .slice A11 x.f8.length c11] 31 (0, 0)) ∧ Below w.heap.size w W) z2_ rfl z2_ ⟨aI BK.out, HB.out.drew⟩ (fun W hJ => ?_) (fun W0 hJ hS0 => ?_)
    ·
     obtain ⟨bk0, hb0⟩ := hJ
     exact ⟨bk0, trivial⟩
    obtain ⟨bk0, hb0⟩ := hJ
    refine cZ pgtab1 pgbits1 (fun HT_ HW_ => ?_)
    iterate 2 refine Steps.nI_ 10 HT_.out (h := ?_)
    refine Steps.nT_ 10 HT_.out HW_.out hS0 (h := ?_)
    iterate 2 refine Steps.nI_ 10 HT_.out (h := ?_)
    refine one_ (i := 5) (N := some 15) (Steps.Pre 71 6) rfl rfl (cB HT_.out z2_) z5_ (fun K hK => ?_)
    refine goes_ Tryz.func30 z2_ rfl #[.int .i64 x.f0.f0, .int .i64 0, .int .i64 (wrap64 (n - 1))] (Steps.want_ (k := 5) rfl z2_) rfl rfl z0_ ?_
    refine (aT.calls x.f0.f0 0 (wrap64 (n - 1)) b1 _ HI1.out).mono ?_
    rintro e W1 ⟨rfl, hq⟩
    have bk1 := bE bk0 hq.below
    have hb1 := aC hb0 hq.below
    refine ⟨_, rfl, ?_⟩
    refine hK.out _ _ ⟨bk1, trivial⟩ (fun hS1 => ?_)
    clear hK K hq hS0 bk0 hb0
    refine nrm 15 ?_
    iterate 2 refine Steps.nI_ 10 HT_.out (h := ?_)
    cases b1
    ·
     iterate 5 refine Steps.nR_ 10 HT_.out (h := ?_)
     iterate 2 refine Steps.nI_ 10 HT_.out (h := ?_)
     iterate 5 refine Steps.nR_ 10 HT_.out (h := ?_)
     iterate 2 refine Steps.nI_ 10 HT_.out (h := ?_)
     iterate 4 refine Steps.nR_ 10 HT_.out (h := ?_)
     iterate 2 refine Steps.nI_ 10 HT_.out (h := ?_)
     iterate 12 refine Steps.nR_ 10 HT_.out (h := ?_)
     iterate 2 refine Steps.nI_ 10 HT_.out (h := ?_)
     iterate 4 refine Steps.nR_ 10 HT_.out (h := ?_)
     iterate 2 refine Steps.nI_ 10 HT_.out (h := ?_)
     iterate 7 refine Steps.nR_ 10 HT_.out (h := ?_)
     iterate 2 refine Steps.nI_ 10 HT_.out (h := ?_)
     iterate 7 refine Steps.nR_ 10 HT_.out (h := ?_)
     iterate 2 refine Steps.nI_ 10 HT_.out (h := ?_)
     iterate 4 refine Steps.nR_ 10 HT_.out (h := ?_)
     refine Steps.nI_ 10 HT_.out (h := ?_)
     refine done_ (cC HT_.out z2_) ?_
     go_wp2
     go_meet
     case rel => exact ⟨true, rfl, ⟨by rw [hY (fun h => absurd (E1.out.2 h.1.1) z5_)]; rfl⟩, ⟨bk1⟩, ⟨hb1⟩⟩
    iterate 2 refine Steps.nI_ 10 HT_.out (h := ?_)
    refine Steps.nT_ 10 HT_.out HW_.out hS1 (h := ?_)
    refine one_ (i := 11) (N := some 21) (Steps.Pre 71 12) rfl rfl (cB HT_.out z2_) z5_ (fun K hK => ?_)
    refine goes_ Tryz.func30 z2_ rfl #[.int .i64 x.f0.f1, .int .i64 1, .int .i64 1073741824] (Steps.want_ (k := 11) rfl z2_) rfl rfl z0_ ?_
    refine (aT.calls x.f0.f1 1 1073741824 b2 _ HI2.out).mono ?_
    rintro e W2 ⟨rfl, hq⟩
    have bk2 := bE bk1 hq.below
    have hb2 := aC hb1 hq.below
    refine ⟨_, rfl, ?_⟩
    refine hK.out _ _ ⟨bk2, trivial⟩ (fun hS2 => ?_)
    clear hK K hq hS1 bk1 hb1
    refine nrm 21 ?_
    iterate 3 refine Steps.nI_ 10 HT_.out (h := ?_)
    cases b2
    ·
     iterate 5 refine Steps.nR_ 10 HT_.out (h := ?_)
     iterate 2 refine Steps.nI_ 10 HT_.out (h := ?_)
     iterate 4 refine Steps.nR_ 10 HT_.out (h := ?_)
     iterate 2 refine Steps.nI_ 10 HT_.out (h := ?_)
     iterate 12 refine Steps.nR_ 10 HT_.out (h := ?_)
     iterate 2 refine Steps.nI_ 10 HT_.out (h := ?_)
     iterate 4 refine Steps.nR_ 10 HT_.out (h := ?_)
     iterate 2 refine Steps.nI_ 10 HT_.out (h := ?_)
     iterate 7 refine Steps.nR_ 10 HT_.out (h := ?_)
     iterate 2 refine Steps.nI_ 10 HT_.out (h := ?_)
     iterate 7 refine Steps.nR_ 10 HT_.out (h := ?_)
     iterate 2 refine Steps.nI_ 10 HT_.out (h := ?_)
     iterate 4 refine Steps.nR_ 10 HT_.out (h := ?_)
     refine Steps.nI_ 10 HT_.out (h := ?_)
     refine done_ (cC HT_.out z2_) ?_
     go_wp2
     go_meet
     case rel => exact ⟨true, rfl, ⟨by rw [hY (fun h => absurd (E2.out.2 h.1.2.1) z5_)]; rfl⟩, ⟨bk2⟩, ⟨hb2⟩⟩
    have hl : ¬ ((x.f1.length : Int) = n) := fun h => HG.out ⟨h, (E1.out.1 z6_).1, by rw [h]; exact (E1.out.1 z6_).2⟩
    have HL := mk_ hl
    have hl_0 : ((x.f1.length : Int) == n) = false := beq_eq_false_iff_ne.mpr hl
    have hl_1 : ((x.f1.length : Int) != n) = true := bne_iff_ne.mpr hl
    have hl_2 : decide ((x.f1.length : Int) = n) = false := decide_eq_false hl
    clear hl
    refine Steps.nI_ 10 HT_.out (h := ?_)
    refine Steps.nT_ 10 HT_.out HW_.out hS2 (h := ?_)
    iterate 5 refine Steps.nI_ 10 HT_.out (h := ?_)
    iterate 4 refine Steps.nR_ 10 HT_.out (h := ?_)
    iterate 2 refine Steps.nI_ 10 HT_.out (h := ?_)
    iterate 12 refine Steps.nR_ 10 HT_.out (h := ?_)
    iterate 2 refine Steps.nI_ 10 HT_.out (h := ?_)
    iterate 4 refine Steps.nR_ 10 HT_.out (h := ?_)
    iterate 2 refine Steps.nI_ 10 HT_.out (h := ?_)
    iterate 7 refine Steps.nR_ 10 HT_.out (h := ?_)
    iterate 2 refine Steps.nI_ 10 HT_.out (h := ?_)
    iterate 7 refine Steps.nR_ 10 HT_.out (h := ?_)
    iterate 2 refine Steps.nI_ 10 HT_.out (h := ?_)
    iterate 4 refine Steps.nR_ 10 HT_.out (h := ?_)
    refine Steps.nI_ 10 HT_.out (h := ?_)
    refine done_ (cC HT_.out z2_) ?_
    go_wp2
    go_meet
    case rel => exact ⟨true, rfl, ⟨by rw [hY (fun h => HL.out h.1.2.2.1)]; rfl⟩, ⟨bk2⟩, ⟨hb2⟩⟩
  as_aux_lemma =>
   obtain ⟨hl, p0, q0⟩ := hg
   obtain ⟨ad, he_, hw⟩ := Kd.at_int HR2.out x.f0.f0 p0 q0
   subst he_
   have HL := mk_ hl
   have hb1_ : b1 = true := E1.out.2 ⟨p0, by rw [← hl]; exact q0⟩
   subst hb1_
   have hl_0 : ((x.f1.length : Int) == n) = true := beq_iff_eq.mpr hl
   have hl_1 : ((x.f1.length : Int) != n) = false := bne_eq_false_iff_eq.mpr hl
   have hl_2 : decide ((x.f1.length : Int) = n) = true := decide_eq_true hl
   clear hl
   have p1 := eq_true p0
   have q1 := eq_true q0
   have p2 : decide (0 ≤ x.f0.f0) = true := decide_eq_true p0
   have q2 : decide (x.f0.f0 < (x.f1.length : Int)) = true := decide_eq_true q0
   clear p0 q0
   refine Steps.start_n (n := 71) (S := fun w' => w'.heap[gb]? = some (.cells #[.int .i64 x.f0.f0, .int .i64 x.f0.f1, .slice (some ad) x.f1.length c2, .int .i64 x.f2.f0, .int .i64 x.f2.f1, .int .i64 x.f2.f2, .int .i64 x.f3, .int .i64 x.f4, .string x.f5, .int .i64 x.f6, .slice A10 x.f7.length c10, .slice A11 x.f8.length c11] 31 (0, 0)) ∧ w'.cell? (ad.add (x.f0.f0).toNat) = some (.int .i64 (rd x.f1 x.f0.f0)) ∧ True) (ds := []) (fun W => W.heap[gb]? = some (.cells #[.int .i64 x.f0.f0, .int .i64 x.f0.f1, .slice (some ad) x.f1.length c2, .int .i64 x.f2.f0, .int .i64 x.f2.f1, .int .i64 x.f2.f2, .int .i64 x.f3, .int .i64 x.f4, .string x.f5, .int .i64 x.f6, .slice A10 x.f7.length c10, .slice A11 x.f8.length c11] 31 (0, 0)) ∧ Below w.heap.size w W) z2_ rfl z2_ ⟨aI BK.out, HB.out.drew⟩ (fun W hJ => ?_) (fun W0 hJ hS0 => ?_)
   ·
    obtain ⟨bk0, hb0⟩ := hJ
    exact ⟨bk0, ((hb0.cell (World.block_lt_of_cell? w _ hw)).trans hw), trivial⟩
   obtain ⟨bk0, hb0⟩ := hJ
   refine cZ pgtab1 pgbits1 (fun HT_ HW_ => ?_)
   iterate 2 refine Steps.nI_ 10 HT_.out (h := ?_)
   refine Steps.nT_ 10 HT_.out HW_.out hS0 (h := ?_)
   iterate 2 refine Steps.nI_ 10 HT_.out (h := ?_)
   refine one_ (i := 5) (N := some 15) (Steps.Pre 71 6) rfl rfl (cB HT_.out z2_) z5_ (fun K hK => ?_)
   refine goes_ Tryz.func30 z2_ rfl #[.int .i64 x.f0.f0, .int .i64 0, .int .i64 (wrap64 (n - 1))] (Steps.want_ (k := 5) rfl z2_) rfl rfl z0_ ?_
   refine (aT.calls x.f0.f0 0 (wrap64 (n - 1)) true _ HI1.out).mono ?_
   rintro e W1 ⟨rfl, hq⟩
   have bk1 := bE bk0 hq.below
   have hb1 := aC hb0 hq.below
   refine ⟨_, rfl, ?_⟩
   refine hK.out _ _ ⟨bk1, ((hb1.cell (World.block_lt_of_cell? w _ hw)).trans hw), trivial⟩ (fun hS1 => ?_)
   clear hK K hq hS0 bk0 hb0
   refine nrm 15 ?_
   iterate 4 refine Steps.nI_ 10 HT_.out (h := ?_)
   refine Steps.nT_ 10 HT_.out HW_.out hS1 (h := ?_)
   refine one_ (i := 11) (N := some 21) (Steps.Pre 71 12) rfl rfl (cB HT_.out z2_) z5_ (fun K hK => ?_)
   refine goes_ Tryz.func30 z2_ rfl #[.int .i64 x.f0.f1, .int .i64 1, .int .i64 1073741824] (Steps.want_ (k := 11) rfl z2_) rfl rfl z0_ ?_
   refine (aT.calls x.f0.f1 1 1073741824 b2 _ HI2.out).mono ?_
   rintro e W2 ⟨rfl, hq⟩
   have bk2 := bE bk1 hq.below
   have hb2 := aC hb1 hq.below
   refine ⟨_, rfl, ?_⟩
   refine hK.out _ _ ⟨bk2, ((hb2.cell (World.block_lt_of_cell? w _ hw)).trans hw), trivial⟩ (fun hS2 => ?_)
   clear hK K hq hS1 bk1 hb1
   refine nrm 21 ?_
   iterate 3 refine Steps.nI_ 10 HT_.out (h := ?_)
   cases b2
   ·
    iterate 5 refine Steps.nR_ 10 HT_.out (h := ?_)
    iterate 2 refine Steps.nI_ 10 HT_.out (h := ?_)
    iterate 4 refine Steps.nR_ 10 HT_.out (h := ?_)
    iterate 2 refine Steps.nI_ 10 HT_.out (h := ?_)
    iterate 12 refine Steps.nR_ 10 HT_.out (h := ?_)
    iterate 2 refine Steps.nI_ 10 HT_.out (h := ?_)
    iterate 4 refine Steps.nR_ 10 HT_.out (h := ?_)
    iterate 2 refine Steps.nI_ 10 HT_.out (h := ?_)
    iterate 7 refine Steps.nR_ 10 HT_.out (h := ?_)
    iterate 2 refine Steps.nI_ 10 HT_.out (h := ?_)
    iterate 7 refine Steps.nR_ 10 HT_.out (h := ?_)
    iterate 2 refine Steps.nI_ 10 HT_.out (h := ?_)
    iterate 4 refine Steps.nR_ 10 HT_.out (h := ?_)
    refine Steps.nI_ 10 HT_.out (h := ?_)
    refine done_ (cC HT_.out z2_) ?_
    go_wp2
    go_meet
    case rel => exact ⟨true, rfl, ⟨by rw [hY (fun h => absurd (E2.out.2 h.1.2.1) z5_)]; rfl⟩, ⟨bk2⟩, ⟨hb2⟩⟩
   refine Steps.nI_ 10 HT_.out (h := ?_)
   refine Steps.nT_ 10 HT_.out HW_.out hS2 (h := ?_)
   iterate 6 refine Steps.nI_ 10 HT_.out (h := ?_)
   refine Steps.nT_ 10 HT_.out HW_.out hS2 (h := ?_)
   refine one_ (i := 24) (N := some 34) (Steps.Pre 71 25) rfl rfl (cB HT_.out z2_) z5_ (fun K hK => ?_)
   refine goes_ Tryz.func62 z2_ rfl #[.slice (some ad) x.f1.length c2] (Steps.want_ (k := 24) rfl z2_) rfl rfl z0_ ?_
   refine (cI.calls 2000 _ _ x.f1 _ _ (aU HR2.out hb2) HC2.out HV.out).mono ?_
   rintro e W3 ⟨rfl, hq⟩
   have bk3 := bE bk2 hq.below
   have hb3 := aC hb2 hq.below
   refine ⟨_, rfl, ?_⟩
   refine hK.out _ _ ⟨bk3, ((hb3.cell (World.block_lt_of_cell? w _ hw)).trans hw), trivial⟩ (fun hS3 => ?_)
   clear hK K hq hS2 bk2 hb2
   refine nrm 34 ?_
   by_cases hv : vecE x.f1 = 0
   rotate_left
   ·
    have hv_n := mk_ hv
    have hv0 : (vecE x.f1 == 0) = false := beq_eq_false_iff_ne.mpr hv
    have hv1 : (vecE x.f1 != 0) = true := bne_iff_ne.mpr hv
    have hv2 : decide (vecE x.f1 = 0) = false := decide_eq_false hv
    clear hv
    iterate 3 refine Steps.nI_ 10 HT_.out (h := ?_)
    iterate 12 refine Steps.nR_ 10 HT_.out (h := ?_)
    iterate 2 refine Steps.nI_ 10 HT_.out (h := ?_)
    iterate 4 refine Steps.nR_ 10 HT_.out (h := ?_)
    iterate 2 refine Steps.nI_ 10 HT_.out (h := ?_)
    iterate 7 refine Steps.nR_ 10 HT_.out (h := ?_)
    iterate 2 refine Steps.nI_ 10 HT_.out (h := ?_)
    iterate 7 refine Steps.nR_ 10 HT_.out (h := ?_)
    iterate 2 refine Steps.nI_ 10 HT_.out (h := ?_)
    iterate 4 refine Steps.nR_ 10 HT_.out (h := ?_)
    refine Steps.nI_ 10 HT_.out (h := ?_)
    refine done_ (cC HT_.out z2_) ?_
    go_wp2
    go_meet
    case rel => exact ⟨true, rfl, ⟨by rw [hY (fun h => hv_n.out h.1.2.2.2.1)]; rfl⟩, ⟨bk3⟩, ⟨hb3⟩⟩
   have hv_y := mk_ hv
   have hv0 : (vecE x.f1 == 0) = true := beq_iff_eq.mpr hv
   have hv1 : (vecE x.f1 != 0) = false := bne_eq_false_iff_eq.mpr hv
   have hv2 : decide (vecE x.f1 = 0) = true := decide_eq_true hv
   clear hv
   by_cases hq : rd x.f1 x.f0.f0 = wrap64 (x.f0.f1 - 1)
   rotate_left
   ·
    have hq_n := mk_ hq
    have hq0 : (rd x.f1 x.f0.f0 == wrap64 (x.f0.f1 - 1)) = false := beq_eq_false_iff_ne.mpr hq
    have hq1 : (rd x.f1 x.f0.f0 != wrap64 (x.f0.f1 - 1)) = true := bne_iff_ne.mpr hq
    have hq2 : decide (rd x.f1 x.f0.f0 = wrap64 (x.f0.f1 - 1)) = false := decide_eq_false hq
    clear hq
    iterate 4 refine Steps.nI_ 10 HT_.out (h := ?_)
    refine Steps.nT_ 10 HT_.out HW_.out hS3 (h := ?_)
    iterate 2 refine Steps.nI_ 10 HT_.out (h := ?_)
    refine Steps.nT_ 10 HT_.out HW_.out hS3 (h := ?_)
    refine Steps.nI_ 10 HT_.out (h := ?_)
    refine Steps.nT_ 10 HT_.out HW_.out hS3 (h := ?_)
    iterate 2 refine Steps.nI_ 10 HT_.out (h := ?_)
    refine Steps.nT_ 10 HT_.out HW_.out hS3 (h := ?_)
    iterate 4 refine Steps.nI_ 10 HT_.out (h := ?_)
    iterate 4 refine Steps.nR_ 10 HT_.out (h := ?_)
    iterate 2 refine Steps.nI_ 10 HT_.out (h := ?_)
    iterate 7 refine Steps.nR_ 10 HT_.out (h := ?_)
    iterate 2 refine Steps.nI_ 10 HT_.out (h := ?_)
    iterate 7 refine Steps.nR_ 10 HT_.out (h := ?_)
    iterate 2 refine Steps.nI_ 10 HT_.out (h := ?_)
    iterate 4 refine Steps.nR_ 10 HT_.out (h := ?_)
    refine Steps.nI_ 10 HT_.out (h := ?_)
    refine done_ (cC HT_.out z2_) ?_
    go_wp2
    go_meet
    case rel => exact ⟨true, rfl, ⟨by rw [hY (fun h => hq_n.out (by rw [w64 (by have := E2.out.1 z6_; omega) (by have := E2.out.1 z6_; omega)]; exact h.1.2.2.2.2.1))]; rfl⟩, ⟨bk3⟩, ⟨hb3⟩⟩
   have hq_y := mk_ hq
   have hq0 : (rd x.f1 x.f0.f0 == wrap64 (x.f0.f1 - 1)) = true := beq_iff_eq.mpr hq
   have hq1 : (rd x.f1 x.f0.f0 != wrap64 (x.f0.f1 - 1)) = false := bne_eq_false_iff_eq.mpr hq
   have hq2 : decide (rd x.f1 x.f0.f0 = wrap64 (x.f0.f1 - 1)) = true := decide_eq_true hq
   clear hq
   iterate 4 refine Steps.nI_ 10 HT_.out (h := ?_)
   refine Steps.nT_ 10 HT_.out HW_.out hS3 (h := ?_)
   iterate 2 refine Steps.nI_ 10 HT_.out (h := ?_)
   refine Steps.nT_ 10 HT_.out HW_.out hS3 (h := ?_)
   refine Steps.nI_ 10 HT_.out (h := ?_)
   refine Steps.nT_ 10 HT_.out HW_.out hS3 (h := ?_)
   iterate 2 refine Steps.nI_ 10 HT_.out (h := ?_)
   refine Steps.nT_ 10 HT_.out HW_.out hS3 (h := ?_)
   iterate 5 refine Steps.nI_ 10 HT_.out (h := ?_)
   refine Steps.nT_ 10 HT_.out HW_.out hS3 (h := ?_)
   refine one_ (i := 44) (N := some 54) (Steps.Pre 71 45) rfl rfl (cB HT_.out z2_) z5_ (fun K hK => ?_)
   refine goes_ Tryz.func63 z2_ rfl #[.agg #[.int .i64 x.f2.f0, .int .i64 x.f2.f1, .int .i64 x.f2.f2]] (Steps.want_ (k := 44) rfl z2_) rfl rfl z0_ ?_
   refine (fC.calls x.f2.f0 x.f2.f1 x.f2.f2 b6 _ HS.out).mono ?_
   rintro e W4 ⟨rfl, hq⟩
   have bk4 := bE bk3 hq
   have hb4 := aC hb3 hq
   refine ⟨_, rfl, ?_⟩
   refine hK.out _ _ ⟨bk4, ((hb4.cell (World.block_lt_of_cell? w _ hw)).trans hw), trivial⟩ (fun hS4 => ?_)
   clear hK K hq hS3 bk3 hb3
   refine nrm 54 ?_
   iterate 3 refine Steps.nI_ 10 HT_.out (h := ?_)
   cases b6
   ·
    iterate 7 refine Steps.nR_ 10 HT_.out (h := ?_)
    iterate 2 refine Steps.nI_ 10 HT_.out (h := ?_)
    iterate 7 refine Steps.nR_ 10 HT_.out (h := ?_)
    iterate 2 refine Steps.nI_ 10 HT_.out (h := ?_)
    iterate 4 refine Steps.nR_ 10 HT_.out (h := ?_)
    refine Steps.nI_ 10 HT_.out (h := ?_)
    refine done_ (cC HT_.out z2_) ?_
    go_wp2
    go_meet
    case rel => exact ⟨true, rfl, ⟨by rw [hY (fun h => absurd (E6.out.2 h.1.2.2.2.2.2.1) z5_)]; rfl⟩, ⟨bk4⟩, ⟨hb4⟩⟩
   by_cases hp : x.f2.f2 = x.f0.f0
   rotate_left
   ·
    have hp_n := mk_ hp
    have hp0 : (x.f2.f2 == x.f0.f0) = false := beq_eq_false_iff_ne.mpr hp
    have hp1 : (x.f2.f2 != x.f0.f0) = true := bne_iff_ne.mpr hp
    have hp2 : decide (x.f2.f2 = x.f0.f0) = false := decide_eq_false hp
    clear hp
    iterate 2 refine Steps.nI_ 10 HT_.out (h := ?_)
    refine Steps.nT_ 10 HT_.out HW_.out hS4 (h := ?_)
    iterate 2 refine Steps.nI_ 10 HT_.out (h := ?_)
    refine Steps.nT_ 10 HT_.out HW_.out hS4 (h := ?_)
    iterate 3 refine Steps.nI_ 10 HT_.out (h := ?_)
    iterate 7 refine Steps.nR_ 10 HT_.out (h := ?_)
    iterate 2 refine Steps.nI_ 10 HT_.out (h := ?_)
    iterate 4 refine Steps.nR_ 10 HT_.out (h := ?_)
    refine Steps.nI_ 10 HT_.out (h := ?_)
    refine done_ (cC HT_.out z2_) ?_
    go_wp2
    go_meet
    case rel => exact ⟨true, rfl, ⟨by rw [hY (fun h => hp_n.out h.1.2.2.2.2.2.2)]; rfl⟩, ⟨bk4⟩, ⟨hb4⟩⟩
   have hp_y := mk_ hp
   have hp0 : (x.f2.f2 == x.f0.f0) = true := beq_iff_eq.mpr hp
   have hp1 : (x.f2.f2 != x.f0.f0) = false := bne_eq_false_iff_eq.mpr hp
   have hp2 : decide (x.f2.f2 = x.f0.f0) = true := decide_eq_true hp
   clear hp
   iterate 2 refine Steps.nI_ 10 HT_.out (h := ?_)
   refine Steps.nT_ 10 HT_.out HW_.out hS4 (h := ?_)
   iterate 2 refine Steps.nI_ 10 HT_.out (h := ?_)
   refine Steps.nT_ 10 HT_.out HW_.out hS4 (h := ?_)
   iterate 4 refine Steps.nI_ 10 HT_.out (h := ?_)
   refine Steps.nT_ 10 HT_.out HW_.out hS4 (h := ?_)
   iterate 3 refine Steps.nI_ 10 HT_.out (h := ?_)
   refine one_ (i := 62) (N := some 72) (Steps.Pre 71 63) rfl rfl (cB HT_.out z2_) z5_ (fun K hK => ?_)
   refine goes_ Tryz.func30 z2_ rfl #[.int .i64 x.f4, .int .i64 0, .int .i64 (wrap64 ((f.length : Int) - 1))] (Steps.want_ (k := 62) rfl z2_) rfl rfl z0_ ?_
   refine (aT.calls x.f4 0 (wrap64 ((f.length : Int) - 1)) b8 _ HI8.out).mono ?_
   rintro e W5 ⟨rfl, hq⟩
   have bk5 := bE bk4 hq.below
   have hb5 := aC hb4 hq.below
   refine ⟨_, rfl, ?_⟩
   refine hK.out _ _ ⟨bk5, ((hb5.cell (World.block_lt_of_cell? w _ hw)).trans hw), trivial⟩ (fun hS5 => ?_)
   clear hK K hq hS4 bk4 hb4
   refine nrm 72 ?_
   iterate 3 refine Steps.nI_ 10 HT_.out (h := ?_)
   cases b8
   ·
    iterate 4 refine Steps.nR_ 10 HT_.out (h := ?_)
    refine Steps.nI_ 10 HT_.out (h := ?_)
    refine done_ (cC HT_.out z2_) ?_
    go_wp2
    go_meet
    case rel => exact ⟨true, rfl, ⟨by rw [hY (fun h => absurd (E8.out.2 h.2.1) z5_)]; rfl⟩, ⟨bk5⟩, ⟨hb5⟩⟩
   refine Steps.nI_ 10 HT_.out (h := ?_)
   refine Steps.nT_ 10 HT_.out HW_.out hS5 (h := ?_)
   refine one_ (i := 68) (N := some 78) (Steps.Pre 71 69) rfl rfl (cB HT_.out z2_) z5_ (fun K hK => ?_)
   refine goes_ Tryz.func12 z2_ rfl #[.string x.f5] (Steps.want_ (k := 68) rfl z2_) rfl rfl z0_ ?_
   refine (eW.calls x.f5 b9 _ HK.out).mono ?_
   rintro e W6 ⟨rfl, hq⟩
   have bk6 := bE bk5 hq.below
   have hb6 := aC hb5 hq.below
   refine ⟨_, rfl, ?_⟩
   refine hK.out _ _ ⟨bk6, ((hb6.cell (World.block_lt_of_cell? w _ hw)).trans hw), trivial⟩ (fun hS6 => ?_)
   clear hK K hq hS5 bk5 hb5
   refine nrm 78 ?_
   iterate 2 refine Steps.nI_ 10 HT_.out (h := ?_)
   refine done_ (cC HT_.out z2_) ?_
   go_wp2
   go_meet
   case rel => exact ⟨!b9, by first | rfl | (simp; done), ⟨by have hq2 : rd x.f1 x.f0.f0 = x.f0.f1 - 1 := (by rw [hq_y.out, w64 (by have := E2.out.1 z6_; omega) (by have := E2.out.1 z6_; omega)]); unfold opT; rw [decide_eq_true (show wholeP n x from ⟨E1.out.1 z6_, E2.out.1 z6_, HL.out, hv_y.out, hq2, E6.out.1 z6_, hp_y.out⟩), decide_eq_true (E8.out.1 z6_), E9.out]; rfl⟩, ⟨bk6⟩, ⟨hb6⟩⟩
 case rest => as_aux_lemma =>
 obtain ⟨b, rfl, HA, BK, HB⟩ := hcut
 cases b with
 | true =>
  have ht : opT n f x = false := by
   have := HA.out
   cases h : opT n f x
   ·
    rfl
   ·
    rw [h] at this; cases this
  go_wp2
  go_ret
  rw [show res = false from by rw [HR0.out, ht]; rfl]
  exact ⟨rfl, HB.out⟩
 | false =>
  have ht : opT n f x = true := by
   have := HA.out
   cases h : opT n f x
   ·
    rw [h] at this; cases this
   ·
    rfl
  obtain ⟨hwh, ⟨p0, q0⟩, hky⟩ := opT_yes ht
  have hrk : res = kindB (colsOf f x) x := by rw [HR0.out, ht]; rfl
  clear HR0
  obtain ⟨ad0, A0, c0, he_, hx0, hl0, hi0⟩ := fQ HR1.out x.f4 p0 q0
  have hc : (colsOf f x).length ≤ 1000 := by
   obtain ⟨i, hi⟩ := Int.eq_ofNat_of_zero_le p0
   unfold colsOf
   rw [hi]
   show (f.getD ((i : Int).toNat) _).f0.length ≤ _
   rw [Int.toNat_natCast, List.getD_eq_getElem?_getD, List.getElem?_eq_getElem (show i < f.length by omega)]
   exact HN.out.2.2.2 _ (List.getElem_mem _)
  replace hx0 : w.cell? (ad0.add (x.f4).toNat) = some (.slice A0 (colsOf f x).length c0) := hx0
  replace hl0 : (colsOf f x).length ≤ c0 := hl0
  replace hi0 : (Kd.int .i64).C w A0 (colsOf f x).length (colsOf f x) := hi0
  replace hx0 := up_ HB hx0
  generalize colsOf f x = c at hc hx0 hl0 hi0 hrk
  have HRK := mk_ hrk
  clear hrk
  subst he_
  have HRC := mk_ hi0
  have HCC := mk_ hl0
  have HLC := mk_ hc
  have p1 := eq_true p0
  have q1 := eq_true q0
  have p2 : decide (0 ≤ x.f4) = true := decide_eq_true p0
  have q2 : decide (x.f4 < (f.length : Int)) = true := decide_eq_true q0
  clear hi0 hl0 hc p0 q0 hwh hky ht HA
  have kb := aD BK.out
  by_cases k1 : x.f3 = 1
  ·
   as_aux_lemma =>
   have HRS := mk_ (show res = (smallB x.f7 c && decide (x.f6 = 0) && decide (x.f8.length = 0)) by rw [HRK.out]; unfold kindB; rw [if_pos k1])
   clear HRK
   have k1_0 : (x.f3 == 1) = true := beq_iff_eq.mpr k1
   have k1_1 : (x.f3 != 1) = false := bne_eq_false_iff_eq.mpr k1
   have k1_2 : decide (x.f3 = 1) = true := decide_eq_true k1
   clear k1
   by_cases h1 : (x.f7.length : Int) = (c.length : Int)
   rotate_left
   ·
    have h1_n := mk_ h1
    have h1_0 : ((x.f7.length : Int) == (c.length : Int)) = false := beq_eq_false_iff_ne.mpr h1
    have h1_1 : ((x.f7.length : Int) != (c.length : Int)) = true := bne_iff_ne.mpr h1
    have h1_2 : decide ((x.f7.length : Int) = (c.length : Int)) = false := decide_eq_false h1
    clear h1
    go_wp2
    go_ret
    rw [show res = false from by rw [HRS.out, small_ne (fun h => h1_n.out (by rw [h]))]; rfl]
    exact ⟨rfl, HB.out⟩
   have h1_y := mk_ h1
   have h1_0 : ((x.f7.length : Int) == (c.length : Int)) = true := beq_iff_eq.mpr h1
   have h1_1 : ((x.f7.length : Int) != (c.length : Int)) = false := bne_eq_false_iff_eq.mpr h1
   have h1_2 : decide ((x.f7.length : Int) = (c.length : Int)) = true := decide_eq_true h1
   clear h1
   by_cases h2 : x.f6 = 0
   rotate_left
   ·
    have h2_n := mk_ h2
    have h2_0 : (x.f6 == 0) = false := beq_eq_false_iff_ne.mpr h2
    have h2_1 : (x.f6 != 0) = true := bne_iff_ne.mpr h2
    have h2_2 : decide (x.f6 = 0) = false := decide_eq_false h2
    clear h2
    go_wp2
    go_ret
    rw [show res = false from by rw [HRS.out, decide_eq_false h2_n.out, Bool.and_false]; rfl]
    exact ⟨rfl, HB.out⟩
   have h2_y := mk_ h2
   have h2_0 : (x.f6 == 0) = true := beq_iff_eq.mpr h2
   have h2_1 : (x.f6 != 0) = false := bne_eq_false_iff_eq.mpr h2
   have h2_2 : decide (x.f6 = 0) = true := decide_eq_true h2
   clear h2
   by_cases h3 : 0 < (x.f8.length : Int)
   ·
    have h3_n := mk_ h3
    have h3_0 : decide (0 < (x.f8.length : Int)) = true := decide_eq_true h3
    have h3_1 : decide (0 < x.f8.length) = true := decide_eq_true z3_
    clear h3
    go_wp2
    go_ret
    rw [show res = false from by rw [HRS.out, decide_eq_false (show ¬ x.f8.length = 0 by have := h3_n.out; omega), Bool.and_false]]
    exact ⟨rfl, HB.out⟩
   have h3_y := mk_ h3
   have h3_0 : decide (0 < (x.f8.length : Int)) = false := decide_eq_false h3
   have h3_1 : decide (0 < x.f8.length) = false := decide_eq_false z3_
   clear h3
   have HQ0 := mk_ (show res = sfG (x.f7.drop 0) (c.drop 0) by rw [HRS.out, decide_eq_true h2_y.out, decide_eq_true (show x.f8.length = 0 by have := h3_y.out; omega), Bool.and_true, Bool.and_true, small_sf (by have := h1_y.out; omega)]; rfl)
   go_wp2
   clear HRS h2_y h3_y h2_0 h2_1 h2_2 h3_0 h3_1
   go_loopg [8] (c.length + 1) (fun kq v8 W' => ∃ (i : Nat) (z : Int), v8 = .int .i64 z ∧ Aside0 (z = (i : Int) ∧ kq + i = c.length + 1 ∧ i ≤ c.length) ∧ Aside0 (res = sfG (x.f7.drop i) (c.drop i)) ∧ Aside0 (W'.heap[gb]? = some (.cells #[.int .i64 x.f0.f0, .int .i64 x.f0.f1, .slice A2 x.f1.length c2, .int .i64 x.f2.f0, .int .i64 x.f2.f1, .int .i64 x.f2.f2, .int .i64 x.f3, .int .i64 x.f4, .string x.f5, .int .i64 x.f6, .slice A10 x.f7.length c10, .slice A11 x.f8.length c11] 31 (0, 0))) ∧ Aside0 (Below w.heap.size w W'))
   case atStart => exact ⟨0, 0, rfl, ⟨by omega⟩, ⟨HQ0.out⟩, ⟨BK.out⟩, ⟨HB.out⟩⟩
   case round =>
    clear HQ0 BK HB kb hx0
    obtain ⟨i, z, rfl, HK, HQ, BK, HB⟩ := hrel
    have hz := HK.out.1
    obtain ⟨kk, rfl⟩ : ∃ kk, gk = kk + 1 := ⟨gk - 1, by have := HK.out; omega⟩
    by_cases hi : z < (c.length : Int)
    rotate_left
    ·
     have hi0 : decide (z < (c.length : Int)) = false := decide_eq_false hi
     have hr : res = true := by rw [HQ.out, List.drop_eq_nil_of_le (show c.length ≤ i by omega)]; exact sf_nil _
     clear hi HQ hz
     go_wp2
     go_ret
     rw [hr]
     exact ⟨rfl, HB.out⟩
    have hiv : z < (x.f7.length : Int) := by rw [h1_y.out]; exact hi
    have hst := sf_step (l := x.f7) (c := c) (i := i) z3_ z3_
    rw [← hz] at hst
    have HST := mk_ hst
    clear hst
    obtain ⟨ad, hea, hv0, hv1, hv2⟩ := fK HR10.out z z3_ hiv
    obtain ⟨ac, hec, hcw⟩ := Kd.at_int HRC.out z z3_ hi
    subst hea
    subst hec
    have p0 : (0 ≤ z) = True := eq_true z3_
    have p1 : decide (0 ≤ z) = true := decide_eq_true z3_
    have q0 := eq_true hiv
    have q1 : decide (z < (x.f7.length : Int)) = true := decide_eq_true hiv
    have q2 := eq_true hi
    have q3 : decide (z < (c.length : Int)) = true := decide_eq_true hi
    have HI := mk_ hi
    clear hi hiv hz
    obtain ⟨b4, e4⟩ : ∃ b, smallV (aK x.f7 z) = b := ⟨_, rfl⟩
    obtain ⟨b5, e5⟩ : ∃ b, fitV (aK x.f7 z) (rd c z) = b := ⟨_, rfl⟩
    have HF4 := mk_ (show eB.f (aK x.f7 z).f0 (aK x.f7 z).f1 (aK x.f7 z).f2 = some b4 by rw [rsmall_eq, ← e4]; rfl)
    have HF5 := mk_ (show eL.f (aK x.f7 z).f0 (aK x.f7 z).f1 (aK x.f7 z).f2 (rd c z) = some b5 by rw [rfits_eq, ← e5]; rfl)
    rw [e4, e5] at HST
    clear e4 e5
    try go_wp2
    refine Steps.start_n (n := 20) (S := fun w' => w'.heap[gb]? = some (.cells #[.int .i64 x.f0.f0, .int .i64 x.f0.f1, .slice A2 x.f1.length c2, .int .i64 x.f2.f0, .int .i64 x.f2.f1, .int .i64 x.f2.f2, .int .i64 x.f3, .int .i64 x.f4, .string x.f5, .int .i64 x.f6, .slice (some ad) x.f7.length c10, .slice A11 x.f8.length c11] 31 (0, 0)) ∧ w'.cell? (ad.add ((z).toNat * 3)) = some (.int .i64 (aK x.f7 z).f0) ∧ w'.cell? ⟨(ad.add ((z).toNat * 3)).block, (ad.add ((z).toNat * 3)).off + 1, none⟩ = some (.int .i64 (aK x.f7 z).f1) ∧ w'.cell? ⟨(ad.add ((z).toNat * 3)).block, (ad.add ((z).toNat * 3)).off + 2, none⟩ = some (.string (aK x.f7 z).f2) ∧ w'.cell? (ac.add (z).toNat) = some (.int .i64 (rd c z)) ∧ True) (ds := []) (fun W => W.heap[gb]? = some (.cells #[.int .i64 x.f0.f0, .int .i64 x.f0.f1, .slice A2 x.f1.length c2, .int .i64 x.f2.f0, .int .i64 x.f2.f1, .int .i64 x.f2.f2, .int .i64 x.f3, .int .i64 x.f4, .string x.f5, .int .i64 x.f6, .slice (some ad) x.f7.length c10, .slice A11 x.f8.length c11] 31 (0, 0)) ∧ Below w.heap.size w W) z2_ rfl z2_ ⟨aI BK.out, HB.out.drew⟩ (fun W hJ => ?_) (fun W0 hJ hS0 => ?_)
    ·
     obtain ⟨bk0, hb0⟩ := hJ
     exact ⟨bk0, ((hb0.cell (World.block_lt_of_cell? w _ hv0)).trans hv0), ((hb0.cell (World.block_lt_of_cell? w _ hv1)).trans hv1), ((hb0.cell (World.block_lt_of_cell? w _ hv2)).trans hv2), ((hb0.cell (World.block_lt_of_cell? w _ hcw)).trans hcw), trivial⟩
    obtain ⟨bk0, hb0⟩ := hJ
    refine cZ pgtab11 pgbits11 (fun HT_ HW_ => ?_)
    refine Steps.nI_ 114 HT_.out (h := ?_)
    refine Steps.nT_ 114 HT_.out HW_.out hS0 (h := ?_)
    iterate 2 refine Steps.nI_ 114 HT_.out (h := ?_)
    refine Steps.nT_ 114 HT_.out HW_.out hS0 (h := ?_)
    refine one_ (i := 5) (N := some 119) (Steps.Pre 20 6) rfl rfl (cB HT_.out z2_) z5_ (fun K hK => ?_)
    refine goes_ Tryz.func64 z2_ rfl #[.agg #[.int .i64 (aK x.f7 z).f0, .int .i64 (aK x.f7 z).f1, .string (aK x.f7 z).f2]] (Steps.want_ (k := 5) rfl z2_) rfl rfl z0_ ?_
    refine (eB.calls _ _ _ b4 _ HF4.out).mono ?_
    rintro e W1 ⟨rfl, hq⟩
    have bk1 := bE bk0 hq
    have hb1 := aC hb0 hq
    refine ⟨_, rfl, ?_⟩
    refine hK.out _ _ ⟨bk1, ((hb1.cell (World.block_lt_of_cell? w _ hv0)).trans hv0), ((hb1.cell (World.block_lt_of_cell? w _ hv1)).trans hv1), ((hb1.cell (World.block_lt_of_cell? w _ hv2)).trans hv2), ((hb1.cell (World.block_lt_of_cell? w _ hcw)).trans hcw), trivial⟩ (fun hS1 => ?_)
    clear hK K hq hS0 bk0 hb0
    refine nrm 119 ?_
    iterate 2 refine Steps.nI_ 114 HT_.out (h := ?_)
    cases b4
    ·
     iterate 11 refine Steps.nR_ 114 HT_.out (h := ?_)
     refine Steps.nI_ 114 HT_.out (h := ?_)
     refine done_ (cC HT_.out z2_) ?_
     go_wp2
     go_ret
     rw [show res = false from by rw [HQ.out, HST.out]; rfl]
     exact ⟨rfl, hb1⟩
    refine Steps.nI_ 114 HT_.out (h := ?_)
    refine Steps.nT_ 114 HT_.out HW_.out hS1 (h := ?_)
    iterate 2 refine Steps.nI_ 114 HT_.out (h := ?_)
    refine Steps.nT_ 114 HT_.out HW_.out hS1 (h := ?_)
    iterate 3 refine Steps.nI_ 114 HT_.out (h := ?_)
    refine Steps.nT_ 114 HT_.out HW_.out hS1 (h := ?_)
    refine one_ (i := 17) (N := some 131) (Steps.Pre 20 18) rfl rfl (cB HT_.out z2_) z5_ (fun K hK => ?_)
    refine goes_ Tryz.func65 z2_ rfl #[.agg #[.int .i64 (aK x.f7 z).f0, .int .i64 (aK x.f7 z).f1, .string (aK x.f7 z).f2], .int .i64 (rd c z)] (Steps.want_ (k := 17) rfl z2_) rfl rfl z0_ ?_
    refine (eL.calls _ _ _ _ b5 _ HF5.out).mono ?_
    rintro e W2 ⟨rfl, hq⟩
    have bk2 := bE bk1 hq
    have hb2 := aC hb1 hq
    refine ⟨_, rfl, ?_⟩
    refine hK.out _ _ ⟨bk2, ((hb2.cell (World.block_lt_of_cell? w _ hv0)).trans hv0), ((hb2.cell (World.block_lt_of_cell? w _ hv1)).trans hv1), ((hb2.cell (World.block_lt_of_cell? w _ hv2)).trans hv2), ((hb2.cell (World.block_lt_of_cell? w _ hcw)).trans hcw), trivial⟩ (fun hS2 => ?_)
    clear hK K hq hS1 bk1 hb1
    refine nrm 131 ?_
    cases b5
    ·
     iterate 2 refine Steps.nI_ 114 HT_.out (h := ?_)
     refine done_ (cC HT_.out z2_) ?_
     go_wp2
     go_ret
     rw [show res = false from by rw [HQ.out, HST.out]; rfl]
     exact ⟨rfl, hb2⟩
    iterate 2 refine Steps.nI_ 114 HT_.out (h := ?_)
    refine done_ (cC HT_.out z2_) ?_
    go_wp2
    go_roundg kk
    case measure => exact Nat.lt_succ_self _
    case rel => exact ⟨i + 1, _, rfl, ⟨by have := HK.out; have := HI.out; have := HLC.out; rw [w64 z3_ z3_]; omega⟩, ⟨by rw [HQ.out, HST.out]; rfl⟩, ⟨bk2⟩, ⟨hb2⟩⟩
  have HK1 := mk_ k1
  have k1_0 : (x.f3 == 1) = false := beq_eq_false_iff_ne.mpr k1
  have k1_1 : (x.f3 != 1) = true := bne_iff_ne.mpr k1
  have k1_2 : decide (x.f3 = 1) = false := decide_eq_false k1
  clear k1
  by_cases k2 : x.f3 = 2
  ·
   as_aux_lemma =>
    have HRS := mk_ (show res = (decide (0 ≤ x.f6 ∧ x.f6 < c.length) && smallB x.f7 [rd c x.f6] && decide (x.f8.length = 0)) by rw [HRK.out]; unfold kindB; rw [if_neg HK1.out, if_pos k2])
    clear HRK
    have k2_0 : (x.f3 == 2) = true := beq_iff_eq.mpr k2
    have k2_1 : (x.f3 != 2) = false := bne_eq_false_iff_eq.mpr k2
    have k2_2 : decide (x.f3 = 2) = true := decide_eq_true k2
    clear k2
    have hwc : wrap64 ((c.length : Int) - 1) = (c.length : Int) - 1 := w64 z3_ (by have := HLC.out; omega)
    obtain ⟨b3, e3⟩ : ∃ b, decide (0 ≤ x.f6 ∧ x.f6 ≤ (c.length : Int) - 1) = b := ⟨_, rfl⟩
    have HF3 := mk_ (show aT.f x.f6 0 (wrap64 ((c.length : Int) - 1)) = some b3 by rw [fZ, hwc, e3])
    have E3 : Aside0 (b3 = true ↔ 0 ≤ x.f6 ∧ x.f6 < (c.length : Int)) := ⟨by rw [← e3, decide_eq_true_eq]; omega⟩
    clear e3 hwc
    by_cases hg : (0 ≤ x.f6 ∧ x.f6 < (c.length : Int)) ∧ x.f7.length = 1
    rotate_left
    ·
     have HG := mk_ hg
     clear hg
     try go_wp2
     refine Steps.start_n (n := 38) (S := fun w' => w'.heap[gb]? = some (.cells #[.int .i64 x.f0.f0, .int .i64 x.f0.f1, .slice A2 x.f1.length c2, .int .i64 x.f2.f0, .int .i64 x.f2.f1, .int .i64 x.f2.f2, .int .i64 x.f3, .int .i64 x.f4, .string x.f5, .int .i64 x.f6, .slice A10 x.f7.length c10, .slice A11 x.f8.length c11] 31 (0, 0)) ∧ True) (ds := []) (fun W => W.heap[gb]? = some (.cells #[.int .i64 x.f0.f0, .int .i64 x.f0.f1, .slice A2 x.f1.length c2, .int .i64 x.f2.f0, .int .i64 x.f2.f1, .int .i64 x.f2.f2, .int .i64 x.f3, .int .i64 x.f4, .string x.f5, .int .i64 x.f6, .slice A10 x.f7.length c10, .slice A11 x.f8.length c11] 31 (0, 0)) ∧ Below w.heap.size w W) z2_ rfl z2_ ⟨aI BK.out, HB.out.drew⟩ (fun W hJ => ?_) (fun W0 hJ hS0 => ?_)
     ·
      obtain ⟨bk0, hb0⟩ := hJ
      exact ⟨bk0, trivial⟩
     obtain ⟨bk0, hb0⟩ := hJ
     refine cZ pgtab15 pgbits15 (fun HT_ HW_ => ?_)
     refine Steps.nI_ 136 HT_.out (h := ?_)
     refine Steps.nT_ 136 HT_.out HW_.out hS0 (h := ?_)
     iterate 3 refine Steps.nI_ 136 HT_.out (h := ?_)
     refine one_ (i := 5) (N := some 141) (Steps.Pre 38 6) rfl rfl (cB HT_.out z2_) z5_ (fun K hK => ?_)
     refine goes_ Tryz.func30 z2_ rfl #[.int .i64 x.f6, .int .i64 0, .int .i64 (wrap64 ((c.length : Int) - 1))] (Steps.want_ (k := 5) rfl z2_) rfl rfl z0_ ?_
     refine (aT.calls x.f6 0 (wrap64 ((c.length : Int) - 1)) b3 _ HF3.out).mono ?_
     rintro e W1 ⟨rfl, hq⟩
     have bk1 := bE bk0 hq.below
     have hb1 := aC hb0 hq.below
     refine ⟨_, rfl, ?_⟩
     refine hK.out _ _ ⟨bk1, trivial⟩ (fun hS1 => ?_)
     clear hK K hq hS0 bk0 hb0
     refine nrm 141 ?_
     refine Steps.nI_ 136 HT_.out (h := ?_)
     cases b3
     ·
      iterate 4 refine Steps.nR_ 136 HT_.out (h := ?_)
      iterate 2 refine Steps.nI_ 136 HT_.out (h := ?_)
      iterate 5 refine Steps.nR_ 136 HT_.out (h := ?_)
      iterate 2 refine Steps.nI_ 136 HT_.out (h := ?_)
      iterate 10 refine Steps.nR_ 136 HT_.out (h := ?_)
      iterate 2 refine Steps.nI_ 136 HT_.out (h := ?_)
      iterate 4 refine Steps.nR_ 136 HT_.out (h := ?_)
      refine Steps.nI_ 136 HT_.out (h := ?_)
      refine Steps.pI_ 37 (some 6) (Steps.Pre 38 38) (eY HT_.out z2_) (h := ?_)
      refine done_ (cC HT_.out z2_) ?_
      go_wp2
      go_ret
      rw [show res = false from by rw [HRS.out, decide_eq_false (fun h => absurd (E3.out.2 h) z5_)]; rfl]
      exact ⟨rfl, hb1⟩
     have hl : ¬ (x.f7.length : Int) = 1 := fun h => HG.out ⟨E3.out.1 z6_, by omega⟩
     have HL := mk_ hl
     have hl_0 : ((x.f7.length : Int) == 1) = false := beq_eq_false_iff_ne.mpr hl
     have hl_1 : ((x.f7.length : Int) != 1) = true := bne_iff_ne.mpr hl
     have hl_2 : decide ((x.f7.length : Int) = 1) = false := decide_eq_false hl
     clear hl
     refine Steps.nI_ 136 HT_.out (h := ?_)
     refine Steps.nT_ 136 HT_.out HW_.out hS1 (h := ?_)
     iterate 4 refine Steps.nI_ 136 HT_.out (h := ?_)
     iterate 5 refine Steps.nR_ 136 HT_.out (h := ?_)
     iterate 2 refine Steps.nI_ 136 HT_.out (h := ?_)
     iterate 10 refine Steps.nR_ 136 HT_.out (h := ?_)
     iterate 2 refine Steps.nI_ 136 HT_.out (h := ?_)
     iterate 4 refine Steps.nR_ 136 HT_.out (h := ?_)
     refine Steps.nI_ 136 HT_.out (h := ?_)
     refine Steps.pI_ 37 (some 6) (Steps.Pre 38 38) (eY HT_.out z2_) (h := ?_)
     refine done_ (cC HT_.out z2_) ?_
     go_wp2
     go_ret
     rw [show res = false from by rw [HRS.out, small_ne (fun h => HL.out (by rw [h]; rfl)), Bool.and_false]; rfl]
     exact ⟨rfl, hb1⟩
    obtain ⟨⟨p0, q0⟩, h1⟩ := hg
    have hb3 : b3 = true := E3.out.2 ⟨p0, q0⟩
    subst hb3
    have h1i : (x.f7.length : Int) = 1 := by rw [h1]; rfl
    have h1_0 : ((x.f7.length : Int) == 1) = true := beq_iff_eq.mpr h1i
    have h1_1 : ((x.f7.length : Int) != 1) = false := bne_eq_false_iff_eq.mpr h1i
    have h1_2 : decide ((x.f7.length : Int) = 1) = true := decide_eq_true h1i
    obtain ⟨ad, hea, hv0, hv1, hv2⟩ := fK HR10.out 0 z3_ z3_
    obtain ⟨ac, hec, hcw⟩ := Kd.at_int HRC.out x.f6 p0 q0
    subst hea
    subst hec
    rw [show ((0 : Int)).toNat = 0 from rfl, show 0 * 3 = 0 from rfl, Addr.add_zero'] at hv0 hv1 hv2
    have HST := mk_ (show smallB x.f7 [rd c x.f6] = (smallV (aK x.f7 0) && fitV (aK x.f7 0) (rd c x.f6)) by rw [small_sf (by rw [h1]; rfl)]; exact (sf_step (l := x.f7) (c := [rd c x.f6]) (i := 0) z3_ z6_).trans (by rw [List.drop_eq_nil_of_le (show [rd c x.f6].length ≤ 0 + 1 from Nat.le_refl _), sf_nil, Bool.and_true]; rfl))
    have qi : (0 < x.f7.length) = True := eq_true z3_
    have qj : (0 < (x.f7.length : Int)) = True := eq_true z3_
    have p1 := eq_true p0
    have q1 := eq_true q0
    have p2 : decide (0 ≤ x.f6) = true := decide_eq_true p0
    have q2 : decide (x.f6 < (c.length : Int)) = true := decide_eq_true q0
    have HPQ := mk_ (And.intro p0 q0)
    clear p0 q0 h1 h1i
    obtain ⟨b4, e4⟩ : ∃ b, smallV (aK x.f7 0) = b := ⟨_, rfl⟩
    obtain ⟨b5, e5⟩ : ∃ b, fitV (aK x.f7 0) (rd c x.f6) = b := ⟨_, rfl⟩
    have HF4 := mk_ (show eB.f (aK x.f7 0).f0 (aK x.f7 0).f1 (aK x.f7 0).f2 = some b4 by rw [rsmall_eq, ← e4]; rfl)
    have HF5 := mk_ (show eL.f (aK x.f7 0).f0 (aK x.f7 0).f1 (aK x.f7 0).f2 (rd c x.f6) = some b5 by rw [rfits_eq, ← e5]; rfl)
    rw [e4, e5] at HST
    clear e4 e5
    try go_wp2
    refine Steps.start_n (n := 38) (S := fun w' => w'.heap[gb]? = some (.cells #[.int .i64 x.f0.f0, .int .i64 x.f0.f1, .slice A2 x.f1.length c2, .int .i64 x.f2.f0, .int .i64 x.f2.f1, .int .i64 x.f2.f2, .int .i64 x.f3, .int .i64 x.f4, .string x.f5, .int .i64 x.f6, .slice (some ad) x.f7.length c10, .slice A11 x.f8.length c11] 31 (0, 0)) ∧ w'.cell? ad = some (.int .i64 (aK x.f7 0).f0) ∧ w'.cell? ⟨ad.block, ad.off + 1, none⟩ = some (.int .i64 (aK x.f7 0).f1) ∧ w'.cell? ⟨ad.block, ad.off + 2, none⟩ = some (.string (aK x.f7 0).f2) ∧ w'.cell? (ac.add (x.f6).toNat) = some (.int .i64 (rd c x.f6)) ∧ True) (ds := []) (fun W => W.heap[gb]? = some (.cells #[.int .i64 x.f0.f0, .int .i64 x.f0.f1, .slice A2 x.f1.length c2, .int .i64 x.f2.f0, .int .i64 x.f2.f1, .int .i64 x.f2.f2, .int .i64 x.f3, .int .i64 x.f4, .string x.f5, .int .i64 x.f6, .slice (some ad) x.f7.length c10, .slice A11 x.f8.length c11] 31 (0, 0)) ∧ Below w.heap.size w W) z2_ rfl z2_ ⟨aI BK.out, HB.out.drew⟩ (fun W hJ => ?_) (fun W0 hJ hS0 => ?_)
    ·
     obtain ⟨bk0, hb0⟩ := hJ
     exact ⟨bk0, ((hb0.cell (World.block_lt_of_cell? w _ hv0)).trans hv0), ((hb0.cell (World.block_lt_of_cell? w _ hv1)).trans hv1), ((hb0.cell (World.block_lt_of_cell? w _ hv2)).trans hv2), ((hb0.cell (World.block_lt_of_cell? w _ hcw)).trans hcw), trivial⟩
    obtain ⟨bk0, hb0⟩ := hJ
    refine cZ pgtab15 pgbits15 (fun HT_ HW_ => ?_)
    refine Steps.nI_ 136 HT_.out (h := ?_)
    refine Steps.nT_ 136 HT_.out HW_.out hS0 (h := ?_)
    iterate 3 refine Steps.nI_ 136 HT_.out (h := ?_)
    refine one_ (i := 5) (N := some 141) (Steps.Pre 38 6) rfl rfl (cB HT_.out z2_) z5_ (fun K hK => ?_)
    refine goes_ Tryz.func30 z2_ rfl #[.int .i64 x.f6, .int .i64 0, .int .i64 (wrap64 ((c.length : Int) - 1))] (Steps.want_ (k := 5) rfl z2_) rfl rfl z0_ ?_
    refine (aT.calls x.f6 0 (wrap64 ((c.length : Int) - 1)) true _ HF3.out).mono ?_
    rintro e W1 ⟨rfl, hq⟩
    have bk1 := bE bk0 hq.below
    have hb1 := aC hb0 hq.below
    refine ⟨_, rfl, ?_⟩
    refine hK.out _ _ ⟨bk1, ((hb1.cell (World.block_lt_of_cell? w _ hv0)).trans hv0), ((hb1.cell (World.block_lt_of_cell? w _ hv1)).trans hv1), ((hb1.cell (World.block_lt_of_cell? w _ hv2)).trans hv2), ((hb1.cell (World.block_lt_of_cell? w _ hcw)).trans hcw), trivial⟩ (fun hS1 => ?_)
    clear hK K hq hS0 bk0 hb0
    refine nrm 141 ?_
    iterate 2 refine Steps.nI_ 136 HT_.out (h := ?_)
    refine Steps.nT_ 136 HT_.out HW_.out hS1 (h := ?_)
    iterate 5 refine Steps.nI_ 136 HT_.out (h := ?_)
    refine Steps.nT_ 136 HT_.out HW_.out hS1 (h := ?_)
    refine Steps.nI_ 136 HT_.out (h := ?_)
    refine Steps.nT_ 136 HT_.out HW_.out hS1 (h := ?_)
    refine one_ (i := 17) (N := some 153) (Steps.Pre 38 18) rfl rfl (cB HT_.out z2_) z5_ (fun K hK => ?_)
    refine goes_ Tryz.func64 z2_ rfl #[.agg #[.int .i64 (aK x.f7 0).f0, .int .i64 (aK x.f7 0).f1, .string (aK x.f7 0).f2]] (Steps.want_ (k := 17) rfl z2_) rfl rfl z0_ ?_
    refine (eB.calls _ _ _ b4 _ HF4.out).mono ?_
    rintro e W2 ⟨rfl, hq⟩
    have bk2 := bE bk1 hq
    have hb2 := aC hb1 hq
    refine ⟨_, rfl, ?_⟩
    refine hK.out _ _ ⟨bk2, ((hb2.cell (World.block_lt_of_cell? w _ hv0)).trans hv0), ((hb2.cell (World.block_lt_of_cell? w _ hv1)).trans hv1), ((hb2.cell (World.block_lt_of_cell? w _ hv2)).trans hv2), ((hb2.cell (World.block_lt_of_cell? w _ hcw)).trans hcw), trivial⟩ (fun hS2 => ?_)
    clear hK K hq hS1 bk1 hb1
    refine nrm 153 ?_
    iterate 2 refine Steps.nI_ 136 HT_.out (h := ?_)
    cases b4
    ·
     iterate 10 refine Steps.nR_ 136 HT_.out (h := ?_)
     iterate 2 refine Steps.nI_ 136 HT_.out (h := ?_)
     iterate 4 refine Steps.nR_ 136 HT_.out (h := ?_)
     refine Steps.nI_ 136 HT_.out (h := ?_)
     refine Steps.pI_ 37 (some 6) (Steps.Pre 38 38) (eY HT_.out z2_) (h := ?_)
     refine done_ (cC HT_.out z2_) ?_
     go_wp2
     go_ret
     rw [show res = false from by rw [HRS.out, HST.out, Bool.false_and, Bool.and_false]; rfl]
     exact ⟨rfl, hb2⟩
    refine Steps.nI_ 136 HT_.out (h := ?_)
    refine Steps.nT_ 136 HT_.out HW_.out hS2 (h := ?_)
    refine Steps.nI_ 136 HT_.out (h := ?_)
    refine Steps.nT_ 136 HT_.out HW_.out hS2 (h := ?_)
    iterate 2 refine Steps.nI_ 136 HT_.out (h := ?_)
    refine Steps.nT_ 136 HT_.out HW_.out hS2 (h := ?_)
    refine Steps.nI_ 136 HT_.out (h := ?_)
    refine Steps.nT_ 136 HT_.out HW_.out hS2 (h := ?_)
    refine one_ (i := 29) (N := some 165) (Steps.Pre 38 30) rfl rfl (cB HT_.out z2_) z5_ (fun K hK => ?_)
    refine goes_ Tryz.func65 z2_ rfl #[.agg #[.int .i64 (aK x.f7 0).f0, .int .i64 (aK x.f7 0).f1, .string (aK x.f7 0).f2], .int .i64 (rd c x.f6)] (Steps.want_ (k := 29) rfl z2_) rfl rfl z0_ ?_
    refine (eL.calls _ _ _ _ b5 _ HF5.out).mono ?_
    rintro e W3 ⟨rfl, hq⟩
    have bk3 := bE bk2 hq
    have hb3 := aC hb2 hq
    refine ⟨_, rfl, ?_⟩
    refine hK.out _ _ ⟨bk3, ((hb3.cell (World.block_lt_of_cell? w _ hv0)).trans hv0), ((hb3.cell (World.block_lt_of_cell? w _ hv1)).trans hv1), ((hb3.cell (World.block_lt_of_cell? w _ hv2)).trans hv2), ((hb3.cell (World.block_lt_of_cell? w _ hcw)).trans hcw), trivial⟩ (fun hS3 => ?_)
    clear hK K hq hS2 bk2 hb2
    refine nrm 165 ?_
    iterate 2 refine Steps.nI_ 136 HT_.out (h := ?_)
    cases b5
    ·
     iterate 4 refine Steps.nR_ 136 HT_.out (h := ?_)
     refine Steps.nI_ 136 HT_.out (h := ?_)
     refine Steps.pI_ 37 (some 6) (Steps.Pre 38 38) (eY HT_.out z2_) (h := ?_)
     refine done_ (cC HT_.out z2_) ?_
     go_wp2
     go_ret
     rw [show res = false from by rw [HRS.out, HST.out, Bool.and_false, Bool.and_false]; rfl]
     exact ⟨rfl, hb3⟩
    by_cases h3 : (x.f8.length : Int) = 0
    rotate_left
    ·
     have HL := mk_ h3
     have h3_0 : ((x.f8.length : Int) == 0) = false := beq_eq_false_iff_ne.mpr h3
     have h3_1 : ((x.f8.length : Int) != 0) = true := bne_iff_ne.mpr h3
     have h3_2 : decide ((x.f8.length : Int) = 0) = false := decide_eq_false h3
     clear h3
     refine Steps.nI_ 136 HT_.out (h := ?_)
     refine Steps.nT_ 136 HT_.out HW_.out hS3 (h := ?_)
     iterate 3 refine Steps.nI_ 136 HT_.out (h := ?_)
     refine Steps.pI_ 37 (some 6) (Steps.Pre 38 38) (eY HT_.out z2_) (h := ?_)
     refine done_ (cC HT_.out z2_) ?_
     go_wp2
     go_ret
     rw [show res = false from by rw [HRS.out, decide_eq_false (show ¬ x.f8.length = 0 by have := HL.out; omega), Bool.and_false]]
     exact ⟨rfl, hb3⟩
    have HL := mk_ h3
    have h3_0 : ((x.f8.length : Int) == 0) = true := beq_iff_eq.mpr h3
    have h3_1 : ((x.f8.length : Int) != 0) = false := bne_eq_false_iff_eq.mpr h3
    have h3_2 : decide ((x.f8.length : Int) = 0) = true := decide_eq_true h3
    clear h3
    refine Steps.nI_ 136 HT_.out (h := ?_)
    refine Steps.nT_ 136 HT_.out HW_.out hS3 (h := ?_)
    iterate 3 refine Steps.nI_ 136 HT_.out (h := ?_)
    refine Steps.pI_ 37 (some 6) (Steps.Pre 38 38) (eY HT_.out z2_) (h := ?_)
    refine done_ (cC HT_.out z2_) ?_
    go_wp2
    go_ret
    rw [show res = true from by rw [HRS.out, HST.out, decide_eq_true HPQ.out, decide_eq_true (show x.f8.length = 0 by have := HL.out; omega)]; rfl]
    exact ⟨rfl, hb3⟩
  have HK2 := mk_ k2
  have k2_0 : (x.f3 == 2) = false := beq_eq_false_iff_ne.mpr k2
  have k2_1 : (x.f3 != 2) = true := bne_iff_ne.mpr k2
  have k2_2 : decide (x.f3 = 2) = false := decide_eq_false k2
  clear k2
  by_cases k3 : x.f3 = 3
  rotate_left
  ·
   have hr : res = false := by rw [HRK.out]; unfold kindB; rw [if_neg HK1.out, if_neg HK2.out, if_neg k3]
   have k3_0 : (x.f3 == 3) = false := beq_eq_false_iff_ne.mpr k3
   have k3_1 : (x.f3 != 3) = true := bne_iff_ne.mpr k3
   have k3_2 : decide (x.f3 = 3) = false := decide_eq_false k3
   clear k3
   go_wp2
   go_ret
   rw [hr]
   exact ⟨rfl, HB.out⟩
  as_aux_lemma =>
   have HRS := mk_ (show res = (decide (1 ≤ x.f8.length ∧ x.f8.length ≤ 64) && hadG x.f1 none x.f8 && decide (x.f6 = 0) && decide (x.f7.length = 0)) by rw [HRK.out]; unfold kindB; rw [if_neg HK1.out, if_neg HK2.out, if_pos k3])
   clear HRK
   have k3_0 : (x.f3 == 3) = true := beq_iff_eq.mpr k3
   have k3_1 : (x.f3 != 3) = false := bne_eq_false_iff_eq.mpr k3
   have k3_2 : decide (x.f3 = 3) = true := decide_eq_true k3
   clear k3
   obtain ⟨b3, e3⟩ : ∃ b, decide (1 ≤ (x.f8.length : Int) ∧ (x.f8.length : Int) ≤ 64) = b := ⟨_, rfl⟩
   have HF3 := mk_ (show aT.f (x.f8.length : Int) 1 64 = some b3 by rw [fZ, e3])
   have E3 : Aside0 (b3 = true ↔ 1 ≤ x.f8.length ∧ x.f8.length ≤ 64) := ⟨by rw [← e3, decide_eq_true_eq]; omega⟩
   clear e3
   cases b3
   ·
    go_wp2_with (((with_reducible refine aE (f := 30) rfl ?_); refine Go.Proofs.YtjnjfogfpmeacaaGreat.Short.gL (some 178) Tryz.func30 #[.int .i64 (x.f8.length : Int), .int .i64 1, .int .i64 64] (h := ?_); (with_reducible refine (aT.calls (x.f8.length : Int) 1 64 false _ HF3.out).mono ?_); rintro e V0 ⟨rfl, hq⟩; refine ⟨_, rfl, ?_⟩; have n0_ := mk_ (bE BK.out hq.below); have n1_ := mk_ (aC HB.out hq.below); clear BK HB hq; revert n0_ n1_; intro BK HB; have kb := aD BK.out))
    go_ret
    rw [show res = false from by rw [HRS.out, decide_eq_false (fun h => absurd (E3.out.2 h) z5_)]; rfl]
    exact ⟨rfl, HB.out⟩
   by_cases h2 : x.f6 = 0
   rotate_left
   ·
    have HL := mk_ h2
    have h2_0 : (x.f6 == 0) = false := beq_eq_false_iff_ne.mpr h2
    have h2_1 : (x.f6 != 0) = true := bne_iff_ne.mpr h2
    have h2_2 : decide (x.f6 = 0) = false := decide_eq_false h2
    clear h2
    go_wp2_with (((with_reducible refine aE (f := 30) rfl ?_); refine Go.Proofs.YtjnjfogfpmeacaaGreat.Short.gL (some 178) Tryz.func30 #[.int .i64 (x.f8.length : Int), .int .i64 1, .int .i64 64] (h := ?_); (with_reducible refine (aT.calls (x.f8.length : Int) 1 64 true _ HF3.out).mono ?_); rintro e V0 ⟨rfl, hq⟩; refine ⟨_, rfl, ?_⟩; have n0_ := mk_ (bE BK.out hq.below); have n1_ := mk_ (aC HB.out hq.below); clear BK HB hq; revert n0_ n1_; intro BK HB; have kb := aD BK.out))
    go_ret
    rw [show res = false from by rw [HRS.out, decide_eq_false HL.out, Bool.and_false]; rfl]
    exact ⟨rfl, HB.out⟩
   have H2 := mk_ h2
   have h2_0 : (x.f6 == 0) = true := beq_iff_eq.mpr h2
   have h2_1 : (x.f6 != 0) = false := bne_eq_false_iff_eq.mpr h2
   have h2_2 : decide (x.f6 = 0) = true := decide_eq_true h2
   clear h2
   by_cases h3 : 0 < (x.f7.length : Int)
   ·
    have HL := mk_ h3
    have h30 : decide (0 < (x.f7.length : Int)) = true := decide_eq_true h3
    have h31 : decide (0 < x.f7.length) = true := decide_eq_true z3_
    clear h3
    go_wp2_with (((with_reducible refine aE (f := 30) rfl ?_); refine Go.Proofs.YtjnjfogfpmeacaaGreat.Short.gL (some 178) Tryz.func30 #[.int .i64 (x.f8.length : Int), .int .i64 1, .int .i64 64] (h := ?_); (with_reducible refine (aT.calls (x.f8.length : Int) 1 64 true _ HF3.out).mono ?_); rintro e V0 ⟨rfl, hq⟩; refine ⟨_, rfl, ?_⟩; have n0_ := mk_ (bE BK.out hq.below); have n1_ := mk_ (aC HB.out hq.below); clear BK HB hq; revert n0_ n1_; intro BK HB; have kb := aD BK.out))
    go_ret
    rw [show res = false from by rw [HRS.out, decide_eq_false (show ¬ x.f7.length = 0 by have := HL.out; omega), Bool.and_false]]
    exact ⟨rfl, HB.out⟩
   have h30 : decide (0 < (x.f7.length : Int)) = false := decide_eq_false h3
   have h31 : decide (0 < x.f7.length) = false := decide_eq_false z3_
   have HQ0 := mk_ (show res = hadG x.f1 (ahead? x.f8 0) (x.f8.drop 0) by rw [HRS.out, decide_eq_true H2.out, decide_eq_true (show x.f7.length = 0 by omega), decide_eq_true (E3.out.1 z6_), Bool.and_true, Bool.and_true, Bool.true_and]; rfl)
   clear HRS H2 h3
   go_wp2_with (((with_reducible refine aE (f := 30) rfl ?_); refine Go.Proofs.YtjnjfogfpmeacaaGreat.Short.gL (some 178) Tryz.func30 #[.int .i64 (x.f8.length : Int), .int .i64 1, .int .i64 64] (h := ?_); (with_reducible refine (aT.calls (x.f8.length : Int) 1 64 true _ HF3.out).mono ?_); rintro e V0 ⟨rfl, hq⟩; refine ⟨_, rfl, ?_⟩; have n0_ := mk_ (bE BK.out hq.below); have n1_ := mk_ (aC HB.out hq.below); clear BK HB hq; revert n0_ n1_; intro BK HB; have kb := aD BK.out))
   go_loopg [9] (x.f8.length + 1) (fun kq v9 W' => ∃ (i : Nat) (z : Int), v9 = .int .i64 z ∧ Aside0 (z = (i : Int) ∧ kq + i = x.f8.length + 1 ∧ i ≤ x.f8.length) ∧ Aside0 (res = hadG x.f1 (ahead? x.f8 i) (x.f8.drop i)) ∧ Aside0 (W'.heap[gb]? = some (.cells #[.int .i64 x.f0.f0, .int .i64 x.f0.f1, .slice A2 x.f1.length c2, .int .i64 x.f2.f0, .int .i64 x.f2.f1, .int .i64 x.f2.f2, .int .i64 x.f3, .int .i64 x.f4, .string x.f5, .int .i64 x.f6, .slice A10 x.f7.length c10, .slice A11 x.f8.length c11] 31 (0, 0))) ∧ Aside0 (Below w.heap.size w W'))
   case atStart => exact ⟨0, 0, rfl, ⟨by omega⟩, ⟨HQ0.out⟩, ⟨BK.out⟩, ⟨HB.out⟩⟩
   case round =>
    clear HQ0 BK HB kb hx0
    obtain ⟨i, z, rfl, HK, HQ, BK, HB⟩ := hrel
    have hz := HK.out.1
    obtain ⟨kk, rfl⟩ : ∃ kk, gk = kk + 1 := ⟨gk - 1, by have := HK.out; omega⟩
    have kb := aD BK.out
    by_cases hi : z < (x.f8.length : Int)
    rotate_left
    ·
     have hi0 : decide (z < (x.f8.length : Int)) = false := decide_eq_false hi
     have hr : res = true := by rw [HQ.out, List.drop_eq_nil_of_le (show x.f8.length ≤ i by omega)]; rfl
     clear hi HQ hz
     go_wp2
     go_ret
     rw [hr]
     exact ⟨rfl, HB.out⟩
    have hst := had_step (v := x.f1) (l := x.f8) (i := i) z3_
    rw [← hz] at hst
    have HST := mk_ hst
    clear hst
    obtain ⟨ad, hea, hv0, hv1⟩ := fS HR11.out z z3_ hi
    have p0 : (0 ≤ z) = True := eq_true z3_
    have p1 : decide (0 ≤ z) = true := decide_eq_true z3_
    have q0 := eq_true hi
    have q1 : decide (z < (x.f8.length : Int)) = true := decide_eq_true hi
    have HI := mk_ hi
    obtain ⟨b4, e4⟩ : ∃ b, hasB x.f1 (aW x.f8 z) = b := ⟨_, rfl⟩
    have HF4 := mk_ (show fG.f x.f1 (aW x.f8 z).f0 (aW x.f8 z).f1 = some b4 by rw [rhas_eq _ _ (by have := HN.out.2.1.1; omega), ← e4])
    rw [e4] at HST
    clear e4
    by_cases hzz : i = 0
    ·
     rw [if_pos hzz] at HST
     subst hea
     have z0 : decide (0 < z) = false := decide_eq_false z3_
     clear hi hz hzz
     try go_wp2
     refine Steps.start_n (n := 28) (S := fun w' => w'.heap[gb]? = some (.cells #[.int .i64 x.f0.f0, .int .i64 x.f0.f1, .slice A2 x.f1.length c2, .int .i64 x.f2.f0, .int .i64 x.f2.f1, .int .i64 x.f2.f2, .int .i64 x.f3, .int .i64 x.f4, .string x.f5, .int .i64 x.f6, .slice A10 x.f7.length c10, .slice (some ad) x.f8.length c11] 31 (0, 0)) ∧ w'.cell? (ad.add ((z).toNat * 2)) = some (.int .i64 (aW x.f8 z).f0) ∧ w'.cell? ⟨(ad.add ((z).toNat * 2)).block, (ad.add ((z).toNat * 2)).off + 1, none⟩ = some (.int .i64 (aW x.f8 z).f1) ∧ True) (ds := []) (fun W => W.heap[gb]? = some (.cells #[.int .i64 x.f0.f0, .int .i64 x.f0.f1, .slice A2 x.f1.length c2, .int .i64 x.f2.f0, .int .i64 x.f2.f1, .int .i64 x.f2.f2, .int .i64 x.f3, .int .i64 x.f4, .string x.f5, .int .i64 x.f6, .slice A10 x.f7.length c10, .slice (some ad) x.f8.length c11] 31 (0, 0)) ∧ Below w.heap.size w W) z2_ rfl z2_ ⟨aI BK.out, HB.out.drew⟩ (fun W hJ => ?_) (fun W0 hJ hS0 => ?_)
     ·
      obtain ⟨bk0, hb0⟩ := hJ
      exact ⟨bk0, ((hb0.cell (World.block_lt_of_cell? w _ hv0)).trans hv0), ((hb0.cell (World.block_lt_of_cell? w _ hv1)).trans hv1), trivial⟩
     obtain ⟨bk0, hb0⟩ := hJ
     refine cZ pgtab22 pgbits22 (fun HT_ HW_ => ?_)
     refine Steps.nI_ 198 HT_.out (h := ?_)
     refine Steps.nT_ 198 HT_.out HW_.out hS0 (h := ?_)
     refine Steps.nI_ 198 HT_.out (h := ?_)
     refine Steps.nT_ 198 HT_.out HW_.out hS0 (h := ?_)
     iterate 2 refine Steps.nI_ 198 HT_.out (h := ?_)
     refine Steps.nT_ 198 HT_.out HW_.out hS0 (h := ?_)
     refine one_ (i := 7) (N := some 205) (Steps.Pre 28 8) rfl rfl (cB HT_.out z2_) z5_ (fun K hK => ?_)
     refine goes_ Tryz.func66 z2_ rfl #[.slice A2 x.f1.length c2, .agg #[.int .i64 (aW x.f8 z).f0, .int .i64 (aW x.f8 z).f1]] (Steps.want_ (k := 7) rfl z2_) rfl rfl z0_ ?_
     refine (fG.calls A2 c2 x.f1 _ _ b4 _ (aU HR2.out hb0) HC2.out HF4.out).mono ?_
     rintro e W1 ⟨rfl, hq⟩
     have bk1 := bE bk0 hq
     have hb1 := aC hb0 hq
     refine ⟨_, rfl, ?_⟩
     refine hK.out _ _ ⟨bk1, ((hb1.cell (World.block_lt_of_cell? w _ hv0)).trans hv0), ((hb1.cell (World.block_lt_of_cell? w _ hv1)).trans hv1), trivial⟩ (fun hS1 => ?_)
     clear hK K hq hS0 bk0 hb0
     refine nrm 205 ?_
     iterate 2 refine Steps.nI_ 198 HT_.out (h := ?_)
     cases b4
     ·
      iterate 17 refine Steps.nR_ 198 HT_.out (h := ?_)
      refine Steps.nI_ 198 HT_.out (h := ?_)
      refine done_ (cC HT_.out z2_) ?_
      go_wp2
      go_ret
      rw [show res = false from by rw [HQ.out, HST.out]; rfl]
      exact ⟨rfl, hb1⟩
     iterate 3 refine Steps.nI_ 198 HT_.out (h := ?_)
     iterate 13 refine Steps.nR_ 198 HT_.out (h := ?_)
     iterate 2 refine Steps.nI_ 198 HT_.out (h := ?_)
     refine done_ (cC HT_.out z2_) ?_
     go_wp2
     go_roundg kk
     case measure => exact Nat.lt_succ_self _
     case rel => exact ⟨i + 1, _, rfl, ⟨by have := HK.out; have := HI.out; have := HN.out.2.1.2.2; rw [w64 z3_ z3_]; omega⟩, ⟨by rw [HQ.out, HST.out]; rfl⟩, ⟨bk1⟩, ⟨hb1⟩⟩
    rw [if_neg hzz] at HST
    obtain ⟨j, hj⟩ : ∃ j : Int, wrap64 (z - 1) = j := ⟨_, rfl⟩
    have hjw : IntKind.i64.wrap (z - 1) = j := (i64_w _).trans hj
    have hje : z - 1 = j := by rw [← hj, w64 z3_ (by have := HK.out; have := HN.out.2.1.2.2; omega)]
    rw [hje] at HST
    obtain ⟨ad2, heb, hu0, hu1⟩ := fS HR11.out j z3_ z3_
    obtain rfl : ad = ad2 := by rw [hea] at heb; exact Option.some.inj heb
    clear heb
    subst hea
    have z0 : decide (0 < z) = true := decide_eq_true z3_
    have p2 : (0 ≤ j) = True := eq_true z3_
    have p3 : decide (0 ≤ j) = true := decide_eq_true z3_
    have q2 : (j < (x.f8.length : Int)) = True := eq_true z3_
    have q3 : decide (j < (x.f8.length : Int)) = true := decide_eq_true z3_
    obtain ⟨b5, e5⟩ : ∃ b, lessD (aW x.f8 j) (aW x.f8 z) = b := ⟨_, rfl⟩
    have HF5 := mk_ (show eV.f (aW x.f8 j).f0 (aW x.f8 j).f1 (aW x.f8 z).f0 (aW x.f8 z).f1 = some b5 by rw [rless_eq, ← e5])
    rw [e5] at HST
    clear e5 hi hz hzz hje
    try go_wp2
    refine Steps.start_n (n := 28) (S := fun w' => w'.heap[gb]? = some (.cells #[.int .i64 x.f0.f0, .int .i64 x.f0.f1, .slice A2 x.f1.length c2, .int .i64 x.f2.f0, .int .i64 x.f2.f1, .int .i64 x.f2.f2, .int .i64 x.f3, .int .i64 x.f4, .string x.f5, .int .i64 x.f6, .slice A10 x.f7.length c10, .slice (some ad) x.f8.length c11] 31 (0, 0)) ∧ w'.cell? (ad.add ((z).toNat * 2)) = some (.int .i64 (aW x.f8 z).f0) ∧ w'.cell? ⟨(ad.add ((z).toNat * 2)).block, (ad.add ((z).toNat * 2)).off + 1, none⟩ = some (.int .i64 (aW x.f8 z).f1) ∧ w'.cell? (ad.add ((j).toNat * 2)) = some (.int .i64 (aW x.f8 j).f0) ∧ w'.cell? ⟨(ad.add ((j).toNat * 2)).block, (ad.add ((j).toNat * 2)).off + 1, none⟩ = some (.int .i64 (aW x.f8 j).f1) ∧ True) (ds := []) (fun W => W.heap[gb]? = some (.cells #[.int .i64 x.f0.f0, .int .i64 x.f0.f1, .slice A2 x.f1.length c2, .int .i64 x.f2.f0, .int .i64 x.f2.f1, .int .i64 x.f2.f2, .int .i64 x.f3, .int .i64 x.f4, .string x.f5, .int .i64 x.f6, .slice A10 x.f7.length c10, .slice (some ad) x.f8.length c11] 31 (0, 0)) ∧ Below w.heap.size w W) z2_ rfl z2_ ⟨aI BK.out, HB.out.drew⟩ (fun W hJ => ?_) (fun W0 hJ hS0 => ?_)
    ·
     obtain ⟨bk0, hb0⟩ := hJ
     exact ⟨bk0, ((hb0.cell (World.block_lt_of_cell? w _ hv0)).trans hv0), ((hb0.cell (World.block_lt_of_cell? w _ hv1)).trans hv1), ((hb0.cell (World.block_lt_of_cell? w _ hu0)).trans hu0), ((hb0.cell (World.block_lt_of_cell? w _ hu1)).trans hu1), trivial⟩
    obtain ⟨bk0, hb0⟩ := hJ
    refine cZ pgtab22 pgbits22 (fun HT_ HW_ => ?_)
    refine Steps.nI_ 198 HT_.out (h := ?_)
    refine Steps.nT_ 198 HT_.out HW_.out hS0 (h := ?_)
    refine Steps.nI_ 198 HT_.out (h := ?_)
    refine Steps.nT_ 198 HT_.out HW_.out hS0 (h := ?_)
    iterate 2 refine Steps.nI_ 198 HT_.out (h := ?_)
    refine Steps.nT_ 198 HT_.out HW_.out hS0 (h := ?_)
    refine one_ (i := 7) (N := some 205) (Steps.Pre 28 8) rfl rfl (cB HT_.out z2_) z5_ (fun K hK => ?_)
    refine goes_ Tryz.func66 z2_ rfl #[.slice A2 x.f1.length c2, .agg #[.int .i64 (aW x.f8 z).f0, .int .i64 (aW x.f8 z).f1]] (Steps.want_ (k := 7) rfl z2_) rfl rfl z0_ ?_
    refine (fG.calls A2 c2 x.f1 _ _ b4 _ (aU HR2.out hb0) HC2.out HF4.out).mono ?_
    rintro e W1 ⟨rfl, hq⟩
    have bk1 := bE bk0 hq
    have hb1 := aC hb0 hq
    refine ⟨_, rfl, ?_⟩
    refine hK.out _ _ ⟨bk1, ((hb1.cell (World.block_lt_of_cell? w _ hv0)).trans hv0), ((hb1.cell (World.block_lt_of_cell? w _ hv1)).trans hv1), ((hb1.cell (World.block_lt_of_cell? w _ hu0)).trans hu0), ((hb1.cell (World.block_lt_of_cell? w _ hu1)).trans hu1), trivial⟩ (fun hS1 => ?_)
    clear hK K hq hS0 bk0 hb0
    refine nrm 205 ?_
    iterate 2 refine Steps.nI_ 198 HT_.out (h := ?_)
    cases b4
    ·
     iterate 17 refine Steps.nR_ 198 HT_.out (h := ?_)
     refine Steps.nI_ 198 HT_.out (h := ?_)
     refine done_ (cC HT_.out z2_) ?_
     go_wp2
     go_ret
     rw [show res = false from by rw [HQ.out, HST.out]; rfl]
     exact ⟨rfl, hb1⟩
    iterate 4 refine Steps.nI_ 198 HT_.out (h := ?_)
    refine Steps.nT_ 198 HT_.out HW_.out hS1 (h := ?_)
    iterate 3 refine Steps.nI_ 198 HT_.out (h := ?_)
    refine Steps.nT_ 198 HT_.out HW_.out hS1 (h := ?_)
    refine Steps.nI_ 198 HT_.out (h := ?_)
    refine Steps.nT_ 198 HT_.out HW_.out hS1 (h := ?_)
    iterate 2 refine Steps.nI_ 198 HT_.out (h := ?_)
    refine Steps.nT_ 198 HT_.out HW_.out hS1 (h := ?_)
    refine one_ (i := 24) (N := some 222) (Steps.Pre 28 25) rfl rfl (cB HT_.out z2_) z5_ (fun K hK => ?_)
    refine goes_ Tryz.func67 z2_ rfl #[.agg #[.int .i64 (aW x.f8 j).f0, .int .i64 (aW x.f8 j).f1], .agg #[.int .i64 (aW x.f8 z).f0, .int .i64 (aW x.f8 z).f1]] (Steps.want_ (k := 24) rfl z2_) rfl rfl z0_ ?_
    refine (eV.calls _ _ _ _ b5 _ HF5.out).mono ?_
    rintro e W2 ⟨rfl, hq⟩
    have bk2 := bE bk1 hq
    have hb2 := aC hb1 hq
    refine ⟨_, rfl, ?_⟩
    refine hK.out _ _ ⟨bk2, ((hb2.cell (World.block_lt_of_cell? w _ hv0)).trans hv0), ((hb2.cell (World.block_lt_of_cell? w _ hv1)).trans hv1), ((hb2.cell (World.block_lt_of_cell? w _ hu0)).trans hu0), ((hb2.cell (World.block_lt_of_cell? w _ hu1)).trans hu1), trivial⟩ (fun hS2 => ?_)
    clear hK K hq hS1 bk1 hb1
    refine nrm 222 ?_
    cases b5
    ·
     iterate 3 refine Steps.nI_ 198 HT_.out (h := ?_)
     refine done_ (cC HT_.out z2_) ?_
     go_wp2
     go_ret
     rw [show res = false from by rw [HQ.out, HST.out]; rfl]
     exact ⟨rfl, hb2⟩
    iterate 3 refine Steps.nI_ 198 HT_.out (h := ?_)
    refine done_ (cC HT_.out z2_) ?_
    go_wp2
    go_roundg kk
    case measure => exact Nat.lt_succ_self _
    case rel => exact ⟨i + 1, _, rfl, ⟨by have := HK.out; have := HI.out; have := HN.out.2.1.2.2; rw [w64 z3_ z3_]; omega⟩, ⟨by rw [HQ.out, HST.out]; rfl⟩, ⟨bk2⟩, ⟨hb2⟩⟩
end Go.Proofs.YtjnjfogfpmeacaaGreat.Ops
namespace Go.Proofs.YtjnjfogfpmeacaaGreat.PAll
open Go.RowKit PAll Ops Plain PrintWords PrintLast PrintMore ZipT PrintWords.Kd PrintMore.Kd
def opPlay (a0 : Int) (l1 : List Tb) (x : Ox) : Prop := (1 ≤ a0 ∧ a0 ≤ 5) ∧ (x.f1.length ≤ 1000 ∧ x.f7.length ≤ 1000 ∧ x.f8.length ≤ 1000) ∧ l1.length ≤ 1000 ∧ ∀ t ∈ l1, t.f0.length ≤ 1000
instance (a0 : Int) (l1 : List Tb) (x : Ox) : Decidable (opPlay a0 l1 x) := by unfold opPlay; infer_instance
def eT.f (a0 : Int) (l1 : List Tb) (a2_0 : Int) (a2_1 : Int) (l2_2 : List Int) (a2_3 : Int) (a2_4 : Int) (a2_5 : Int) (a2_6 : Int) (a2_7 : Int) (a2_8 : ByteArray) (a2_9 : Int) (l2_10 : List V) (l2_11 : List Dt) : Option Bool := if opPlay a0 l1 (⟨⟨a2_0, a2_1⟩, l2_2, ⟨a2_3, a2_4, a2_5⟩, a2_6, a2_7, a2_8, a2_9, l2_10, l2_11⟩ : Ox) then some (rightB a0 l1 (⟨⟨a2_0, a2_1⟩, l2_2, ⟨a2_3, a2_4, a2_5⟩, a2_6, a2_7, a2_8, a2_9, l2_10, l2_11⟩ : Ox)) else none
theorem eT.calls (a0 : Int) (A1 : Option Addr) (c1 : Nat) (l1 : List Tb) (a2_0 : Int) (a2_1 : Int) (A2_2 : Option Addr) (c2_2 : Nat) (l2_2 : List Int) (a2_3 : Int) (a2_4 : Int) (a2_5 : Int) (a2_6 : Int) (a2_7 : Int) (a2_8 : ByteArray) (a2_9 : Int) (A2_10 : Option Addr) (c2_10 : Nat) (l2_10 : List V) (A2_11 : Option Addr) (c2_11 : Nat) (l2_11 : List Dt) (r : Bool) (w : World) (hr1 : Kd.C k53 w A1 l1.length l1) (hc1 : l1.length ≤ c1) (hr2_2 : Kd.C (Kd.int .i64) w A2_2 l2_2.length l2_2) (hc2_2 : l2_2.length ≤ c2_2) (hr2_10 : Kd.C k102 w A2_10 l2_10.length l2_10) (hc2_10 : l2_10.length ≤ c2_10) (hr2_11 : Kd.C k24 w A2_11 l2_11.length l2_11) (hc2_11 : l2_11.length ≤ c2_11) (h : eT.f a0 l1 a2_0 a2_1 l2_2 a2_3 a2_4 a2_5 a2_6 a2_7 a2_8 a2_9 l2_10 l2_11 = some r) :
  Calls Tryz.prog 33 #[.int .i64 a0, .slice A1 l1.length c1, .agg #[.int .i64 a2_0, .int .i64 a2_1, .slice A2_2 l2_2.length c2_2, .int .i64 a2_3, .int .i64 a2_4, .int .i64 a2_5, .int .i64 a2_6, .int .i64 a2_7, .string a2_8, .int .i64 a2_9, .slice A2_10 l2_10.length c2_10, .slice A2_11 l2_11.length c2_11]] w fun e w' => e = .returned (.bool r) ∧ Below w.heap.size w w' := by
 unfold eT.f at h
 split at h
 ·
  rename_i hs
  obtain rfl := Option.some.inj h
  exact pgop_calls a0 l1 (⟨⟨a2_0, a2_1⟩, l2_2, ⟨a2_3, a2_4, a2_5⟩, a2_6, a2_7, a2_8, a2_9, l2_10, l2_11⟩ : Ox) A1 c1 A2_2 c2_2 A2_10 c2_10 A2_11 c2_11 w hr1 hc1 hr2_2 hc2_2 hr2_10 hc2_10 hr2_11 hc2_11 hs.1 hs.2.1 hs.2.2
 ·
  cases h
end Go.Proofs.YtjnjfogfpmeacaaGreat.PAll
end
section
namespace Go.Proofs.YtjnjfogfpmeacaaGreat.Sep
open Go.RowKit PrintWords ZipT PrintWords.Kd PrintMore.Kd
set_option linter.unusedVariables false
structure Moved (w w' : World) (S : Nat → Prop) : Prop where
 os : w'.os = w.os
 tape : w'.tape = w.tape
 output : w'.output = w.output
 size : w.heap.size ≤ w'.heap.size
 block : ∀ k, k < w.heap.size → ¬ S k → w'.heap[k]? = w.heap[k]?
theorem Moved.refl (w : World) (S : Nat → Prop) : Moved w w S := ⟨rfl, rfl, rfl, Nat.le_refl _, fun _ _ _ => rfl⟩
theorem Moved.trans {w w1 w2 : World} {S S1 : Nat → Prop} (h : Moved w w1 S) (k : Moved w1 w2 S1) (hs : ∀ i, i < w.heap.size → S1 i → S i) : Moved w w2 S :=
 ⟨k.os.trans h.os, k.tape.trans h.tape, k.output.trans h.output, Nat.le_trans h.size k.size, fun i hi hn =>
  (k.block i (Nat.lt_of_lt_of_le hi h.size) (fun e => hn (hs i hi e))).trans (h.block i hi hn)⟩
theorem Moved.wider {w w' : World} {S S' : Nat → Prop} (h : Moved w w' S) (hs : ∀ i, i < w.heap.size → S i → S' i) : Moved w w' S' :=
 ⟨h.os, h.tape, h.output, h.size, fun i hi hn => h.block i hi (fun e => hn (hs i hi e))⟩
theorem Moved.of_below {w w' : World} (h : Below w.heap.size w w') (S : Nat → Prop) : Moved w w' S := ⟨h.os, h.tape, h.output, h.size, fun i hi _ => h.block i hi⟩
theorem Moved.of_grown {w w' : World} {row : Option Nat} (h : w.grownBy w' row) {S : Nat → Prop} (hr : ∀ i, row = some i → i < w.heap.size → S i) : Moved w w' S :=
 ⟨h.os, h.tape, h.output, h.size, fun i hi hn => h.block i hi (fun e => hn (hr i e.symm hi))⟩
theorem Moved.set {w w1 : World} {S : Nat → Prop} (h : Moved w w1 S) {p : Addr} (hp : p.block < w.heap.size → S p.block) (u : Value) : Moved w (w1.setCell p u) S :=
 h.trans (S1 := fun i => i = p.block) ⟨rfl, rfl, rfl, by simp [World.setCell], fun i _ hn => Below.heap_setCell w1 p u i hn⟩ (fun i hi e => by subst e; exact hp hi)
theorem Moved.alloc {w w1 : World} {S : Nat → Prop} (h : Moved w w1 S) (o : Obj) : Moved w (w1.alloc o) S :=
 h.trans (S1 := fun _ => False) (Moved.of_below (dP (Below.refl _ _) o) _) (fun _ _ e => e.elim)
theorem Moved.drewN {w w1 : World} {S : Nat → Prop} (h : Moved w w1 S) (n : Nat) : Moved w (w1.drewN n) S := ⟨h.os, h.tape, h.output, h.size, h.block⟩
theorem Moved.drew {w w1 : World} {S : Nat → Prop} (h : Moved w w1 S) : Moved w w1.drew S := ⟨h.os, h.tape, h.output, h.size, h.block⟩
theorem Moved.below {w w1 w2 : World} {S : Nat → Prop} (h : Moved w w1 S) (k : Below w1.heap.size w1 w2) : Moved w w2 S :=
 h.trans (S1 := fun _ => False) (Moved.of_below k _) (fun _ _ e => e.elim)
theorem Moved.blk {w w' : World} {S : Nat → Prop} (h : Moved w w' S) {g : Nat} {o : Obj} (hg : w.heap[g]? = some o) (hn : ¬ S g) : w'.heap[g]? = some o :=
 (h.block g (Array.getElem?_eq_some_iff.1 hg).1 hn).trans hg
structure Part where
 P : World → (Nat → Prop) → Prop
 mono : ∀ {w ok ok'}, P w ok → (∀ k, k < w.heap.size → ok k → ok' k) → P w ok'
 move : ∀ {w w' ok}, P w ok → Moved w w' (fun k => ¬ ok k) → P w' ok
theorem Part.moved (p : Part) {w w' : World} {ok S : Nat → Prop} (h : p.P w ok) (hm : Moved w w' S) (hd : ∀ k, k < w.heap.size → ok k → ¬ S k) : p.P w' ok :=
 p.move h (hm.wider (fun i hi hs e => hd i hi e hs))
def Sep (w : World) : (Nat → Prop) → List Part → Prop
 | _, [] => True
 | fr, p :: ps => ∃ ok : Nat → Prop, (∀ k, ok k → fr k) ∧ p.P w ok ∧ Sep w (fun k => fr k ∧ ¬ ok k) ps
def Sp (w : World) (ps : List Part) : Prop := Sep w (fun k => k < w.heap.size) ps
theorem Sep.wide {w : World} : ∀ {ps : List Part} {fr fr' : Nat → Prop}, Sep w fr ps → (∀ k, fr k → fr' k) → Sep w fr' ps
 | [], _, _, _, _ => trivial
 | p :: ps, fr, fr', ⟨ok, h1, h2, h3⟩, h => ⟨ok, fun k hk => h k (h1 k hk), h2, Sep.wide h3 (fun k hk => ⟨h k hk.1, hk.2⟩)⟩
theorem Sep.moved {w w' : World} {S : Nat → Prop} (hm : Moved w w' S) : ∀ {ps : List Part} {fr : Nat → Prop}, Sep w fr ps → (∀ k, k < w.heap.size → fr k → ¬ S k) → Sep w' fr ps
 | [], _, _, _ => trivial
 | p :: ps, fr, ⟨ok, h1, h2, h3⟩, h => ⟨ok, h1, p.moved h2 hm (fun k hk hok => h k hk (h1 k hok)), Sep.moved hm h3 (fun k hk hf => h k hk hf.1)⟩
theorem Sep.swap {w : World} {fr : Nat → Prop} {a b : Part} {ps : List Part} : Sep w fr (a :: b :: ps) → Sep w fr (b :: a :: ps) := by
 rintro ⟨ok, h1, h2, ok', h1', h2', h3⟩
 exact ⟨ok', fun k hk => (h1' k hk).1, h2', ok, fun k hk => ⟨h1 k hk, fun hk' => (h1' k hk').2 hk⟩, h2, h3.wide (fun k hk => ⟨⟨hk.1.1, hk.2⟩, hk.1.2⟩)⟩
theorem Sep.cons {w : World} {fr : Nat → Prop} {a : Part} {ps qs : List Part} (f : ∀ fr, Sep w fr ps → Sep w fr qs) : Sep w fr (a :: ps) → Sep w fr (a :: qs) := by
 rintro ⟨ok, h1, h2, h3⟩
 exact ⟨ok, h1, h2, f _ h3⟩
theorem Sep.tail {w : World} {fr : Nat → Prop} {a : Part} {ps : List Part} : Sep w fr (a :: ps) → Sep w fr ps := by
 rintro ⟨ok, h1, h2, h3⟩
 exact h3.wide (fun k hk => hk.1)
theorem Sep.app {w : World} : ∀ {ps qs : List Part} {fr1 fr2 fr : Nat → Prop}, Sep w fr1 ps → Sep w fr2 qs → (∀ k, fr1 k → fr k) → (∀ k, fr2 k → fr k) → (∀ k, fr1 k → ¬ fr2 k) → Sep w fr (ps ++ qs)
 | [], qs, fr1, fr2, fr, _, h, _, h2, _ => h.wide h2
 | p :: ps, qs, fr1, fr2, fr, ⟨ok, h1, h2, h3⟩, h, a, b, d =>
  ⟨ok, fun k hk => a k (h1 k hk), h2, Sep.app h3 h (fun k hk => ⟨a k hk.1, hk.2⟩) (fun k hk => ⟨b k hk, fun hok => d k (h1 k hok) hk⟩) (fun k hk => d k hk.1)⟩
theorem Sep.shrink {w : World} : ∀ {ps : List Part} {fr fr' : Nat → Prop}, Sep w fr ps → (∀ k, k < w.heap.size → fr k → fr' k) → Sep w fr' ps
 | [], _, _, _, _ => trivial
 | p :: ps, fr, fr', ⟨ok, h1, h2, h3⟩, h => ⟨fun k => ok k ∧ k < w.heap.size, fun k hk => h k hk.2 (h1 k hk.1), p.mono h2 (fun k hk hok => ⟨hok, hk⟩), Sep.shrink h3 (fun k hk hf => ⟨h k hk hf.1, fun e => hf.2 e.1⟩)⟩
theorem Sep.split {w : World} : ∀ {ps qs : List Part} {fr : Nat → Prop}, Sep w fr (ps ++ qs) → ∃ ok : Nat → Prop, (∀ k, ok k → fr k) ∧ Sep w ok ps ∧ Sep w (fun k => fr k ∧ ¬ ok k) qs
 | [], qs, fr, h => ⟨fun _ => False, fun _ h => h.elim, trivial, h.wide (fun k hk => ⟨hk, fun e => e⟩)⟩
 | p :: ps, qs, fr, ⟨ok, h1, h2, h3⟩ => by
  obtain ⟨ok', h1', h2', h3'⟩ := Sep.split (ps := ps) h3
  refine ⟨fun k => ok k ∨ ok' k, fun k hk => hk.elim (h1 k) (fun h => (h1' k h).1), ⟨ok, fun k hk => .inl hk, h2, h2'.wide (fun k hk => ⟨.inr hk, (h1' k hk).2⟩)⟩, h3'.wide (fun k hk => ⟨hk.1.1, fun e => e.elim hk.1.2 hk.2⟩)⟩
def Part.all (ps : List Part) : Part where
 P := fun w ok => Sep w ok ps
 mono := fun h hk => h.shrink hk
 move := fun h hm => Sep.moved hm h (fun k _ hk e => e hk)
def Part.ex {α : Type} (f : α → Part) : Part where
 P := fun w ok => ∃ x, (f x).P w ok
 mono := fun ⟨x, h⟩ hk => ⟨x, (f x).mono h hk⟩
 move := fun ⟨x, h⟩ hm => ⟨x, (f x).move h hm⟩
def Part.pure (p : Prop) : Part where
 P := fun _ _ => p
 mono := fun h _ => h
 move := fun h _ => h
section
variable {w w' : World} {a b c d e f : Part} {F G : List Part}
theorem Sp.nil (w : World) : Sp w [] := trivial
theorem Sp.tail (h : Sp w (a :: F)) : Sp w F := Sep.tail h
theorem Sp.s1 (h : Sp w (a :: b :: F)) : Sp w (b :: a :: F) := Sep.swap h
theorem Sp.s2 (h : Sp w (a :: b :: c :: F)) : Sp w (c :: a :: b :: F) := Sp.s1 (Sep.cons (fun _ => Sep.swap) h)
theorem Sp.s3 (h : Sp w (a :: b :: c :: d :: F)) : Sp w (d :: a :: b :: c :: F) := Sp.s1 (Sep.cons (fun _ h => Sep.swap (Sep.cons (fun _ => Sep.swap) h)) h)
theorem Sp.s4 (h : Sp w (a :: b :: c :: d :: e :: F)) : Sp w (e :: a :: b :: c :: d :: F) := Sp.s1 (Sep.cons (fun _ h => Sep.swap (Sep.cons (fun _ h => Sep.swap (Sep.cons (fun _ => Sep.swap) h)) h)) h)
theorem Sp.s5 (h : Sp w (a :: b :: c :: d :: e :: f :: F)) : Sp w (f :: a :: b :: c :: d :: e :: F) := Sp.s1 (Sep.cons (fun _ h => Sep.swap (Sep.cons (fun _ h => Sep.swap (Sep.cons (fun _ h => Sep.swap (Sep.cons (fun _ => Sep.swap) h)) h)) h)) h)
theorem Sp.below (h : Sp w F) (hb : Below w.heap.size w w') : Sp w' F :=
 (Sep.moved (Moved.of_below hb (fun _ => False)) h (fun _ _ _ e => e)).wide (fun _ hk => Nat.lt_of_lt_of_le hk hb.size)
theorem Sp.alloc (h : Sp w F) (o : Obj) : Sp (w.alloc o) F := h.below (dP (Below.refl _ _) o)
theorem Sp.drewN (h : Sp w F) (n : Nat) : Sp (w.drewN n) F := h.below (fJ (Below.refl _ _) n)
theorem Sp.drew (h : Sp w F) : Sp w.drew F := h.below (gS (Below.refl _ _))
theorem Sp.new (h : Sp w F) (hb : Below w.heap.size w w') (ha : a.P w' (fun k => w.heap.size ≤ k ∧ k < w'.heap.size)) : Sp w' (a :: F) :=
 ⟨fun k => w.heap.size ≤ k ∧ k < w'.heap.size, fun k hk => hk.2, ha, (Sep.moved (Moved.of_below hb (fun _ => False)) h (fun _ _ _ e => e)).wide (fun k hk => ⟨Nat.lt_of_lt_of_le hk hb.size, fun e => by omega⟩)⟩
theorem Sp.head (h : Sp w (a :: F)) : ∃ ok : Nat → Prop, (∀ k, ok k → k < w.heap.size) ∧ a.P w ok ∧
  ∀ w' qs, Moved w w' ok → Sep w' (fun k => ok k ∨ w.heap.size ≤ k ∧ k < w'.heap.size) qs → Sp w' (qs ++ F) := by
 obtain ⟨ok, h1, h2, h3⟩ := h
 refine ⟨ok, h1, h2, fun w' qs hm hq => ?_⟩
 refine Sep.app hq (Sep.moved hm h3 (fun k hk hf => hf.2)) (fun k hk => ?_) (fun k hk => Nat.lt_of_lt_of_le hk.1 hm.size) (fun k hk hf => ?_)
 ·
  rcases hk with hk | hk
  ·
   exact Nat.lt_of_lt_of_le (h1 k hk) hm.size
  ·
   exact hk.2
 ·
  rcases hk with hk | hk
  ·
   exact hf.2 hk
  ·
   omega
theorem Sp.head1 (h : Sp w (a :: F)) : ∃ ok : Nat → Prop, (∀ k, ok k → k < w.heap.size) ∧ a.P w ok ∧
  ∀ w' (q : Part), Moved w w' ok → q.P w' (fun k => ok k ∨ w.heap.size ≤ k ∧ k < w'.heap.size) → Sp w' (q :: F) := by
 obtain ⟨ok, h1, h2, h3⟩ := h.head
 exact ⟨ok, h1, h2, fun w' q hm hq => h3 w' [q] hm ⟨_, fun _ hk => hk, hq, trivial⟩⟩
theorem Sp.ofEx {α : Type} {f : α → Part} (h : Sp w (Part.ex f :: F)) : ∃ x, Sp w (f x :: F) := by
 obtain ⟨ok, h1, ⟨x, h2⟩, h3⟩ := h
 exact ⟨x, ok, h1, h2, h3⟩
theorem Sp.toEx {α : Type} {f : α → Part} (x : α) (h : Sp w (f x :: F)) : Sp w (Part.ex f :: F) := by
 obtain ⟨ok, h1, h2, h3⟩ := h
 exact ⟨ok, h1, ⟨x, h2⟩, h3⟩
theorem Sp.ofAll {ps : List Part} (h : Sp w (Part.all ps :: F)) : Sp w (ps ++ F) := by
 obtain ⟨ok, h1, h2, h3⟩ := h
 exact Sep.app h2 h3 h1 (fun k hk => hk.1) (fun k hk hf => hf.2 hk)
theorem Sp.toAll {ps : List Part} (h : Sp w (ps ++ F)) : Sp w (Part.all ps :: F) := by
 obtain ⟨ok, h1, h2, h3⟩ := Sep.split h
 exact ⟨ok, h1, h2, h3⟩
theorem Sp.has (h : Sp w (a :: F)) : ∃ ok, a.P w ok := by
 obtain ⟨ok, _, h2, _⟩ := h
 exact ⟨ok, h2⟩
end
def Old (w0 : World) : Part where
 P := fun w ok => (∀ k, k < w0.heap.size → ok k) ∧ Below w0.heap.size w0 w
 mono := fun h hk => ⟨fun k hk0 => hk k (Nat.lt_of_lt_of_le hk0 h.2.size) (h.1 k hk0), h.2⟩
 move := fun h hm => ⟨h.1, h.2.trans ⟨hm.os, hm.tape, hm.output, hm.size, fun k hk => hm.block k (Nat.lt_of_lt_of_le hk h.2.size) (fun e => e (h.1 k hk))⟩⟩
theorem Sp.start (w : World) : Sp w [Old w] := ⟨fun k => k < w.heap.size, fun _ h => h, ⟨fun _ h => h, Below.refl _ _⟩, trivial⟩
theorem Sp.old {w w0 : World} {F : List Part} (h : Sp w (Old w0 :: F)) : Below w0.heap.size w0 w := (h.has).elim fun _ h => h.2
def Row {α : Type} (d : Kd α) (e : Nat) (v : Value) (xs : List α) : Part where
 P := fun w ok => d.R e w 0 ok v xs
 mono := fun h hk => R_mono (fY h) (fun k hk' => hk k hk'.2.2.1 hk'.1)
 move := fun h hm => R_step h (fun k ho hk => hm.block k hk (fun hn => hn ho))
theorem Sp.row {α : Type} {d : Kd α} {e : Nat} {v : Value} {xs : List α} {w : World} {F : List Part} (h : Sp w (Row d e v xs :: F)) : ∃ A c, v = .slice A xs.length c ∧ xs.length ≤ c ∧ d.C w A xs.length xs := (h.has).elim fun _ h => R_reads h
theorem Sp.made {α : Type} {d : Kd α} {e : Nat} {v : Value} {xs : List α} {w w' : World} {F : List Part} {ok : Nat → Prop} (h : Sp w F) (hb : Below w.heap.size w w') (hr : d.R e w' w.heap.size ok v xs) : Sp w' (Row d e v xs :: F) :=
 h.new (a := Row d e v xs) hb (bW (R_mono (fY hr) (fun k hk => ⟨hk.2.1, hk.2.2.1⟩)) (Nat.zero_le _))
def Blk (g : Nat) (o : Obj) : Part where
 P := fun w ok => ok g ∧ w.heap[g]? = some o
 mono := fun h hk => ⟨hk g (Array.getElem?_eq_some_iff.1 h.2).1 h.1, h.2⟩
 move := fun h hm => ⟨h.1, hm.blk h.2 (fun hn => hn h.1)⟩
theorem Sp.blk {g : Nat} {o : Obj} {w : World} {F : List Part} (h : Sp w (Blk g o :: F)) : w.heap[g]? = some o := (h.has).elim fun _ h => h.2
theorem Sp.box {w : World} {F : List Part} (h : Sp w F) (o : Obj) : Sp (w.alloc o) (Blk w.heap.size o :: F) :=
 h.new (a := Blk w.heap.size o) (dP (Below.refl _ _) o) ⟨⟨Nat.le_refl _, by simp⟩, blk_new w o⟩
theorem setCell_blk {w : World} {g j : Nat} {cs : Array Value} {t : TypeId} {fz : Nat × Nat} (h : w.heap[g]? = some (.cells cs t fz)) (u : Value) : (w.setCell ⟨g, j, none⟩ u).heap[g]? = some (.cells (cs.setIfInBounds j u) t fz) := by
 simp only [World.setCell, Array.getElem?_modify, if_true, h, Option.map_some]
 rfl
theorem Sp.store {g : Nat} {cs : Array Value} {t : TypeId} {fz : Nat × Nat} {w : World} {F : List Part} (h : Sp w (Blk g (.cells cs t fz) :: F)) (j : Nat) (u : Value) : Sp (w.setCell ⟨g, j, none⟩ u) (Blk g (.cells (cs.setIfInBounds j u) t fz) :: F) := by
 obtain ⟨ok, h1, h2, h3⟩ := h.head1
 exact h3 _ _ ((Moved.refl w ok).set (fun _ => h2.1) u) ⟨.inl h2.1, setCell_blk h2.2 u⟩
def El {α : Type} (d : Kd α) (p : α) (cs : List Value) : Part where
 P := fun w ok => d.M w 0 ok p cs
 mono := fun h hk => d.M_mono (fun k hk' => hk k hk'.2.2.1 hk'.1) (d.M_bound h)
 move := fun h hm => Kd.M_step h (fun k ho hk => hm.block k hk (fun hn => hn ho))
section
variable {P : Program} {ops : Array Oper} {rest : List Oper} {o : Oper} {a : Act} {Q : Exit → Act → World → Prop} {α : Type}
theorem Sp.appended {d : Kd α} {e : TypeId} {W w1 : World} {F : List Part} {v v1 : Value} {ys : List α} {ok1 ok2 : Nat → Prop} (h1 : ∀ k, ok1 k → k < W.heap.size) (h2 : ∀ k, ok2 k → k < W.heap.size)
  (h3 : Sep W (fun k => (k < W.heap.size ∧ ¬ ok1 k) ∧ ¬ ok2 k) F) (hv : ∀ k, v.ownBlock = some k → ok1 k) (hr : d.R e w1 0 (fun k => ok1 k ∨ ok2 k ∨ W.heap.size ≤ k) v1 ys) (hg : W.grownBy w1 v.ownBlock) : Sp w1 (Row d e v1 ys :: F) := by
 refine ⟨fun k => (ok1 k ∨ ok2 k ∨ W.heap.size ≤ k) ∧ k < w1.heap.size, fun k hk => hk.2, R_mono (fY hr) (fun k hk => ⟨hk.1, hk.2.2.1⟩), ?_⟩
 refine (Sep.moved (Moved.of_grown hg (S := ok1) (fun i hi _ => hv i hi)) h3 (fun k _ hf => hf.1.2)).wide (fun k hk => ⟨Nat.lt_of_lt_of_le hk.1.1 hg.size, fun e => ?_⟩)
 rcases e.1 with e | e | e
 ·
  exact hk.1.2 e
 ·
  exact hk.2 e
 ·
  have := hk.1.1; omega
theorem Sp.append (d : Kd α) {W : World} {F : List Part} (hgd : o.guard = none) (s x : Operand) (t e : TypeId) (z : Value) (bytes : Nat)
  (ho : o.op = .call { callee := .builtin .append, args := #[s, x], argTypes := #[t, t] })
  (ht : P.underlying t = some (.slice e)) (hinfo : (P.info? e).map (fun i => (i.zero, i.size, i.bytes)) = some (some z, d.sz, bytes)) (hz : z.cells.size = d.sz) (hs0 : 0 < d.sz) (hb0 : 0 < bytes)
  (v : Value) (xs : List α) (p : α) (cs : List Value) (hs : a.eval s = v) (hx : a.eval x = .slice (some ⟨W.heap.size, 0, none⟩) 1 1)
  (hS : Sp W (Row d e v xs :: El d p cs :: F)) (hl : (xs.length + 1) * bytes ≤ 140737488355328)
  (h : ∀ v1 w1, Sp w1 (Row d e v1 (xs ++ [p]) :: F) → wpList P ops Q rest (a.put o.dst v1) w1) :
  wpList P ops Q (o :: rest) a (W.alloc (.cells cs.toArray e)) := by
 obtain ⟨ok1, h1, hr, ok2, h2, hp, h3⟩ := hS
 refine fU d (w0 := W) 0 hgd s x t e z bytes ho ht hinfo hz hs0 hb0 v xs p cs (fun k => ok1 k ∨ ok2 k ∨ W.heap.size ≤ k) ok2 hs hx hp (fun k hk => ⟨.inr (.inl hk), fun e => (h2 k hk).2 (hr.1 k e.symm)⟩) (fun k hk => .inr (.inr hk)) (R_mono hr (fun k hk => .inl hk)) (Below.refl _ _) (Nat.zero_le _) hl ?_
 intro v1 w1 hr1 _ hg _
 exact h v1 w1 (Sp.appended h1 (fun k hk => (h2 k hk).1) h3 hr.1 hr1 hg)
theorem Sp.appendRow (d : Kd α) {W : World} {F : List Part} (hgd : o.guard = none) (s x : Operand) (t e : TypeId) (z : Value) (bytes : Nat)
  (ho : o.op = .call { callee := .builtin .append, args := #[s, x], argTypes := #[t, t] })
  (ht : P.underlying t = some (.slice e)) (hinfo : (P.info? e).map (fun i => (i.zero, i.size, i.bytes)) = some (some z, d.sz, bytes)) (hz : z.cells.size = d.sz) (hs0 : 0 < d.sz) (hb0 : 0 < bytes)
  (v : Value) (xs ys : List α) (A : Option Addr) (m c : Nat) (hs : a.eval s = v) (hx : a.eval x = .slice A m c)
  (hKM : ∀ x cs, d.K W x cs → d.M W 0 (fun _ => False) x cs) (hS : Sp W (Row d e v xs :: F)) (hR : d.C W A m ys) (hl : (xs.length + m) * bytes ≤ 140737488355328)
  (h : ∀ v1 w1, Sp w1 (Row d e v1 (xs ++ ys) :: F) → wpList P ops Q rest (a.put o.dst v1) w1) :
  wpList P ops Q (o :: rest) a W := by
 obtain ⟨ok1, h1, hr, h3⟩ := hS
 refine eF d (w0 := W) 0 hgd s x t e z bytes ho ht hinfo hz hs0 hb0 v xs ys A m c (fun k => ok1 k ∨ False ∨ W.heap.size ≤ k) (fun _ => False) hs hx (R_mono hr (fun k hk => .inl hk)) hR hKM (fun _ h => h.elim) (fun k hk => .inr (.inr hk)) (Below.refl _ _) (Nat.zero_le _) hl ?_
 intro v1 w1 hr1 _ hg _
 exact h v1 w1 (Sp.appended (ok2 := fun _ => False) h1 (fun k hk => hk.elim) (h3.wide (fun k hk => ⟨hk, fun e => e⟩)) hr.1 hr1 hg)
end
theorem Sp.elem {α : Type} {d : Kd α} {e g n cap : Nat} {w : World} {xs : List α} {F : List Part} (hS : Sp w (Row d e (.slice (some ⟨g, 0, none⟩) n cap) xs :: F)) (z : α) (i : Nat) (hi : i < n) :
  ∃ c, c.length = d.sz ∧ (∀ j u, c[j]? = some u → w.cell? ⟨g, i * d.sz + j, none⟩ = some u) ∧ (∀ j, w.frozen? ⟨g, i * d.sz + j, none⟩ = false) ∧ d.K w (xs.getD i z) c := by
 obtain ⟨ok, h2⟩ := hS.has
 obtain ⟨c, hcl, hM, hcc, hf⟩ := R_elem h2 z (i : Int) z3_ z3_
 simp only [Int.toNat_natCast] at hM hcc hf
 exact ⟨c, hcl, hcc, hf, d.K_of_M hM⟩
section
variable {P : Program} {ops : Array Oper} {o : Oper} {a : Act} {Q : Exit → Act → World → Prop} {Kc : Act → World → Prop} {α : Type}
theorem Sp.append_step (d : Kd α) {W : World} {F : List Part} (hw : Region.wanted o (yielded ops a.tmps) = true) (s x : Operand) (t e : TypeId) (z : Value) (bytes : Nat)
  (ho : o.op = .call { callee := .builtin .append, args := #[s, x], argTypes := #[t, t] })
  (ht : P.underlying t = some (.slice e)) (hinfo : (P.info? e).map (fun i => (i.zero, i.size, i.bytes)) = some (some z, d.sz, bytes)) (hz : z.cells.size = d.sz) (hs0 : 0 < d.sz) (hb0 : 0 < bytes)
  (v : Value) (xs : List α) (p : α) (cs : List Value) (hs : a.eval s = v) (hx : a.eval x = .slice (some ⟨W.heap.size, 0, none⟩) 1 1)
  (hS : Sp W (Row d e v xs :: El d p cs :: F)) (hl : (xs.length + 1) * bytes ≤ 140737488355328)
  (h : ∀ v1 w1, Sp w1 (Row d e v1 (xs ++ [p]) :: F) → Kc (a.put o.dst v1) w1) :
  if Region.wanted o (yielded ops a.tmps) = true then Oper.wp P o a (W.alloc (.cells cs.toArray e)) Kc Q else Kc (a.put o.dst undef) (W.alloc (.cells cs.toArray e)) := by
 obtain ⟨ok1, h1, hr, ok2, h2, hp, h3⟩ := hS
 refine iK d (w0 := W) 0 hw s x t e z bytes ho ht hinfo hz hs0 hb0 v xs p cs (fun k => ok1 k ∨ ok2 k ∨ W.heap.size ≤ k) ok2 hs hx hp (fun k hk => ⟨.inr (.inl hk), fun e => (h2 k hk).2 (hr.1 k e.symm)⟩) (fun k hk => .inr (.inr hk)) (R_mono hr (fun k hk => .inl hk)) (Below.refl _ _) (Nat.zero_le _) hl ?_
 intro v1 w1 hr1 _ hg _
 exact h v1 w1 (Sp.appended h1 (fun k hk => (h2 k hk).1) h3 hr.1 hr1 hg)
end
theorem Sp.as {w : World} {a b : Part} {F : List Part} (h : Sp w (a :: F)) (hab : ∀ ok, a.P w ok → b.P w ok) : Sp w (b :: F) := by
 obtain ⟨ok, h1, h2, h3⟩ := h
 exact ⟨ok, h1, hab ok h2, h3⟩
end Go.Proofs.YtjnjfogfpmeacaaGreat.Sep
end
