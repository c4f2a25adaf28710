-- Put together by a program of this session (wip/slice2.py) out of the seat's texts.
import Derived.Test.YtiaiglihndbjeaaZRPp3
import Derived.Sort.Walk0
section
namespace Go.Proofs.Ytiaiglihndbjeaa.Plain
open Go.RowKit Go.Proofs.Ytiaiglihndbjeaa.PAll Go.Proofs.YtiaiglihndbjeaaW.PrintWords Go.Proofs.YtiaiglihndbjeaaW.PrintLast Go.Proofs.YtiaiglihndbjeaaW.PrintMore Go.Proofs.Ytiaiglihndbjeaa.ZipT Go.Proofs.YtiaiglihndbjeaaW.PrintWords.Kd Go.Proofs.YtiaiglihndbjeaaW.PrintMore.Kd
set_option linter.unusedVariables false
set_option linter.unusedSimpArgs false
theorem toList_nil (s : ByteArray) : s.toList = ([] : List UInt8) ↔ s.size = 0 := by
 rw [toList_data, show s.size = s.data.toList.length from by rw [Array.length_toList]; rfl]
 exact List.length_eq_zero_iff.symm
theorem toList_inj {s t : ByteArray} : s.toList = t.toList ↔ s = t := by
 rw [toList_data, toList_data]
 constructor
 ·
  intro h
  have : s.data = t.data := by rw [← Array.toList_inj]; exact h
  cases s; cases t; simp_all
 ·
  intro h; rw [h]
theorem size_zero {s : ByteArray} (h : s.size = 0) : s = ⟨#[]⟩ := by
 rw [← toList_inj, (toList_nil s).2 h]; exact ((toList_nil _).2 rfl).symm
def vOk (k i : Int) (s : ByteArray) : Prop :=
 (k = 1 ∧ i = 0 ∧ s.size = 0) ∨ (k = 2 ∧ (i = 0 ∨ i = 1) ∧ s.size = 0) ∨ (k = 3 ∧ (-1152921504606846976 ≤ i ∧ i ≤ 1152921504606846976) ∧ s.size = 0) ∨ (k = 4 ∧ i = 0 ∧ s.size ≤ 24)
instance (k i : Int) (s : ByteArray) : Decidable (vOk k i s) := by unfold vOk; infer_instance
theorem within_v (n m : Int) (h0 : 0 ≤ m) (h1 : m ≤ 9223372036854775807) : value_within.f n m = some (decide (-m ≤ n ∧ n ≤ m)) := by
 unfold value_within.f
 rw [w64 (x := -m) z2_ z2_]
 by_cases h : n ≥ -m
 ·
  rw [if_pos h]; congr 1; simp; omega
 ·
  rw [if_neg h]; congr 1; simp; omega
theorem check_eq (k i : Int) (s : ByteArray) : value_Check.f k i s = some (if vOk k i s then 0 else 1) := by
 unfold value_Check.f
 rw [within_v i 1152921504606846976 z2_ z2_]
 simp only [toList_nil, Option.bind_some, decide_eq_true_eq]
 by_cases ho : vOk k i s
 ·
  rw [if_pos ho]; unfold vOk at ho; repeat' split
  all_goals first | rfl | (exfalso; omega)
 ·
  rw [if_neg ho]; unfold vOk at ho; repeat' split
  all_goals first | rfl | (exfalso; omega)
def less (s t : ByteArray) : Bool := Op.bytesLess s.toList t.toList
def cStr (s t : ByteArray) : Int := if less s t = true then -1 else if s = t then 0 else 1
def cInt (a b : Int) : Int := if a < b then -1 else if a = b then 0 else 1
def sCmp (k1 i1 : Int) (s1 : ByteArray) (k2 i2 : Int) (s2 : ByteArray) : Int :=
 if k1 = k2 then (if i1 = i2 then cStr s1 s2 else cInt i1 i2) else cInt k1 k2
theorem cmpInt_eq (a b : Int) : cmp_Compare_int.f a b = some (cInt a b) := by
 unfold cmp_Compare_int.f cmp_isNaN_int.f cInt
 simp only [Option.bind_some, bne_self_eq_false, Bool.false_eq_true, if_false]
 repeat' split
 all_goals first | rfl | omega
theorem cmpStr_eq (a b : ByteArray) : cmp_Compare_string.f a b = some (cStr a b) := by
 unfold cmp_Compare_string.f cmp_isNaN_string.f cStr less
 simp only [Option.bind_some, bne_self_eq_false, Bool.false_eq_true, if_false, toList_inj]
 repeat' split
 all_goals first | rfl | omega
theorem or3_eq (k : Nat) (a b c : Int) (hk : 10 ≤ k) : cmp_Or_int.f k [a, b, c] = some (if a = 0 then (if b = 0 then c else b) else a) := by
 obtain ⟨k, rfl⟩ : ∃ m, k = m + 4 := ⟨k - 4, by omega⟩
 have e1 : wrap64 (0 + 1) = 1 := w64 z2_ z2_
 have e2 : wrap64 (1 + 1) = 2 := w64 z2_ z2_
 have e3 : wrap64 (2 + 1) = 3 := w64 z2_ z2_
 have r0 : rd [a, b, c] 0 = a := rfl
 have r1 : rd [a, b, c] 1 = b := rfl
 have r2 : rd [a, b, c] 2 = c := rfl
 have hl : (([a, b, c] : List Int).length : Int) = 3 := rfl
 unfold cmp_Or_int.f
 rw [hl]
 generalize [a, b, c] = l at *
 simp only [cmp_Or_int.l0, e1, e2, e3, hl, r0, r1, r2]
 by_cases h1 : a = 0
 ·
  by_cases h2 : b = 0
  ·
   by_cases h3 : c = 0 <;> simp [h1, h2, h3]
  ·
   simp [h1, h2]
 ·
  simp [h1]
theorem vcompare_eq (k : Nat) (k1 i1 : Int) (s1 : ByteArray) (k2 i2 : Int) (s2 : ByteArray) (hk : 10 ≤ k) : value_Compare.f k k1 i1 s1 k2 i2 s2 = some (sCmp k1 i1 s1 k2 i2 s2) := by
 unfold value_Compare.f sCmp
 rw [cmpInt_eq, Option.bind_some, cmpInt_eq, Option.bind_some, cmpStr_eq, Option.bind_some, or3_eq _ _ _ _ hk, Option.bind_some]
 congr 1
 unfold cInt
 repeat' split
 all_goals first | rfl | omega
theorem keepValue_eq (k1 i1 : Int) (s1 : ByteArray) (k2 i2 : Int) (s2 : ByteArray) : raddlekeep_Value.f k1 i1 s1 k2 i2 s2 = some (decide (k1 = k2 ∧ i1 = i2 ∧ s1 = s2)) := by
 unfold raddlekeep_Value.f
 by_cases h1 : k1 = k2
 ·
  rw [if_pos h1]
  by_cases h2 : i1 = i2
  ·
   rw [if_pos h2]; congr 1
   by_cases h3 : s1 = s2
   ·
    simp [h1, h2, h3]
   ·
    rw [decide_eq_false (by simp [h3]), beq_eq_false_iff_ne]; exact fun e => h3 (toList_inj.1 e)
  ·
   rw [if_neg h2]; simp [h2]
 ·
  rw [if_neg h1]; simp [h1]
def vFits (k i : Int) (s : ByteArray) (t : Int) : Prop := (2 ≤ t ∧ t ≤ 4) ∧ vOk k i s ∧ (k = t ∨ k = 1)
instance (k i : Int) (s : ByteArray) (t : Int) : Decidable (vFits k i s t) := by unfold vFits; infer_instance
theorem beq_one (k : Int) : (k == 1) = decide (k = 1) := by by_cases h : k = 1 <;> simp [h]
theorem fits_eq (k i : Int) (s : ByteArray) (t : Int) : value_Fits.f k i s t = some (decide (vFits k i s t)) := by
 unfold value_Fits.f vFits
 simp only [check_eq, Option.bind_some, beq_one]
 by_cases ho : vOk k i s
 ·
  simp only [ho, if_true, true_and]
  repeat' split
  all_goals first | rfl | (exfalso; omega) | (congr 1; rw [decide_eq_decide]; omega) | (congr 1; rw [eq_comm, decide_eq_true_eq]; omega) | (congr 1; rw [eq_comm, decide_eq_false_iff_not]; omega)
 ·
  simp only [ho, if_false, false_and, and_false]
  repeat' split
  all_goals first | rfl | (exfalso; omega) | (congr 1; rw [decide_eq_decide]; omega) | (congr 1; rw [eq_comm, decide_eq_true_eq]; omega) | (congr 1; rw [eq_comm, decide_eq_false_iff_not]; omega)
def vSmall (k i : Int) (s : ByteArray) : Prop := vOk k i s ∧ (k = 3 → -2147483648 ≤ i ∧ i ≤ 2147483648)
instance (k i : Int) (s : ByteArray) : Decidable (vSmall k i s) := by unfold vSmall; infer_instance
def sVB (k i : Int) (s : ByteArray) : List Int := if k = 2 then [2, i] else if k = 3 then 3 :: intB i else if k = 4 then 4 :: (s.size : Int) :: bytesOf s else [1]
theorem vbytes_eq (fuel : Nat) (k i : Int) (s : ByteArray) (hk : 30 ≤ fuel) : value_Bytes.f fuel k i s = some (if vOk k i s then (sVB k i s, 0) else ([], 1)) := by
 unfold value_Bytes.f
 rw [check_eq, Option.bind_some]
 by_cases ho : vOk k i s
 ·
  rw [if_pos ho, if_pos rfl, Option.bind_some]
  have ho' := ho
  unfold vOk at ho'
  unfold sVB
  by_cases h2 : k = 2
  ·
   rw [if_pos h2, if_pos h2, if_pos (by simp), if_pos ho]
   subst h2
   have : i % 256 = i := by omega
   simp [this]
  rw [if_neg h2, if_neg h2]
  by_cases h3 : k = 3
  ·
   rw [if_pos h3, if_pos h3, putInt_eq _ _ _ (by simp) z2_, Option.bind_some, if_pos ho]
   subst h3
   unfold sPutInt
   rw [if_pos z2_]
   simp
  rw [if_neg h3, if_neg h3]
  by_cases h4 : k = 4
  ·
   rw [if_pos h4, if_pos h4, putText_eq _ _ (by simp), Option.bind_some, if_pos ho]
   subst h4
   unfold sPutText
   rw [if_pos z2_]
   simp
  have h1 : k = 1 := by omega
  rw [if_neg h4, if_neg h4, if_pos ho, h1]
  rfl
 ·
  rw [if_neg ho, if_neg (by decide), if_neg ho]
def bad (e : Int) : Int × Int × ByteArray × Int × Int := (0, 0, ⟨#[]⟩, 0, e)
def sVRead (l : List Int) (at_ : Int) : Int × Int × ByteArray × Int × Int :=
  if 0 ≤ at_ ∧ at_ ≤ l.length then
    (if at_ = l.length then bad 3
     else if rd l at_ = 1 then (1, 0, ⟨#[]⟩, at_ + 1, 0)
     else if rd l at_ = 2 then (if at_ + 1 < l.length ∧ rd l (at_ + 1) ≤ 1 then (2, rd l (at_ + 1), ⟨#[]⟩, at_ + 2, 0) else bad 3)
     else if rd l at_ = 3 then (if (sGetInt l (at_ + 1)).2.2 = 0 then (3, (sGetInt l (at_ + 1)).1, ⟨#[]⟩, (sGetInt l (at_ + 1)).2.1, 0) else bad 3)
     else if rd l at_ = 4 then (if (sGetText l (at_ + 1)).2.2 = 0 then (4, 0, (sGetText l (at_ + 1)).1, (sGetText l (at_ + 1)).2.1, 0) else bad 3)
     else bad 3)
  else bad 1
theorem sub_one {l : List Int} {i : Int} (h0 : 0 ≤ i) (h1 : i < l.length) : sub l i.toNat (i + 1).toNat = [rd l i] := by
 obtain ⟨j, rfl⟩ := Int.eq_ofNat_of_zero_le h0
 rw [Int.toNat_natCast, show ((j : Int) + 1).toNat = j + 1 from by omega, sub_cons z2_ z2_]
 have : sub l (j + 1) (j + 1) = [] := List.eq_nil_of_length_eq_zero (by rw [sub_length z2_]; omega)
 rw [this]
theorem sGet_one (l : List Int) (at_ : Int) : sGet l at_ 1 = if 0 ≤ at_ ∧ at_ ≤ l.length then (if at_ = l.length then (0, 0, 3) else (rd l at_, at_ + 1, 0)) else (0, 0, 1) := by
 unfold sGet
 by_cases h : 0 ≤ at_ ∧ at_ ≤ l.length
 ·
  rw [if_pos z2_, if_pos h]
  by_cases h2 : at_ = l.length
  ·
   rw [if_pos z2_, if_pos h2]
  ·
   rw [if_neg z2_, if_neg h2, sub_one z2_ z2_]
   simp [val]
 ·
  rw [if_neg z2_, if_neg h]
theorem sGet_next (l : List Int) (at_ : Int) (h : 0 ≤ at_ ∧ at_ ≤ l.length) (h2 : ¬ at_ = l.length) : sGet l (at_ + 1) 1 = if at_ + 1 = l.length then (0, 0, 3) else (rd l (at_ + 1), at_ + 1 + 1, 0) := by
 rw [sGet_one, if_pos z2_]
theorem getInt_bd {l : List Int} {at_ : Int} (h : (sGetInt l at_).2.2 = 0) : -1152921504606846976 ≤ (sGetInt l at_).1 ∧ (sGetInt l at_).1 ≤ 1152921504606846976 ∨ ¬ Bytes l := by
 by_cases hb : Bytes l
 ·
  left
  have hv := val_nonneg (sub l (at_ + 1).toNat (at_ + 9).toNat) 0 z2_ (sub_bytes hb _ _)
  unfold sGetInt at h ⊢
  split at h
  ·
   rename_i h1
   rw [if_pos h1]
   split at h
   ·
    simp at h
   ·
    rename_i h2
    rw [if_neg h2]
    split <;> simp only <;> omega
  ·
   simp at h
 ·
  exact .inr hb
theorem div_of {n p q : Int} (hp : 0 < p) (h0 : q * p ≤ n) (h1 : n < (q + 1) * p) : n / p = q := by
 have h2 : (q + 1) * p = q * p + p := by rw [Int.add_mul, Int.one_mul]
 exact ((Int.ediv_emod_unique (r := n - q * p) hp).2 ⟨by rw [Int.mul_comm p q]; omega, by omega, by omega⟩).1
theorem big_val (l : List Int) (hb : Bytes l) : big (val 0 l) l.length = l := by
 suffices ∀ a : Int, 0 ≤ a → big (val a l) l.length = l from this 0 z2_
 induction l with
 | nil => intro a _; rfl
 | cons b l ih =>
  intro a ha
  have hh := hb.head
  unfold Byte at hh
  have hv0 := val_ge l (a * 256 + b) z2_ hb.tail
  have hv1 := val_lt l (a * 256 + b) z2_ hb.tail
  rw [List.length_cons, big]
  show val (a * 256 + b) l / 256 ^ l.length % 256 :: big (val (a * 256 + b) l) l.length = _
  rw [div_of (pow_pos _) hv0 hv1, ih hb.tail _ z2_]
  congr 1
  omega
theorem getInt_sub {l : List Int} {at_ : Int} (hb : Bytes l) (h : (sGetInt l at_).2.2 = 0) : (sGetInt l at_).2.1 = at_ + 9 ∧ (0 ≤ at_ ∧ at_ + 9 ≤ l.length) ∧ intB (sGetInt l at_).1 = sub l at_.toNat (at_ + 9).toNat := by
 have hv := val_nonneg (sub l (at_ + 1).toNat (at_ + 9).toNat) 0 z2_ (sub_bytes hb _ _)
 have hr := hb.rd at_
 unfold Byte at hr
 unfold sGetInt at h ⊢
 by_cases h1 : 0 ≤ at_ ∧ at_ ≤ l.length
 rotate_left
 ·
  rw [if_neg h1] at h; simp at h
 rw [if_pos h1] at h ⊢
 by_cases h2 : l.length - at_ < 9 ∨ rd l at_ > 1 ∨ val 0 (sub l (at_ + 1).toNat (at_ + 9).toNat) > 1152921504606846976 ∨ (rd l at_ = 1 ∧ val 0 (sub l (at_ + 1).toNat (at_ + 9).toNat) = 0)
 ·
  rw [if_pos h2] at h; simp at h
 rw [if_neg h2]
 obtain ⟨i, rfl⟩ := Int.eq_ofNat_of_zero_le h1.1
 have hb8 : big (val 0 (sub l ((i : Int) + 1).toNat ((i : Int) + 9).toNat)) 8 = sub l ((i : Int) + 1).toNat ((i : Int) + 9).toNat := by
  have := big_val (sub l ((i : Int) + 1).toNat ((i : Int) + 9).toNat) (sub_bytes hb _ _)
  rw [sub_length z2_, show ((i : Int) + 9).toNat - ((i : Int) + 1).toNat = 8 from by omega] at this
  exact this
 have hc : sub l (i : Int).toNat ((i : Int) + 9).toNat = rd l (i : Int) :: sub l ((i : Int) + 1).toNat ((i : Int) + 9).toNat := by
  rw [Int.toNat_natCast, show ((i : Int) + 1).toNat = i + 1 from by omega, sub_cons z2_ z2_]
 rw [hc]
 by_cases h3 : rd l (i : Int) = 1
 ·
  rw [if_pos h3]
  refine ⟨rfl, by omega, ?_⟩
  unfold intB
  simp only
  rw [if_pos z2_, Int.neg_neg, hb8, h3]
 ·
  rw [if_neg h3]
  refine ⟨rfl, by omega, ?_⟩
  unfold intB
  simp only
  rw [if_neg z2_, hb8, show rd l (i : Int) = 0 from by omega]
theorem getText_sub {l : List Int} {at_ : Int} (hb : Bytes l) (h : (sGetText l at_).2.2 = 0) : (at_ + 1 ≤ (sGetText l at_).2.1 ∧ (sGetText l at_).2.1 ≤ l.length) ∧ 0 ≤ at_ ∧ ((sGetText l at_).1.size : Int) :: bytesOf (sGetText l at_).1 = sub l at_.toNat (sGetText l at_).2.1.toNat := by
 have hr := hb.rd at_
 unfold Byte at hr
 unfold sGetText at h ⊢
 by_cases h1 : 0 ≤ at_ ∧ at_ ≤ l.length
 rotate_left
 ·
  rw [if_neg h1] at h; simp at h
 rw [if_pos h1] at h ⊢
 by_cases h2 : at_ = l.length ∨ rd l at_ > 24 ∨ l.length - at_ - 1 < rd l at_
 ·
  rw [if_pos h2] at h; simp at h
 rw [if_neg h2]
 obtain ⟨i, rfl⟩ := Int.eq_ofNat_of_zero_le h1.1
 refine ⟨by simp only; omega, by omega, ?_⟩
 simp only
 rw [strOfNums_size, bytesOf_strOfNums (sub_bytes hb _ _), sub_length z2_, Int.toNat_natCast, show ((i : Int) + 1).toNat = i + 1 from by omega, sub_cons (i := i) z2_ z2_]
 congr 1
 omega
theorem getText_bd {l : List Int} {at_ : Int} (hb : Bytes l) (h : (sGetText l at_).2.2 = 0) : (sGetText l at_).1.size ≤ 24 := by
 have hr := hb.rd at_
 unfold Byte at hr
 unfold sGetText at h ⊢
 split at h
 ·
  rename_i h1
  rw [if_pos h1]
  split at h
  ·
   simp at h
  ·
   rename_i h2
   rw [if_neg h2]
   simp only
   rw [strOfNums_size, sub_length z2_]
   omega
 ·
  simp at h
theorem vread_eq (fuel : Nat) (l : List Int) (at_ : Int) (hb : Bytes l) (hl : l.length ≤ 1000000) (ha : at_ ≤ 9223372036854775807) (hk : 30 ≤ fuel) : value_Read.f fuel l at_ = some (sVRead l at_) := by
 unfold value_Read.f sVRead
 rw [get_eq _ _ _ _ hb hl ha z2_, Option.bind_some, sGet_one]
 by_cases h : 0 ≤ at_ ∧ at_ ≤ l.length
 rotate_left
 ·
  rw [if_neg h, if_neg h, if_neg (by decide)]; rfl
 rw [if_pos h, if_pos h]
 by_cases h2 : at_ = l.length
 ·
  rw [if_pos h2, if_pos h2, if_neg (by decide)]; rfl
 have hr := hb.rd at_
 unfold Byte at hr
 rw [if_neg h2, if_neg h2, if_pos rfl]
 simp only
 by_cases k2 : rd l at_ = 2
 ·
  rw [if_pos k2, if_neg z2_, if_pos k2, get_eq _ _ _ _ hb hl z2_ z2_, Option.bind_some, sGet_next _ _ h h2]
  have hr1 := hb.rd (at_ + 1)
  unfold Byte at hr1
  by_cases h3 : at_ + 1 = l.length
  ·
   rw [if_pos h3]
   simp only
   rw [if_neg (show ¬ ((3 : Int) = 0) by decide), if_neg z2_]; rfl
  ·
   rw [if_neg h3]
   simp only
   rw [if_pos trivial, check_eq, Option.bind_some, k2]
   by_cases h4 : rd l (at_ + 1) ≤ 1
   ·
    rw [if_pos (show vOk 2 (rd l (at_ + 1)) ⟨#[]⟩ from .inr (.inl ⟨rfl, by omega, rfl⟩)), if_pos rfl, if_pos z2_, show at_ + 1 + 1 = at_ + 2 from by omega]
   ·
    rw [if_neg (show ¬ vOk 2 (rd l (at_ + 1)) ⟨#[]⟩ from by unfold vOk; omega), if_neg (by decide), if_neg z2_]; rfl
 rw [if_neg k2]
 by_cases k3 : rd l at_ = 3
 ·
  rw [if_pos k3, if_neg z2_, if_neg k2, if_pos k3, getInt_eq _ _ _ hb hl z2_ z2_, Option.bind_some, k3]
  by_cases h4 : (sGetInt l (at_ + 1)).2.2 = 0
  ·
   have := (getInt_bd h4).resolve_right (fun h => h hb)
   rw [if_pos h4, if_pos h4, check_eq, Option.bind_some, if_pos (show vOk 3 _ ⟨#[]⟩ from .inr (.inr (.inl ⟨rfl, this, rfl⟩))), if_pos rfl]
  ·
   rw [if_neg h4, if_neg h4]; rfl
 rw [if_neg k3]
 by_cases k4 : rd l at_ = 4
 ·
  rw [if_pos k4, if_neg z2_, if_neg k2, if_neg k3, if_pos k4, getText_eq _ _ _ hb hl z2_ z2_, Option.bind_some, k4]
  by_cases h4 : (sGetText l (at_ + 1)).2.2 = 0
  ·
   have := getText_bd hb h4
   rw [if_pos h4, if_pos h4, check_eq, Option.bind_some, if_pos (show vOk 4 0 _ from .inr (.inr (.inr ⟨rfl, rfl, this⟩))), if_pos rfl]
  ·
   rw [if_neg h4, if_neg h4]; rfl
 rw [if_neg k4, check_eq, Option.bind_some, if_neg k2, if_neg k3, if_neg k4]
 by_cases k1 : rd l at_ = 1
 ·
  rw [if_pos k1, k1, if_pos (show vOk 1 0 ⟨#[]⟩ from .inl ⟨rfl, rfl, rfl⟩), if_pos rfl]
 ·
  rw [if_neg k1, if_neg (by unfold vOk; omega)]; rfl
theorem len_one (a : List Int) (x : Int) : ((a ++ [x]).length : Int) = (a.length : Int) + 1 := by simp
theorem vread_put (a c : List Int) (k i : Int) (s : ByteArray) (ho : vOk k i s) : sVRead (a ++ sVB k i s ++ c) a.length = (k, i, s, (a.length : Int) + (sVB k i s).length, 0) := by
 unfold vOk at ho
 unfold sVRead
 by_cases h2 : k = 2
 ·
  subst h2
  have hs := size_zero (s := s) z2_
  have e : sVB 2 i s = [2, i] := rfl
  have hl : (a ++ sVB 2 i s ++ c).length = a.length + 2 + c.length := by rw [e]; simp; omega
  have r0 : rd (a ++ sVB 2 i s ++ c) (a.length : Int) = 2 := by rw [e, List.append_assoc]; exact rd_mid _ _ _ rfl
  have r1 : rd (a ++ sVB 2 i s ++ c) ((a.length : Int) + 1) = i := by
   have : a ++ sVB 2 i s ++ c = (a ++ [2]) ++ i :: c := by rw [e]; simp
   rw [this]; exact rd_mid _ _ _ (by simp)
  rw [if_pos z2_, if_neg z2_, r0, if_neg (by decide), if_pos rfl, r1, if_pos z2_, hs]
  rfl
 by_cases h3 : k = 3
 ·
  subst h3
  have hs := size_zero (s := s) z2_
  have e : sVB 3 i s = 3 :: intB i := rfl
  have hl : (a ++ sVB 3 i s ++ c).length = a.length + 10 + c.length := by rw [e]; simp [intB_length]; omega
  have r0 : rd (a ++ sVB 3 i s ++ c) (a.length : Int) = 3 := by rw [e, List.append_assoc]; exact rd_mid _ _ _ rfl
  have g := getInt_put (a ++ [3]) c i z2_ z2_
  rw [show a ++ [3] ++ intB i ++ c = a ++ sVB 3 i s ++ c from by rw [e]; simp, len_one a 3] at g
  rw [if_pos z2_, if_neg z2_, r0, if_neg (by decide), if_neg (by decide), if_pos rfl, g, if_pos rfl, hs, show sVB 3 i ⟨#[]⟩ = 3 :: intB i from rfl, List.length_cons, intB_length]
  simp only [Prod.mk.injEq, true_and, and_true]
  omega
 by_cases h4 : k = 4
 ·
  subst h4
  have hi : i = 0 := by omega
  have e : sVB 4 i s = 4 :: (s.size : Int) :: bytesOf s := rfl
  have hl : (a ++ sVB 4 i s ++ c).length = a.length + 2 + s.size + c.length := by rw [e]; simp [bytesOf_length]; omega
  have r0 : rd (a ++ sVB 4 i s ++ c) (a.length : Int) = 4 := by rw [e, List.append_assoc]; exact rd_mid _ _ _ rfl
  have g := getText_put (a ++ [4]) c s z2_
  rw [show a ++ [4] ++ (s.size : Int) :: bytesOf s ++ c = a ++ sVB 4 i s ++ c from by rw [e]; simp, len_one a 4] at g
  rw [if_pos z2_, if_neg z2_, r0, if_neg (by decide), if_neg (by decide), if_neg (by decide), if_pos rfl, g, if_pos rfl, hi, show sVB 4 0 s = 4 :: (s.size : Int) :: bytesOf s from rfl, List.length_cons, List.length_cons, bytesOf_length]
  simp only [Prod.mk.injEq, true_and, and_true]
  omega
 have h1 : k = 1 := by omega
 subst h1
 have hs := size_zero (s := s) z2_
 have hi : i = 0 := by omega
 have e : sVB 1 i s = [1] := rfl
 have hl : (a ++ sVB 1 i s ++ c).length = a.length + 1 + c.length := by rw [e]; simp; omega
 have r0 : rd (a ++ sVB 1 i s ++ c) (a.length : Int) = 1 := by rw [e, List.append_assoc]; exact rd_mid _ _ _ rfl
 rw [if_pos z2_, if_neg z2_, r0, if_pos rfl, hs, hi]
 rfl
theorem vread_sub {l : List Int} {at_ : Int} (hb : Bytes l) (h : (sVRead l at_).2.2.2.2 = 0) :
  vOk (sVRead l at_).1 (sVRead l at_).2.1 (sVRead l at_).2.2.1 ∧ 0 ≤ at_ ∧ at_ ≤ (sVRead l at_).2.2.2.1 ∧ (sVRead l at_).2.2.2.1 ≤ l.length ∧
  sVB (sVRead l at_).1 (sVRead l at_).2.1 (sVRead l at_).2.2.1 = sub l at_.toNat (sVRead l at_).2.2.2.1.toNat := by
 by_cases h1 : 0 ≤ at_ ∧ at_ ≤ l.length
 rotate_left
 ·
  unfold sVRead at h; rw [if_neg h1] at h; simp [bad] at h
 by_cases h2 : at_ = l.length
 ·
  unfold sVRead at h; rw [if_pos h1, if_pos h2] at h; simp [bad] at h
 have hr := hb.rd at_
 unfold Byte at hr
 obtain ⟨i, rfl⟩ := Int.eq_ofNat_of_zero_le h1.1
 have c1 : ∀ j, i < j → j ≤ l.length → sub l i j = rd l (i : Int) :: sub l (i + 1) j := fun j a b => sub_cons a b
 by_cases k1 : rd l (i : Int) = 1
 ·
  have e : sVRead l i = (1, 0, ⟨#[]⟩, (i : Int) + 1, 0) := by unfold sVRead; rw [if_pos h1, if_neg h2, if_pos k1]
  rw [e]
  refine ⟨.inl ⟨rfl, rfl, rfl⟩, by omega, by simp only; omega, by simp only; omega, ?_⟩
  simp only
  rw [show ((i : Int) + 1).toNat = i + 1 from by omega, Int.toNat_natCast, c1 _ z2_ z2_, k1]
  have : sub l (i + 1) (i + 1) = [] := List.eq_nil_of_length_eq_zero (by rw [sub_length z2_]; omega)
  rw [this]; rfl
 by_cases k2 : rd l (i : Int) = 2
 ·
  have hr1 := hb.rd ((i : Int) + 1)
  unfold Byte at hr1
  by_cases h3 : (i : Int) + 1 < l.length ∧ rd l ((i : Int) + 1) ≤ 1
  rotate_left
  ·
   unfold sVRead at h; rw [if_pos h1, if_neg h2, if_neg k1, if_pos k2, if_neg h3] at h; simp [bad] at h
  have e : sVRead l i = (2, rd l ((i : Int) + 1), ⟨#[]⟩, (i : Int) + 2, 0) := by unfold sVRead; rw [if_pos h1, if_neg h2, if_neg k1, if_pos k2, if_pos h3]
  rw [e]
  refine ⟨.inr (.inl ⟨rfl, by simp only; omega, rfl⟩), by omega, by simp only; omega, by simp only; omega, ?_⟩
  simp only
  rw [show ((i : Int) + 2).toNat = i + 2 from by omega, Int.toNat_natCast, c1 _ z2_ z2_, k2, sub_cons z2_ z2_]
  have : sub l (i + 1 + 1) (i + 2) = [] := List.eq_nil_of_length_eq_zero (by rw [sub_length z2_]; omega)
  rw [this]; rfl
 by_cases k3 : rd l (i : Int) = 3
 ·
  by_cases h3 : (sGetInt l ((i : Int) + 1)).2.2 = 0
  rotate_left
  ·
   unfold sVRead at h; rw [if_pos h1, if_neg h2, if_neg k1, if_neg k2, if_pos k3, if_neg h3] at h; simp [bad] at h
  have e : sVRead l i = (3, (sGetInt l ((i : Int) + 1)).1, ⟨#[]⟩, (sGetInt l ((i : Int) + 1)).2.1, 0) := by unfold sVRead; rw [if_pos h1, if_neg h2, if_neg k1, if_neg k2, if_pos k3, if_pos h3]
  have hbd := (getInt_bd h3).resolve_right (fun h => h hb)
  obtain ⟨g1, g2, g3⟩ := getInt_sub hb h3
  rw [e]
  refine ⟨.inr (.inr (.inl ⟨rfl, hbd, rfl⟩)), by omega, by simp only; omega, by simp only; omega, ?_⟩
  simp only
  rw [g1, show ((i : Int) + 1 + 9).toNat = i + 10 from by omega, Int.toNat_natCast, c1 _ z2_ z2_, k3]
  rw [show ((i : Int) + 1).toNat = i + 1 from by omega, show ((i : Int) + 1 + 9).toNat = i + 10 from by omega] at g3
  rw [← g3]; rfl
 by_cases k4 : rd l (i : Int) = 4
 ·
  by_cases h3 : (sGetText l ((i : Int) + 1)).2.2 = 0
  rotate_left
  ·
   unfold sVRead at h; rw [if_pos h1, if_neg h2, if_neg k1, if_neg k2, if_neg k3, if_pos k4, if_neg h3] at h; simp [bad] at h
  have e : sVRead l i = (4, 0, (sGetText l ((i : Int) + 1)).1, (sGetText l ((i : Int) + 1)).2.1, 0) := by unfold sVRead; rw [if_pos h1, if_neg h2, if_neg k1, if_neg k2, if_neg k3, if_pos k4, if_pos h3]
  have hbd := getText_bd hb h3
  obtain ⟨g1, g2, g3⟩ := getText_sub hb h3
  rw [e]
  refine ⟨.inr (.inr (.inr ⟨rfl, rfl, hbd⟩)), by omega, by simp only; omega, by simp only; omega, ?_⟩
  simp only
  rw [show ((i : Int) + 1).toNat = i + 1 from by omega] at g3
  rw [Int.toNat_natCast, c1 _ z2_ z2_, k4, ← g3]; rfl
 ·
  unfold sVRead at h; rw [if_pos h1, if_neg h2, if_neg k1, if_neg k2, if_neg k3, if_neg k4] at h; simp [bad] at h
theorem sVB_bytes {k i : Int} {s : ByteArray} (ho : vOk k i s) : Bytes (sVB k i s) := by
 unfold vOk at ho
 unfold sVB
 repeat' split
 ·
  exact Bytes.cons ⟨by decide, by decide⟩ (Bytes.cons ⟨by omega, by omega⟩ Bytes.nil)
 ·
  exact Bytes.cons ⟨by decide, by decide⟩ (intB_bytes _)
 ·
  exact Bytes.cons ⟨by decide, by decide⟩ (Bytes.cons ⟨by omega, by omega⟩ (bytesOf_bytes _))
 ·
  exact Bytes.cons ⟨by decide, by decide⟩ Bytes.nil
theorem sVB_length {k i : Int} {s : ByteArray} (ho : vOk k i s) : (sVB k i s).length = if k = 2 then 2 else if k = 3 then 10 else if k = 4 then 2 + s.size else 1 := by
 unfold sVB
 repeat' split
 all_goals simp [intB_length, bytesOf_length]
 omega
end Go.Proofs.Ytiaiglihndbjeaa.Plain
end
section
namespace Go.Proofs.Ytiaiglihndbjeaa.Plain
open Go.RowKit Go.Proofs.Ytiaiglihndbjeaa.PAll Go.Proofs.YtiaiglihndbjeaaW.PrintWords Go.Proofs.YtiaiglihndbjeaaW.PrintLast Go.Proofs.YtiaiglihndbjeaaW.PrintMore Go.Proofs.Ytiaiglihndbjeaa.ZipT Go.Proofs.YtiaiglihndbjeaaW.PrintWords.Kd Go.Proofs.YtiaiglihndbjeaaW.PrintMore.Kd
set_option linter.unusedVariables false
set_option linter.unusedSimpArgs false
def isLong (v : S39) : Bool := decide ((v.f2.size : Int) > 300)
theorem long_l0 (l : List S39) (hl : l.length ≤ 1000000) (m : List S39) : ∀ (k i : Nat), l.drop i = m → m.length < k → raddlelaw03_Long.l0 k l (i : Int) = some (m.any isLong) := by
 induction m with
 | nil =>
  intro k i h hk
  obtain ⟨k, rfl⟩ : ∃ j, k = j + 1 := ⟨k - 1, by simp at hk; omega⟩
  have := List.drop_eq_nil_iff.1 h
  simp only [raddlelaw03_Long.l0]
  rw [if_neg z2_]; rfl
 | cons v m ih =>
  intro k i h hk
  obtain ⟨k, rfl⟩ : ∃ j, k = j + 1 := ⟨k - 1, by simp at hk; omega⟩
  have hi : i < l.length := by
   rcases Nat.lt_or_ge i l.length with h1 | h1
   ·
    exact h1
   ·
    rw [List.drop_eq_nil_iff.2 h1] at h; cases h
  have hr : rd_T39 l (i : Int) = v := by
   show l.getD ((i : Int).toNat) _ = v
   rw [Int.toNat_natCast, List.getD_eq_getElem?_getD]
   have : l[i]? = (l.drop i)[0]? := by rw [List.getElem?_drop]; simp
   rw [this, h]; rfl
  have ht : l.drop (i + 1) = m := by rw [← List.drop_drop, h]; rfl
  have := ih k (i + 1) ht (by simp at hk; omega)
  simp only [raddlelaw03_Long.l0]
  rw [if_pos z2_, if_pos z2_, hr, w64 z2_ z2_, show ((i : Int) + 1) = ((i + 1 : Nat) : Int) from rfl, this]
  by_cases hv : (v.f2.size : Int) > 300
  ·
   rw [if_pos hv]; simp [isLong, hv]
  ·
   rw [if_neg hv]; simp [isLong, hv]
theorem long_eq (k : Nat) (l : List S39) (hl : l.length ≤ 1000000) (hk : l.length + 1 ≤ k) : raddlelaw03_Long.f k l = some (l.any isLong) := by
 unfold raddlelaw03_Long.f
 have := long_l0 l hl l k 0 rfl z2_
 simpa using this
end Go.Proofs.Ytiaiglihndbjeaa.Plain
end
section
namespace Go.Proofs.Ytiaiglihndbjeaa.Plain
open Go.RowKit Go.Proofs.Ytiaiglihndbjeaa.PAll Go.Proofs.YtiaiglihndbjeaaW.PrintWords Go.Proofs.YtiaiglihndbjeaaW.PrintLast Go.Proofs.YtiaiglihndbjeaaW.PrintMore Go.Proofs.Ytiaiglihndbjeaa.ZipT Go.Proofs.YtiaiglihndbjeaaW.PrintWords.Kd Go.Proofs.YtiaiglihndbjeaaW.PrintMore.Kd
set_option linter.unusedVariables false
set_option linter.unusedSimpArgs false
abbrev V := S39
theorem dropL_lt {α : Type} {l : List α} {i : Nat} {v : α} {m : List α} (h : l.drop i = v :: m) : i < l.length := by
 rcases Nat.lt_or_ge i l.length with h1 | h1
 ·
  exact h1
 ·
  rw [List.drop_eq_nil_iff.2 h1] at h; cases h
theorem dropL_tail {α : Type} {l : List α} {i : Nat} {v : α} {m : List α} (h : l.drop i = v :: m) : l.drop (i + 1) = m := by
 rw [← List.drop_drop, h]; rfl
theorem dropL_end {α : Type} {l : List α} {i : Nat} (h : l.drop i = []) : l.length ≤ i := List.drop_eq_nil_iff.1 h
theorem rdT_drop {l : List V} {i : Nat} {v : V} {m : List V} (h : l.drop i = v :: m) : rd_T39 l (i : Int) = v := by
 show l.getD ((i : Int).toNat) _ = v
 rw [Int.toNat_natCast, List.getD_eq_getElem?_getD]
 have : l[i]? = (l.drop i)[0]? := by rw [List.getElem?_drop]; simp
 rw [this, h]; rfl
theorem rdI_drop {l : List Int} {i : Nat} {v : Int} {m : List Int} (h : l.drop i = v :: m) : rd l (i : Int) = v := rd_drop h
theorem V_ext {a b : V} (h0 : a.f0 = b.f0) (h1 : a.f1 = b.f1) (h2 : a.f2 = b.f2) : a = b := by cases a; cases b; simp_all
instance : DecidableEq V := fun a b => decidable_of_iff (a.f0 = b.f0 ∧ a.f1 = b.f1 ∧ a.f2 = b.f2) ⟨fun ⟨h0, h1, h2⟩ => V_ext h0 h1 h2, fun h => by subst h; exact ⟨rfl, rfl, rfl⟩⟩
def okV (v : V) : Prop := vOk v.f0 v.f1 v.f2
instance (v : V) : Decidable (okV v) := by unfold okV; infer_instance
def okR (l : List V) : Bool := l.all fun v => decide (okV v)
def rowE (l : List V) : Int := if l.length > 12 then 2 else if okR l = true then 0 else 1
theorem rowE_zero (l : List V) : rowE l = 0 ↔ l.length ≤ 12 ∧ ∀ v ∈ l, okV v := by
 unfold rowE okR
 by_cases h : l.length > 12
 ·
  rw [if_pos h]; constructor
  ·
   intro h; omega
  ·
   intro h; omega
 ·
  rw [if_neg h]
  by_cases h2 : (l.all fun v => decide (okV v)) = true
  ·
   rw [if_pos h2]
   refine ⟨fun _ => ⟨by omega, fun v hv => ?_⟩, fun _ => rfl⟩
   have := List.all_eq_true.1 h2 v hv
   exact of_decide_eq_true this
  ·
   rw [if_neg h2]
   refine ⟨fun h => by omega, fun ⟨_, h3⟩ => absurd (List.all_eq_true.2 fun v hv => decide_eq_true (h3 v hv)) h2⟩
theorem wrong_eq (v : V) : row_wrong.f v.f0 v.f1 v.f2 = some (!decide (okV v)) := by
 unfold row_wrong.f okV
 rw [check_eq, Option.bind_some]
 by_cases h : vOk v.f0 v.f1 v.f2
 ·
  rw [if_pos h, decide_eq_true h]; rfl
 ·
  rw [if_neg h, decide_eq_false h]; rfl
theorem index_wrong (l : List V) (hl : l.length ≤ 1000000) (m : List V) : ∀ (k i : Nat), l.drop i = m → m.length < k →
  ∃ r, slices_IndexFunc_at_row_wrong.l0 k l (l.length : Int) (i : Int) = some r ∧ (r ≥ 0 ↔ m.all (fun v => decide (okV v)) = false) := by
 induction m with
 | nil =>
  intro k i h hk
  obtain ⟨k, rfl⟩ : ∃ j, k = j + 1 := ⟨k - 1, by omega⟩
  have := dropL_end h
  refine ⟨-1, ?_, by simp⟩
  simp only [slices_IndexFunc_at_row_wrong.l0]
  rw [if_neg z2_]
 | cons v m ih =>
  intro k i h hk
  obtain ⟨k, rfl⟩ : ∃ j, k = j + 1 := ⟨k - 1, by omega⟩
  have hi := dropL_lt h
  simp only [slices_IndexFunc_at_row_wrong.l0]
  rw [if_pos z2_, if_pos z2_, if_pos z2_, rdT_drop h, wrong_eq, Option.bind_some]
  by_cases ho : okV v
  ·
   obtain ⟨r, h1, h2⟩ := ih k (i + 1) (dropL_tail h) (by simp at hk; omega)
   refine ⟨r, ?_, ?_⟩
   ·
    rw [decide_eq_true ho, if_neg (by decide), w64 z2_ z2_]; exact h1
   ·
    rw [h2]; simp [ho]
  ·
   refine ⟨i, ?_, ?_⟩
   ·
    rw [decide_eq_false ho, if_pos (by decide)]
   ·
    simp [ho]
theorem rcheck_eq (k : Nat) (l : List V) (hl : l.length ≤ 1000000) (hk : l.length + 1 ≤ k) : row_Check.f k l = some (rowE l) := by
 unfold row_Check.f rowE
 by_cases h : (l.length : Int) > 12
 ·
  rw [if_pos h, if_pos z2_]
 ·
  obtain ⟨r, h1, h2⟩ := index_wrong l hl l k 0 rfl z2_
  rw [if_neg h, if_neg z2_]
  unfold slices_ContainsFunc_at_row_wrong.f slices_IndexFunc_at_row_wrong.f
  rw [show ((0 : Nat) : Int) = 0 from rfl] at h1
  rw [h1, Option.bind_some, Option.bind_some]
  unfold okR
  cases hz : (l.all fun v => decide (okV v))
  ·
   rw [hz] at h2; rw [decide_eq_true (h2.2 rfl)]; simp
  ·
   rw [hz] at h2; rw [decide_eq_false (fun h => by simpa using h2.1 h)]; simp
def vB (v : V) : List Int := sVB v.f0 v.f1 v.f2
def rowVs (l : List V) : List Int := l.flatMap vB
def rowB (l : List V) : List Int := (l.length : Int) :: rowVs l
theorem vB_len {v : V} (h : okV v) : 1 ≤ (vB v).length ∧ (vB v).length ≤ 26 := by
 unfold vB; rw [sVB_length h]; unfold okV vOk at h; repeat' split
 all_goals omega
theorem rowVs_len (l : List V) (h : ∀ v ∈ l, okV v) : (rowVs l).length ≤ l.length * 26 ∧ l.length ≤ (rowVs l).length := by
 induction l with
 | nil => simp [rowVs]
 | cons v l ih =>
  have h1 := vB_len (h v List.mem_cons_self)
  have h2 := ih fun x hx => h x (List.mem_cons_of_mem _ hx)
  simp only [rowVs, List.flatMap_cons, List.length_append, List.length_cons] at *
  omega
theorem rowVs_bytes (l : List V) (h : ∀ v ∈ l, okV v) : Bytes (rowVs l) := by
 induction l with
 | nil => exact Bytes.nil
 | cons v l ih =>
  simp only [rowVs, List.flatMap_cons]
  exact (sVB_bytes (h v List.mem_cons_self)).append (ih fun x hx => h x (List.mem_cons_of_mem _ hx))
theorem rowBytes_l0 (l : List V) (hl : l.length ≤ 1000) (ho : ∀ v ∈ l, okV v) (m : List V) : ∀ (k i : Nat) (out : List Int), l.drop i = m → out.length + m.length * 26 ≤ 1000000 → m.length + 40 ≤ k →
    row_Bytes.l0 k out l (l.length : Int) (i : Int) = some (out ++ rowVs m, 0) := by
  induction m with
  | nil =>
    intro k i out h hb hk
    obtain ⟨k, rfl⟩ : ∃ j, k = j + 1 := ⟨k - 1, by omega⟩
    have := dropL_end h
    simp only [row_Bytes.l0]
    rw [if_neg z2_]; simp [rowVs]
  | cons v m ih =>
    intro k i out h hb hk
    obtain ⟨k, rfl⟩ : ∃ j, k = j + 1 := ⟨k - 1, by omega⟩
    have hi := dropL_lt h
    have hv : okV v := ho v (by have : v ∈ l.drop i := by rw [h]; exact List.mem_cons_self
                                exact List.mem_of_mem_drop this)
    have hvl := vB_len hv
    simp only [List.length_cons] at hb hk
    simp only [row_Bytes.l0]
    rw [if_pos z2_, if_pos z2_, if_pos z2_, rdT_drop h, vbytes_eq _ _ _ _ z2_, if_pos (show vOk v.f0 v.f1 v.f2 from hv), Option.bind_some]
    simp only
    rw [if_pos (by show out.length + (vB v).length < _; omega), w64 z2_ z2_]
    have := ih k (i + 1) (out ++ vB v) (dropL_tail h) (by rw [List.length_append]; omega) z2_
    rw [show ((i : Int) + 1) = ((i + 1 : Nat) : Int) from rfl]
    refine Eq.trans this ?_
    simp [rowVs]
theorem rowBytes_eq (k : Nat) (l : List V) (hl : l.length ≤ 1000000) (hk : l.length + 60 ≤ k) : row_Bytes.f k l = some (if rowE l = 0 then (rowB l, 0) else ([], rowE l)) := by
 unfold row_Bytes.f
 rw [rcheck_eq k l hl z2_, Option.bind_some]
 by_cases h : rowE l = 0
 ·
  obtain ⟨h1, h2⟩ := (rowE_zero l).1 h
  have hz := rowBytes_l0 l z2_ h2 l k 0 [((l.length : Int)) % 256] rfl (by rw [List.length_singleton]; omega) z2_
  rw [show ((0 : Nat) : Int) = 0 from rfl] at hz
  rw [if_pos h, if_pos h, hz]
  have : (l.length : Int) % 256 = l.length := by omega
  rw [this]; rfl
 ·
  rw [if_neg h, if_neg h]
def vals (l : List Int) : Nat → Int → List V → List V × Int × Int
 | 0, at_, acc => (acc, at_, 0)
 | n + 1, at_, acc => if (sVRead l at_).2.2.2.2 = 0 then vals l n (sVRead l at_).2.2.2.1 (acc ++ [⟨(sVRead l at_).1, (sVRead l at_).2.1, (sVRead l at_).2.2.1⟩]) else ([], 0, 3)
def sRowRead (l : List Int) (at_ : Int) : List V × Int × Int :=
 if 0 ≤ at_ ∧ at_ ≤ l.length then (if at_ = l.length ∨ rd l at_ > 12 then ([], 0, 3) else vals l (rd l at_).toNat (at_ + 1) []) else ([], 0, 1)
theorem rowRead_l0 (l : List Int) (hb : Bytes l) (hl : l.length ≤ 1000000) (many : Nat) (hm : many ≤ 12) (n : Nat) : ∀ (k : Nat) (at_ : Int) (acc : List V), n ≤ many → 0 ≤ at_ → at_ ≤ l.length → acc.length + n ≤ 100 → n + 40 ≤ k →
  row_Read.l0 k l acc at_ (many : Int) ((many - n : Nat) : Int) = some (vals l n at_ acc) := by
 induction n with
 | zero =>
  intro k at_ acc hn h0 h1 ha hk
  obtain ⟨k, rfl⟩ : ∃ j, k = j + 1 := ⟨k - 1, by omega⟩
  simp only [row_Read.l0]
  rw [if_neg z2_]; rfl
 | succ n ih =>
  intro k at_ acc hn h0 h1 ha hk
  obtain ⟨k, rfl⟩ : ∃ j, k = j + 1 := ⟨k - 1, by omega⟩
  simp only [row_Read.l0, vals]
  rw [if_pos z2_, vread_eq _ _ _ hb hl z2_ z2_, Option.bind_some]
  by_cases hz : (sVRead l at_).2.2.2.2 = 0
  ·
   obtain ⟨_, _, h3, h4, _⟩ := vread_sub hb hz
   rw [if_pos hz, if_pos hz, if_pos z2_, w64 z2_ z2_, show (((many - (n + 1) : Nat) : Int) + 1) = ((many - n : Nat) : Int) from by omega]
   exact ih k _ _ z2_ z2_ h4 (by rw [List.length_append, List.length_singleton]; omega) z2_
  ·
   rw [if_neg hz, if_neg hz]
theorem rowRead_eq (k : Nat) (l : List Int) (at_ : Int) (hb : Bytes l) (hl : l.length ≤ 1000000) (ha : at_ ≤ 9223372036854775807) (hk : 80 ≤ k) : row_Read.f k l at_ = some (sRowRead l at_) := by
 unfold row_Read.f sRowRead
 rw [get_eq _ _ _ _ hb hl ha z2_, Option.bind_some, sGet_one]
 by_cases h : 0 ≤ at_ ∧ at_ ≤ l.length
 rotate_left
 ·
  rw [if_neg h, if_neg h, if_neg (by decide)]
 rw [if_pos h, if_pos h]
 have hr := hb.rd at_
 unfold Byte at hr
 by_cases h2 : at_ = l.length
 ·
  rw [if_pos h2, if_neg (show ¬ (((0, 0, 3) : Int × Int × Int).2.2 = 0) by decide), if_pos (Or.inl h2)]
 ·
  rw [if_neg h2]
  simp only
  rw [if_pos trivial]
  by_cases h3 : rd l at_ > 12
  ·
   rw [if_pos h3, if_pos (Or.inr h3)]
  ·
   rw [if_neg h3, if_neg z2_]
   have := rowRead_l0 l hb hl (rd l at_).toNat z2_ (rd l at_).toNat k (at_ + 1) [] z2_ z2_ z2_ (by simp; omega) z2_
   rw [Nat.sub_self, Int.toNat_of_nonneg hr.1] at this
   exact this
end Go.Proofs.Ytiaiglihndbjeaa.Plain
end
section
namespace Go.Proofs.Ytiaiglihndbjeaa.Plain
open Go.RowKit Go.Proofs.Ytiaiglihndbjeaa.PAll Go.Proofs.YtiaiglihndbjeaaW.PrintWords Go.Proofs.YtiaiglihndbjeaaW.PrintLast Go.Proofs.YtiaiglihndbjeaaW.PrintMore Go.Proofs.Ytiaiglihndbjeaa.ZipT Go.Proofs.YtiaiglihndbjeaaW.PrintWords.Kd Go.Proofs.YtiaiglihndbjeaaW.PrintMore.Kd
set_option linter.unusedVariables false
set_option linter.unusedSimpArgs false
def vCmp (a b : V) : Int := sCmp a.f0 a.f1 a.f2 b.f0 b.f1 b.f2
def rowCmp : List V → List V → Int
 | [], [] => 0
 | [], _ :: _ => -1
 | _ :: _, [] => 1
 | a :: l, b :: m => if vCmp a b = 0 then rowCmp l m else vCmp a b
theorem compare_l0 (a b : List V) (ha : a.length ≤ 1000000) (hb : b.length ≤ 1000000) (m : List V) : ∀ (k i : Nat), a.drop i = m → i ≤ a.length → i ≤ b.length → m.length + 20 ≤ k →
  slices_CompareFunc_at_value_Compare.l0 k a b a (a.length : Int) (i : Int) = some (rowCmp m (b.drop i)) := by
 induction m with
 | nil =>
  intro k i h hi hib hk
  obtain ⟨k, rfl⟩ : ∃ j, k = j + 1 := ⟨k - 1, by omega⟩
  have h1 := dropL_end h
  simp only [slices_CompareFunc_at_value_Compare.l0]
  rw [if_neg z2_]
  cases hd : b.drop i with
  | nil => have h2 := dropL_end hd; rw [if_neg z2_]; rfl
  | cons v m => have h2 := dropL_lt hd; rw [if_pos z2_]; rfl
 | cons v m ih =>
  intro k i h hi hib hk
  obtain ⟨k, rfl⟩ : ∃ j, k = j + 1 := ⟨k - 1, by omega⟩
  have h1 := dropL_lt h
  simp only [slices_CompareFunc_at_value_Compare.l0]
  rw [if_pos z2_, if_pos z2_, if_pos z2_]
  cases hd : b.drop i with
  | nil => have h2 := dropL_end hd; rw [if_pos z2_]; rfl
  | cons u n =>
   have h2 := dropL_lt hd
   rw [if_neg z2_, if_pos z2_, rdT_drop h, rdT_drop hd, vcompare_eq _ _ _ _ _ _ _ z2_, Option.bind_some, w64 z2_ z2_]
   simp only [rowCmp]
   show (if vCmp v u = 0 then _ else some (vCmp v u)) = _
   by_cases hz : vCmp v u = 0
   ·
    rw [if_pos hz, if_pos hz, ← dropL_tail hd]
    exact ih k (i + 1) (dropL_tail h) z2_ z2_ (by simp at hk; omega)
   ·
    rw [if_neg hz, if_neg hz]
theorem rowCompare_eq (k : Nat) (a b : List V) (ha : a.length ≤ 1000000) (hb : b.length ≤ 1000000) (hk : a.length + 20 ≤ k) : row_Compare.f k a b = some (rowCmp a b) := by
 unfold row_Compare.f slices_CompareFunc_at_value_Compare.f
 have := compare_l0 a b ha hb a k 0 rfl z2_ z2_ hk
 rw [show ((0 : Nat) : Int) = 0 from rfl] at this
 rw [this]; rfl
def fitsL : List V → List Int → Bool
 | [], [] => true
 | v :: l, t :: m => decide (vFits v.f0 v.f1 v.f2 t) && fitsL l m
 | _, _ => false
theorem fitsL_len {l : List V} {m : List Int} (h : fitsL l m = true) : l.length = m.length := by
 induction l generalizing m with
 | nil => cases m with
  | nil => rfl
  | cons t m => cases h
 | cons v l ih => cases m with
  | nil => cases h
  | cons t m => simp only [fitsL, Bool.and_eq_true] at h; simp [ih h.2]
theorem equal_l0 (a : List V) (b : List Int) (ha : a.length ≤ 1000000) (hl : a.length = b.length) (m : List V) : ∀ (k i : Nat), a.drop i = m → m.length < k →
  slices_EqualFunc_at_value_Fits.l0 k b a (a.length : Int) (i : Int) = some (fitsL m (b.drop i)) := by
 induction m with
 | nil =>
  intro k i h hk
  obtain ⟨k, rfl⟩ : ∃ j, k = j + 1 := ⟨k - 1, by omega⟩
  have h1 := dropL_end h
  simp only [slices_EqualFunc_at_value_Fits.l0]
  rw [if_neg z2_, List.drop_eq_nil_iff.2 z2_]; rfl
 | cons v m ih =>
  intro k i h hk
  obtain ⟨k, rfl⟩ : ∃ j, k = j + 1 := ⟨k - 1, by omega⟩
  have h1 := dropL_lt h
  simp only [slices_EqualFunc_at_value_Fits.l0]
  cases hd : b.drop i with
  | nil => have h2 := dropL_end hd; omega
  | cons t n =>
   rw [if_pos z2_, if_pos z2_, if_pos z2_, if_pos z2_, rdT_drop h, rdI_drop hd, fits_eq, Option.bind_some, w64 z2_ z2_]
   simp only [fitsL]
   by_cases hz : vFits v.f0 v.f1 v.f2 t
   ·
    rw [decide_eq_true hz, if_pos rfl, Bool.true_and, ← dropL_tail hd]
    exact ih k (i + 1) (dropL_tail h) (by simp at hk; omega)
   ·
    rw [decide_eq_false hz, if_neg (by decide), Bool.false_and]
theorem fitsL_ne {l : List V} {m : List Int} (h : l.length ≠ m.length) : fitsL l m = false := by
 cases hz : fitsL l m
 ·
  rfl
 ·
  exact absurd (fitsL_len hz) h
theorem rowFits_eq (k : Nat) (a : List V) (b : List Int) (ha : a.length ≤ 1000000) (hk : a.length + 1 ≤ k) : row_Fits.f k a b = some (fitsL a b) := by
 unfold row_Fits.f slices_EqualFunc_at_value_Fits.f
 by_cases hl : (a.length : Int) = b.length
 ·
  rw [if_pos hl]
  have := equal_l0 a b ha z2_ a k 0 rfl z2_
  rw [show ((0 : Nat) : Int) = 0 from rfl] at this
  rw [this]; rfl
 ·
  rw [if_neg hl, fitsL_ne z2_]; rfl
theorem keepRow_l0 (a b : List V) (ha : a.length ≤ 1000000) (hl : a.length = b.length) (m : List V) : ∀ (k i : Nat), a.drop i = m → m.length < k →
  raddlekeep_Row.l0 k a b (i : Int) = some (decide (m = b.drop i)) := by
 induction m with
 | nil =>
  intro k i h hk
  obtain ⟨k, rfl⟩ : ∃ j, k = j + 1 := ⟨k - 1, by omega⟩
  have h1 := dropL_end h
  simp only [raddlekeep_Row.l0]
  rw [if_neg z2_, List.drop_eq_nil_iff.2 z2_]; simp
 | cons v m ih =>
  intro k i h hk
  obtain ⟨k, rfl⟩ : ∃ j, k = j + 1 := ⟨k - 1, by omega⟩
  have h1 := dropL_lt h
  simp only [raddlekeep_Row.l0]
  cases hd : b.drop i with
  | nil => have h2 := dropL_end hd; omega
  | cons t n =>
   rw [if_pos z2_, if_pos z2_, if_pos z2_, rdT_drop h, rdT_drop hd, keepValue_eq, Option.bind_some, w64 z2_ z2_]
   by_cases hz : v.f0 = t.f0 ∧ v.f1 = t.f1 ∧ v.f2 = t.f2
   ·
    have hv : v = t := V_ext hz.1 hz.2.1 hz.2.2
    have := ih k (i + 1) (dropL_tail h) (by simp at hk; omega)
    rw [decide_eq_true hz, if_pos rfl, show ((i : Int) + 1) = ((i + 1 : Nat) : Int) from rfl, this, dropL_tail hd, hv]
    simp
   ·
    have hv : v ≠ t := fun e => hz (by subst e; exact ⟨rfl, rfl, rfl⟩)
    rw [decide_eq_false hz, if_neg (by decide)]
    simp [hv]
theorem keepRow_eq (k : Nat) (a b : List V) (ha : a.length ≤ 1000000) (hk : a.length + 1 ≤ k) : raddlekeep_Row.f k a b = some (decide (a = b)) := by
 unfold raddlekeep_Row.f
 by_cases hl : (a.length : Int) = b.length
 ·
  rw [if_pos hl]
  exact keepRow_l0 a b ha z2_ a k 0 rfl z2_
 ·
  rw [if_neg hl, decide_eq_false (fun e => hl (by rw [e]))]
def heavy (l : List V) : Bool := decide ((l.length : Int) > 40) || l.any isLong
theorem heavy_eq (k : Nat) (l : List V) (hk : 60 ≤ k) : raddlelaw04_Heavy.f k l = some (heavy l) := by
 unfold raddlelaw04_Heavy.f heavy
 by_cases h : (l.length : Int) > 40
 ·
  rw [if_pos h, decide_eq_true h]; rfl
 ·
  rw [if_neg h, decide_eq_false h, long_eq _ _ z2_ z2_]; rfl
end Go.Proofs.Ytiaiglihndbjeaa.Plain
end
section
namespace Go.Proofs.Ytiaiglihndbjeaa.Plain
open Go.RowKit Go.Proofs.Ytiaiglihndbjeaa.PAll Go.Proofs.YtiaiglihndbjeaaW.PrintWords Go.Proofs.YtiaiglihndbjeaaW.PrintLast Go.Proofs.YtiaiglihndbjeaaW.PrintMore Go.Proofs.Ytiaiglihndbjeaa.ZipT Go.Proofs.YtiaiglihndbjeaaW.PrintWords.Kd Go.Proofs.YtiaiglihndbjeaaW.PrintMore.Kd
set_option linter.unusedVariables false
set_option linter.unusedSimpArgs false
theorem rowB_bytes {l : List V} (h : rowE l = 0) : Bytes (rowB l) := by
 obtain ⟨h1, h2⟩ := (rowE_zero l).1 h
 exact Bytes.cons ⟨by omega, by omega⟩ (rowVs_bytes l h2)
theorem rowB_len {l : List V} (h : rowE l = 0) : (rowB l).length ≤ 400 := by
 obtain ⟨h1, h2⟩ := (rowE_zero l).1 h
 have := rowVs_len l h2
 simp only [rowB, List.length_cons]; omega
theorem vals_put (m : List V) : ∀ (pre c : List Int) (acc : List V), (∀ v ∈ m, okV v) → vals (pre ++ rowVs m ++ c) m.length pre.length acc = (acc ++ m, ((pre ++ rowVs m).length : Int), 0) := by
 induction m with
 | nil => intro pre c acc h; simp [vals, rowVs]
 | cons v m ih =>
  intro pre c acc h
  have hv := h v List.mem_cons_self
  have e : pre ++ rowVs (v :: m) ++ c = pre ++ sVB v.f0 v.f1 v.f2 ++ (rowVs m ++ c) := by simp [rowVs, vB]
  have g := vread_put pre (rowVs m ++ c) v.f0 v.f1 v.f2 hv
  rw [← e] at g
  simp only [List.length_cons, vals]
  rw [g, if_pos rfl]
  have e2 : pre ++ rowVs (v :: m) ++ c = (pre ++ vB v) ++ rowVs m ++ c := by simp [rowVs]
  have := ih (pre ++ vB v) c (acc ++ [v]) (fun x hx => h x (List.mem_cons_of_mem _ hx))
  rw [← e2, List.length_append] at this
  simp only
  show vals _ m.length ((pre.length : Int) + ((vB v).length : Int)) (acc ++ [v]) = _
  rw [show ((pre.length : Int) + ((vB v).length : Int)) = ((pre.length + (vB v).length : Nat) : Int) from rfl, this]
  simp [rowVs]
theorem rowRead_put (l : List V) (c : List Int) (h : rowE l = 0) : sRowRead (rowB l ++ c) 0 = (l, ((rowB l).length : Int), 0) := by
 obtain ⟨h1, h2⟩ := (rowE_zero l).1 h
 unfold sRowRead
 have r0 : rd (rowB l ++ c) 0 = (l.length : Int) := rfl
 have hl : (rowB l ++ c).length = (rowB l).length + c.length := List.length_append
 have hp : 1 ≤ (rowB l).length := by simp [rowB]
 rw [if_pos z2_, r0, if_neg z2_, Int.toNat_natCast]
 have := vals_put l [(l.length : Int)] c [] h2
 exact this
theorem rowRead_back (k : Nat) (l : List V) (h : rowE l = 0) (hk : 80 ≤ k) : row_Read.f k (rowB l) 0 = some (l, ((rowB l).length : Int), 0) := by
 have hl := rowB_len h
 rw [rowRead_eq k _ 0 (rowB_bytes h) z2_ z2_ hk]
 have := rowRead_put l [] h
 rw [List.append_nil] at this
 rw [this]
theorem wakes4_eq (k : Nat) (hk : 100 ≤ k) : raddlelaw04_wakes.f k = some true := by
 have he : rowE [(⟨1, 0, ⟨#[]⟩⟩ : V)] = 0 := by rw [rowE_zero]; refine ⟨by simp, fun v hv => ?_⟩; rw [List.mem_singleton.1 hv]; exact .inl ⟨rfl, rfl, rfl⟩
 unfold raddlelaw04_wakes.f
 rw [Option.bind_some, rowBytes_eq _ _ (by simp) (by simp; omega), if_pos he, Option.bind_some]
 simp only
 rw [rowRead_back k _ he z2_, Option.bind_some, rowCompare_eq _ _ _ (by simp) (by simp) (by simp; omega)]
 have e : ((rowB [(⟨1, 0, ⟨#[]⟩⟩ : V)]).length : Int) = 2 := rfl
 rw [e]
 rfl
end Go.Proofs.Ytiaiglihndbjeaa.Plain
end
section
namespace Go.Proofs.Ytiaiglihndbjeaa.Plain
open Go.RowKit Go.Proofs.Ytiaiglihndbjeaa.PAll Go.Proofs.YtiaiglihndbjeaaW.PrintWords Go.Proofs.YtiaiglihndbjeaaW.PrintLast Go.Proofs.YtiaiglihndbjeaaW.PrintMore Go.Proofs.Ytiaiglihndbjeaa.ZipT Go.Proofs.YtiaiglihndbjeaaW.PrintWords.Kd Go.Proofs.YtiaiglihndbjeaaW.PrintMore.Kd
set_option linter.unusedVariables false
set_option linter.unusedSimpArgs false
def inR (l : List V) (c : Int) : Prop := 0 ≤ c ∧ c < (l.length : Int)
instance (l : List V) (c : Int) : Decidable (inR l c) := by unfold inR; infer_instance
def pickL (l : List V) (cols : List Int) : List V := cols.map fun c => rd_T39 l c
def allIn (l : List V) (cols : List Int) : Bool := cols.all fun c => decide (inR l c)
def sPick (l : List V) (cols : List Int) : List V × Int := if allIn l cols = true then (if cols.length > 12 then ([], 2) else (pickL l cols, 0)) else ([], 1)
theorem any_out (l : List V) (cols : List Int) : (cols.any fun c => decide (c < 0 ∨ c ≥ (l.length : Int))) = !(allIn l cols) := by
 unfold allIn
 induction cols with
 | nil => rfl
 | cons c cols ih =>
  simp only [List.any_cons, List.all_cons, ih, Bool.not_and]
  congr 1
  by_cases h : c < 0 ∨ c ≥ (l.length : Int)
  ·
   rw [decide_eq_true h, decide_eq_false (show ¬ inR l c from by unfold inR; omega)]; rfl
  ·
   rw [decide_eq_false h, decide_eq_true (show inR l c from by unfold inR; omega)]; rfl
theorem allIn_drop {l : List V} {cols : List Int} (h : allIn l cols = true) {i : Nat} {c : Int} {m : List Int} (hd : cols.drop i = c :: m) : inR l c := by
 have : c ∈ cols := by
  have : c ∈ cols.drop i := by rw [hd]; exact List.mem_cons_self
  exact List.mem_of_mem_drop this
 exact of_decide_eq_true (List.all_eq_true.1 h c this)
theorem pick_l0 (l : List V) (cols : List Int) (hc : cols.length ≤ 12) (hin : allIn l cols = true) (m : List Int) : ∀ (k i : Nat) (out : List V), cols.drop i = m → out.length + m.length ≤ 100 → m.length < k →
  row_Pick.l0 k out cols (cols.length : Int) (i : Int) l = some (out ++ pickL l m, 0) := by
 induction m with
 | nil =>
  intro k i out h ho hk
  obtain ⟨k, rfl⟩ : ∃ j, k = j + 1 := ⟨k - 1, by omega⟩
  have h1 := dropL_end h
  simp only [row_Pick.l0]
  rw [if_neg z2_]; simp [pickL]
 | cons c m ih =>
  intro k i out h ho hk
  obtain ⟨k, rfl⟩ : ∃ j, k = j + 1 := ⟨k - 1, by omega⟩
  have h1 := dropL_lt h
  have h2 := allIn_drop hin h
  unfold inR at h2
  simp only [List.length_cons] at ho hk
  simp only [row_Pick.l0]
  rw [if_pos z2_, if_pos z2_, if_pos z2_, rdI_drop h, if_pos z2_, if_pos z2_, if_pos z2_, w64 z2_ z2_]
  have := ih k (i + 1) (out ++ [rd_T39 l c]) (dropL_tail h) (by rw [List.length_append, List.length_singleton]; omega) z2_
  refine Eq.trans this ?_
  simp [pickL]
theorem rowPick_eq (k : Nat) (l : List V) (cols : List Int) (hc : cols.length ≤ 1000000) (hk : 40 ≤ k) : row_Pick.f k l cols = some (sPick l cols) := by
 unfold row_Pick.f slices_ContainsFunc_at_row_Pick_1.f sPick
 rw [if_pos z2_, Option.bind_some, any_out]
 cases hin : allIn l cols
 ·
  simp
 ·
  simp only [Bool.not_true, if_true]
  rw [if_neg (by decide)]
  by_cases h : (cols.length : Int) > 12
  ·
   rw [if_pos h, if_pos z2_]
  ·
   rw [if_neg h, if_neg z2_]
   have := pick_l0 l cols z2_ hin cols k 0 [] rfl (by simp; omega) z2_
   exact this
end Go.Proofs.Ytiaiglihndbjeaa.Plain
end
section
namespace Go.Proofs.Ytiaiglihndbjeaa.Pure
open Go.RowKit Go.Proofs.Ytiaiglihndbjeaa.PAll Go.Proofs.YtiaiglihndbjeaaW.PrintWords Go.Proofs.YtiaiglihndbjeaaW.PrintLast Go.Proofs.YtiaiglihndbjeaaW.PrintMore Go.Proofs.Ytiaiglihndbjeaa.Plain Go.Proofs.Ytiaiglihndbjeaa.ZipT Go.Proofs.YtiaiglihndbjeaaW.PrintWords.Kd Go.Proofs.YtiaiglihndbjeaaW.PrintMore.Kd
set_option linter.unusedVariables false
set_option linter.unusedSimpArgs false
theorem u64s (m : Int) (h : 0 ≤ m) (h2 : m ≤ 100) : IntKind.u64.wrap m = m := by rw [u64_mod]; omega
def rem (x : Int) (n : Nat) : Int := x % 18446744073709551616 % (n : Int)
theorem rem_in (x : Int) (n : Nat) (h : 0 < n) : 0 ≤ rem x n ∧ rem x n < n := ⟨Int.emod_nonneg _ z2_, Int.emod_lt_of_pos _ z2_⟩
theorem rem_eq (x : Int) (n : Nat) (h : 0 < n) (hn : n ≤ 100) : wrap64 (Int.tmod (IntKind.u64.wrap x) (IntKind.u64.wrap (n : Int))) = rem x n := by
 have := rem_in x n h
 rw [u64s (n : Int) z2_ z2_, u64_mod, Int.tmod_eq_emod_of_nonneg (Int.emod_nonneg _ (by decide))]
 show wrap64 (rem x n) = _
 rw [w64 z2_ z2_]
theorem u64_ne (n : Nat) (h : 0 < n) (hn : n ≤ 100) : ¬ IntKind.u64.wrap (n : Int) = 0 := by rw [u64s (n : Int) z2_ z2_]; omega
def from_ : Nat → Nat → List Int
 | _, 0 => []
 | i, n + 1 => (i : Int) :: from_ (i + 1) n
theorem from_len : ∀ n i, (from_ i n).length = n
 | 0, _ => rfl
 | n + 1, i => by simp [from_, from_len n (i + 1)]
theorem pick_from (l : List V) : ∀ n i, i + n = l.length → pickL l (from_ i n) = l.drop i ∧ allIn l (from_ i n) = true
 | 0, i, h => ⟨by rw [List.drop_eq_nil_of_le z2_]; rfl, rfl⟩
 | n + 1, i, h => by
  obtain ⟨h1, h2⟩ := pick_from l n (i + 1) z2_
  refine ⟨?_, ?_⟩
  ·
   show rd_T39 l (i : Int) :: pickL l (from_ (i + 1) n) = _
   rw [h1, List.drop_eq_getElem_cons (show i < l.length by omega)]
   congr 1
   show l.getD ((i : Int)).toNat _ = _
   rw [Int.toNat_natCast, List.getD_eq_getElem?_getD, List.getElem?_eq_getElem (show i < l.length by omega)]
   rfl
  ·
   show (decide (inR l (i : Int)) && allIn l (from_ (i + 1) n)) = true
   rw [h2, decide_eq_true (show inR l (i : Int) from ⟨by omega, by omega⟩)]
   rfl
theorem all_in (l : List V) (cols : List Int) (h : ∀ c ∈ cols, 0 ≤ c ∧ c < (l.length : Int)) : allIn l cols = true := List.all_eq_true.2 fun c hc => decide_eq_true (h c hc)
theorem sPick_in (l : List V) (cols : List Int) (h : ∀ c ∈ cols, 0 ≤ c ∧ c < (l.length : Int)) (hl : cols.length ≤ 12) : sPick l cols = (pickL l cols, 0) := by
 unfold sPick
 rw [if_pos (all_in l cols h), if_neg z2_]
theorem rd_map (p : List Int) (f : Int → V) (c : Int) (h : 0 ≤ c ∧ c < (p.length : Int)) : rd_T39 (p.map f) c = f (rd p c) := by
 show (p.map f).getD c.toNat _ = f (p.getD c.toNat 0)
 rw [List.getD_eq_getElem?_getD, List.getD_eq_getElem?_getD, List.getElem?_map, List.getElem?_eq_getElem (show c.toNat < p.length by omega)]
 rfl
theorem pick_pick (l : List V) (p q : List Int) (h : ∀ c ∈ q, 0 ≤ c ∧ c < (p.length : Int)) : pickL (pickL l p) q = pickL l (q.map (rd p)) := by
 unfold pickL
 rw [List.map_map]
 exact List.map_congr_left fun c hc => rd_map p _ c (h c hc)
theorem fits_rd : ∀ (l : List V) (t : List Int) (i : Nat), fitsL l t = true → i < l.length → vFits (rd_T39 l (i : Int)).f0 (rd_T39 l (i : Int)).f1 (rd_T39 l (i : Int)).f2 (rd t (i : Int))
 | [], _, _, _, h => absurd h (by simp)
 | v :: l, [], _, h, _ => by cases h
 | v :: l, t :: m, 0, h, _ => by
  simp only [fitsL, Bool.and_eq_true] at h
  exact of_decide_eq_true h.1
 | v :: l, t :: m, i + 1, h, hi => by
  simp only [fitsL, Bool.and_eq_true] at h
  exact fits_rd l m i h.2 (by simpa using hi)
theorem fits_pick (l : List V) (t : List Int) (hf : fitsL l t = true) : ∀ p : List Int, (∀ c ∈ p, 0 ≤ c ∧ c < (l.length : Int)) → fitsL (pickL l p) (p.map (rd t)) = true
 | [], _ => rfl
 | c :: p, h => by
  have hc := h c List.mem_cons_self
  have h1 := fits_rd l t c.toNat hf z2_
  rw [show ((c.toNat : Nat) : Int) = c by omega] at h1
  show fitsL (rd_T39 l c :: pickL l p) (rd t c :: p.map (rd t)) = true
  simp only [fitsL, Bool.and_eq_true]
  exact ⟨decide_eq_true h1, fits_pick l t hf p (fun x hx => h x (List.mem_cons_of_mem _ hx))⟩
theorem picks_l3 (t p : List Int) (x : List V) (hp : p.length ≤ 12) (hr : ∀ c ∈ p, 0 ≤ c ∧ c < (t.length : Int)) (hx : x.length ≤ 12) (hf : fitsL x (p.map (rd t)) = true) (m : List Int) : ∀ (k i : Nat) (acc : List Int), p.drop i = m → i ≤ p.length → acc = (p.take i).map (rd t) → m.length + 150 < k →
  raddlelaw04_RowPicks.l3 k t p acc x (i : Int) = some true := by
 induction m with
 | nil =>
  intro k i acc h hi ha hk
  obtain ⟨k, rfl⟩ : ∃ j, k = j + 1 := ⟨k - 1, by omega⟩
  have h1 := dropL_end h
  simp only [raddlelaw04_RowPicks.l3]
  rw [if_neg z2_, rowFits_eq _ _ _ z2_ z2_, Option.bind_some, ha, List.take_of_length_le h1, hf, if_pos rfl, wakes4_eq _ (by simp at hk; omega)]
  rfl
 | cons c m ih =>
  intro k i acc h hi ha hk
  obtain ⟨k, rfl⟩ : ∃ j, k = j + 1 := ⟨k - 1, by omega⟩
  have h1 := dropL_lt h
  have hc := hr c (List.mem_of_mem_drop (by rw [h]; exact List.mem_cons_self))
  have hal : acc.length = i := by rw [ha, List.length_map, List.length_take]; omega
  simp only [List.length_cons] at hk
  simp only [raddlelaw04_RowPicks.l3]
  rw [if_pos z2_, if_pos z2_, rdI_drop h, if_pos hc.1, if_pos hc.2, Option.bind_some, if_pos (by rw [List.length_singleton]; omega), w64 z2_ z2_]
  refine ih k (i + 1) _ (dropL_tail h) h1 ?_ z2_
  rw [ha, List.take_add_one, List.map_append, show p[i]? = some c from by rw [← List.head?_drop, h]; rfl]
  rfl
theorem picks_j5 (t p : List Int) (x : List V) (b : Bool) (k : Nat) (hk : 300 ≤ k) (hp : p.length ≤ 12) (hx : x.length ≤ 12) (hb : b = true → (∀ c ∈ p, 0 ≤ c ∧ c < (t.length : Int)) ∧ fitsL x (p.map (rd t)) = true) :
  raddlelaw04_RowPicks.j5 k t p [] x b = some true := by
 obtain ⟨k, rfl⟩ : ∃ j, k = j + 1 := ⟨k - 1, by omega⟩
 simp only [raddlelaw04_RowPicks.j5]
 cases b
 ·
  rw [if_neg (by decide), wakes4_eq _ z2_]; rfl
 ·
  obtain ⟨h1, h2⟩ := hb rfl
  rw [if_pos rfl]
  exact picks_l3 t p x hp h1 hx h2 p k 0 [] rfl (Nat.zero_le _) rfl z2_
theorem picks_j4 (l : List V) (t p : List Int) (k : Nat) (hk : 400 ≤ k) (hl : l.length ≤ 12) (hp : p.length ≤ 12) (hr : ∀ c ∈ p, 0 ≤ c ∧ c < (l.length : Int)) :
  raddlelaw04_RowPicks.j4 k l t p [] (pickL l p) false = some true := by
 obtain ⟨k, rfl⟩ : ∃ j, k = j + 1 := ⟨k - 1, by omega⟩
 have hx : (pickL l p).length = p.length := by unfold pickL; rw [List.length_map]
 simp only [raddlelaw04_RowPicks.j4]
 rw [if_neg (by decide)]
 by_cases h : (t.length : Int) = l.length
 ·
  rw [if_pos h, rowFits_eq _ _ _ z2_ z2_, Option.bind_some]
  exact picks_j5 t p _ _ k z2_ hp z2_ (fun hb => ⟨fun c hc => by have := hr c hc; omega, fits_pick l t hb p hr⟩)
 ·
  rw [if_neg h]
  exact picks_j5 t p _ _ k z2_ hp z2_ (fun hb => by cases hb)
theorem picks_l2 (l : List V) (t b p : List Int) (hl : l.length ≤ 12) (hp0 : 0 < p.length) (hp : p.length ≤ 12) (hb : b.length ≤ 12) (hr : ∀ c ∈ p, 0 ≤ c ∧ c < (l.length : Int)) (m : List Int) : ∀ (k i : Nat) (q : List Int), b.drop i = m → i ≤ b.length → q.length = i → (∀ c ∈ q, 0 ≤ c ∧ c < (p.length : Int)) → m.length + 600 < k →
  raddlelaw04_RowPicks.l2 k l t b (from_ 0 l.length) p q (q.map (rd p)) (i : Int) = some true := by
 induction m with
 | nil =>
  intro k i q h hi hq hqr hk
  obtain ⟨k, rfl⟩ : ∃ j, k = j + 1 := ⟨k - 1, by omega⟩
  have h1 := dropL_end h
  have h0 := pick_from l l.length 0 z2_
  simp only [raddlelaw04_RowPicks.l2]
  have hx : (pickL l p).length = p.length := by unfold pickL; rw [List.length_map]
  have hboth : ∀ c ∈ q.map (rd p), 0 ≤ c ∧ c < (l.length : Int) := by
   intro c hc
   obtain ⟨j, hj, rfl⟩ := List.mem_map.1 hc
   have hjr := hqr j hj
   refine hr _ ?_
   show p.getD j.toNat 0 ∈ p
   rw [List.getD_eq_getElem?_getD, List.getElem?_eq_getElem (show j.toNat < p.length by omega)]
   exact List.getElem_mem _
  have e0 : sPick l (from_ 0 l.length) = (l, 0) := by
   unfold sPick
   rw [if_pos h0.2, if_neg (by rw [from_len]; omega), h0.1]
   rfl
  rw [if_neg z2_, rowPick_eq _ _ _ (by rw [from_len]; omega) (by simp at hk; omega), Option.bind_some, rowPick_eq _ _ _ z2_ (by simp at hk; omega), Option.bind_some, e0, sPick_in l p hr hp]
  simp only
  rw [rowPick_eq _ _ _ z2_ (by simp at hk; omega), Option.bind_some, rowPick_eq _ _ _ (by rw [List.length_map]; omega) (by simp at hk; omega), Option.bind_some, sPick_in (pickL l p) q (fun c hc => by rw [hx]; exact hqr c hc) z2_, sPick_in l _ hboth (by rw [List.length_map]; omega)]
  simp only [if_true]
  rw [keepRow_eq _ _ _ z2_ (by simp at hk; omega), decide_eq_true rfl, Option.bind_some, if_pos rfl, pick_pick l p q hqr, keepRow_eq _ _ _ (by unfold pickL; rw [List.length_map, List.length_map]; omega) (by unfold pickL; rw [List.length_map, List.length_map]; simp at hk; omega), decide_eq_true rfl, Option.bind_some, if_pos rfl]
  rw [show (((pickL l p).length : Int) != (p.length : Int)) = false from by rw [hx]; simp]
  exact picks_j4 l t p k (by simp at hk; omega) hl hp hr
 | cons c m ih =>
  intro k i q h hi hq hqr hk
  obtain ⟨k, rfl⟩ : ∃ j, k = j + 1 := ⟨k - 1, by omega⟩
  have h1 := dropL_lt h
  have hm := rem_in c p.length hp0
  simp only [List.length_cons] at hk
  simp only [raddlelaw04_RowPicks.l2]
  rw [if_pos z2_, if_pos z2_, if_neg (u64_ne _ hp0 z2_), rdI_drop h, rem_eq c p.length hp0 z2_, Option.bind_some, if_pos (by rw [List.length_singleton]; omega), if_pos hm.1, if_pos hm.2, Option.bind_some, if_pos (by rw [List.length_singleton, List.length_map]; omega), w64 z2_ z2_]
  have := ih k (i + 1) (q ++ [rem c p.length]) (dropL_tail h) h1 (by rw [List.length_append, List.length_singleton]; omega) (by
   intro x hx
   rcases List.mem_append.1 hx with e | e
   ·
    exact hqr x e
   ·
    rw [List.mem_singleton.1 e]; exact hm) z2_
  rw [List.map_append] at this
  exact this
theorem picks_l1 (l : List V) (t a b : List Int) (hl0 : 0 < l.length) (hl : l.length ≤ 12) (ha0 : 0 < a.length) (ha : a.length ≤ 12) (hb : b.length ≤ 12) (m : List Int) : ∀ (k i : Nat) (p : List Int), a.drop i = m → i ≤ a.length → p.length = i → (∀ c ∈ p, 0 ≤ c ∧ c < (l.length : Int)) → m.length + 700 < k →
  raddlelaw04_RowPicks.l1 k l t a b (from_ 0 l.length) p (i : Int) = some true := by
 induction m with
 | nil =>
  intro k i p h hi hp hr hk
  obtain ⟨k, rfl⟩ : ∃ j, k = j + 1 := ⟨k - 1, by omega⟩
  have h1 := dropL_end h
  simp only [raddlelaw04_RowPicks.l1]
  rw [if_neg z2_]
  exact picks_l2 l t b p hl z2_ z2_ hb hr b k 0 [] rfl (Nat.zero_le _) rfl (fun _ hc => by cases hc) (by simp at hk; omega)
 | cons c m ih =>
  intro k i p h hi hp hr hk
  obtain ⟨k, rfl⟩ : ∃ j, k = j + 1 := ⟨k - 1, by omega⟩
  have h1 := dropL_lt h
  have hm := rem_in c l.length hl0
  simp only [List.length_cons] at hk
  simp only [raddlelaw04_RowPicks.l1]
  rw [if_pos z2_, if_pos z2_, if_neg (u64_ne _ hl0 z2_), rdI_drop h, rem_eq c l.length hl0 z2_, Option.bind_some, if_pos (by rw [List.length_singleton]; omega), w64 z2_ z2_]
  exact ih k (i + 1) (p ++ [rem c l.length]) (dropL_tail h) h1 (by rw [List.length_append, List.length_singleton]; omega) (by
   intro x hx
   rcases List.mem_append.1 hx with e | e
   ·
    exact hr x e
   ·
    rw [List.mem_singleton.1 e]; exact hm) z2_
theorem from_snoc : ∀ n i, from_ i n ++ [((i + n : Nat) : Int)] = from_ i (n + 1)
 | 0, i => rfl
 | n + 1, i => by
  show (i : Int) :: (from_ (i + 1) n ++ [((i + (n + 1) : Nat) : Int)]) = (i : Int) :: from_ (i + 1) (n + 1)
  rw [← from_snoc n (i + 1), show i + (n + 1) = i + 1 + n by omega]
theorem picks_l0 (l : List V) (t a b : List Int) (hl0 : 0 < l.length) (hl : l.length ≤ 12) (ha0 : 0 < a.length) (ha : a.length ≤ 12) (hb : b.length ≤ 12) (j : Nat) : ∀ (k i : Nat), i + j = l.length → j + 800 < k →
  raddlelaw04_RowPicks.l0 k l t a b (from_ 0 i) (i : Int) = some true := by
 induction j with
 | zero =>
  intro k i h hk
  obtain ⟨k, rfl⟩ : ∃ j, k = j + 1 := ⟨k - 1, by omega⟩
  simp only [raddlelaw04_RowPicks.l0]
  rw [if_neg z2_, show i = l.length by omega]
  exact picks_l1 l t a b hl0 hl ha0 ha hb a k 0 [] rfl (Nat.zero_le _) rfl (fun _ hc => by cases hc) z2_
 | succ j ih =>
  intro k i h hk
  obtain ⟨k, rfl⟩ : ∃ j, k = j + 1 := ⟨k - 1, by omega⟩
  simp only [raddlelaw04_RowPicks.l0]
  rw [if_pos z2_, Option.bind_some, if_pos (by rw [from_len, List.length_singleton]; omega), w64 z2_ z2_]
  have h1 := from_snoc i 0
  rw [Nat.zero_add] at h1
  rw [h1]
  exact ih k (i + 1) z2_ z2_
theorem RowPicks : raddlelaw04_RowPicks.Pure := by
 intro l t a b _ _ _ _
 refine ⟨1000 + 1, ?_⟩
 have hj : raddlelaw04_RowPicks.j0 1001 l t a b true = some true := rfl
 unfold raddlelaw04_RowPicks.f
 rw [heavy_eq _ _ z2_, Option.bind_some]
 by_cases hh : heavy l = true
 ·
  rw [if_pos hh]; exact hj
 rw [if_neg hh]
 by_cases h1 : (l.length : Int) = 0
 ·
  rw [if_pos h1]; exact hj
 rw [if_neg h1]
 by_cases h2 : (l.length : Int) > 12
 ·
  rw [if_pos h2]; exact hj
 rw [if_neg h2]
 by_cases h3 : (a.length : Int) = 0
 ·
  rw [if_pos h3]; exact hj
 rw [if_neg h3]
 by_cases h4 : (a.length : Int) > 12
 ·
  rw [if_pos h4]; exact hj
 rw [if_neg h4]
 by_cases h5 : (b.length : Int) > 12
 ·
  rw [if_pos h5]; exact hj
 rw [if_neg h5]
 by_cases h6 : (t.length : Int) > 40
 ·
  rw [decide_eq_true h6]; exact hj
 rw [decide_eq_false h6]
 simp only [raddlelaw04_RowPicks.j0]
 rw [if_neg (by decide)]
 exact picks_l0 l t a b z2_ z2_ z2_ z2_ z2_ l.length 1000 0 z2_ z2_
end Go.Proofs.Ytiaiglihndbjeaa.Pure
end
