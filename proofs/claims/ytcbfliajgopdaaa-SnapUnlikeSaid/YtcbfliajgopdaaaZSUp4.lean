-- Put together by a program of this session (wip/slice2.py) out of the seat's texts.
import Derived.Test.YtcbfliajgopdaaaZSUp3
import Derived.Sort.Walk0
set_option maxHeartbeats 8000000
set_option maxRecDepth 100000
open Go.Proofs.YtcbfliajgopdaaaW Go.Proofs.Ytcbfliajgopdaaa
section
namespace Go.Proofs.Ytcbfliajgopdaaa.Plain
open Go.RowKit PAll PrintWords PrintLast PrintMore ZipT PrintWords.Kd PrintMore.Kd
set_option linter.unusedVariables false
set_option linter.unusedSimpArgs false
theorem fO (s : ByteArray) : s.toList = ([] : List UInt8) ↔ s.size = 0 := by
 rw [iW, show s.size = s.data.toList.length from by rw [Array.length_toList]; rfl]
 exact List.length_eq_zero_iff.symm
theorem toList_inj {s t : ByteArray} : s.toList = t.toList ↔ s = t := by
 rw [iW, iW]
 constructor
 ·
  intro h
  have : s.data = t.data := by rw [← Array.toList_inj]; exact h
  cases s; cases t; simp_all
 ·
  intro h; rw [h]
theorem jL {s : ByteArray} (h : s.size = 0) : s = ⟨#[]⟩ := by
 rw [← toList_inj, (fO s).2 h]; exact ((fO _).2 rfl).symm
def vOk (k i : Int) (s : ByteArray) : Prop :=
 (k = 1 ∧ i = 0 ∧ s.size = 0) ∨ (k = 2 ∧ (i = 0 ∨ i = 1) ∧ s.size = 0) ∨ (k = 3 ∧ (-1152921504606846976 ≤ i ∧ i ≤ 1152921504606846976) ∧ s.size = 0) ∨ (k = 4 ∧ i = 0 ∧ s.size ≤ 24)
instance (k i : Int) (s : ByteArray) : Decidable (vOk k i s) := by unfold vOk; infer_instance
theorem within_v (n m : Int) (h0 : 0 ≤ m) (h1 : m ≤ 9223372036854775807) : eY.f n m = some (decide (-m ≤ n ∧ n ≤ m)) := by
 unfold eY.f
 rw [w64 (x := -m) z2_ z2_]
 by_cases h : n ≥ -m
 ·
  rw [if_pos h]; congr 1; simp; omega
 rw [if_neg h]; congr 1; simp; omega
theorem iD (k i : Int) (s : ByteArray) : bX.f k i s = some (if vOk k i s then 0 else 1) := by
 unfold bX.f
 rw [within_v i 1152921504606846976 z2_ z2_]
 simp only [fO, Option.bind_some, decide_eq_true_eq]
 by_cases ho : vOk k i s
 ·
  rw [if_pos ho]; unfold vOk at ho; repeat' split
  all_goals first | rfl | (exfalso; omega)
 rw [if_neg ho]; unfold vOk at ho; repeat' split
 all_goals first | rfl | (exfalso; omega)
theorem rvalue_eq (k i : Int) (s : ByteArray) : cS.f k i s = some (decide (vOk k i s)) := by
 unfold cS.f
 simp only [rin_eq, Option.bind_some, decide_eq_true_eq]
 have hn : (s.toList == ([] : List UInt8)) = decide (s.size = 0) := by
  by_cases h : s.size = 0
  ·
   rw [(fO s).2 h, decide_eq_true h]; rfl
  ·
   rw [decide_eq_false h, beq_eq_false_iff_ne]; exact fun e => h ((fO s).1 e)
 rw [hn]
 by_cases ho : vOk k i s
 ·
  rw [decide_eq_true ho]; unfold vOk at ho; repeat' split
  all_goals first | rfl | (exfalso; omega) | (congr 1; rw [decide_eq_true_eq]; omega)
 rw [decide_eq_false ho]; unfold vOk at ho; repeat' split
 all_goals first | rfl | (exfalso; omega) | (congr 1; rw [decide_eq_false_iff_not]; omega)
theorem jY (k1 i1 : Int) (s1 : ByteArray) (k2 i2 : Int) (s2 : ByteArray) : dD.f k1 i1 s1 k2 i2 s2 = some (decide (k1 = k2 ∧ i1 = i2 ∧ s1 = s2)) := by
 unfold dD.f
 by_cases h1 : k1 = k2
 rotate_left
 ·
  rw [if_neg h1]; simp [h1]
 rw [if_pos h1]
 by_cases h2 : i1 = i2
 rotate_left
 ·
  rw [if_neg h2]; simp [h2]
 rw [if_pos h2]; congr 1
 by_cases h3 : s1 = s2
 ·
  simp [h1, h2, h3]
 rw [decide_eq_false (by simp [h3]), beq_eq_false_iff_ne]; exact fun e => h3 (toList_inj.1 e)
def vFits (k i : Int) (s : ByteArray) (t : Int) : Prop := (2 ≤ t ∧ t ≤ 4) ∧ vOk k i s ∧ (k = t ∨ k = 1)
instance (k i : Int) (s : ByteArray) (t : Int) : Decidable (vFits k i s t) := by unfold vFits; infer_instance
def vSmall (k i : Int) (s : ByteArray) : Prop := vOk k i s ∧ (k = 3 → -2147483648 ≤ i ∧ i ≤ 2147483648)
instance (k i : Int) (s : ByteArray) : Decidable (vSmall k i s) := by unfold vSmall; infer_instance
def sVB (k i : Int) (s : ByteArray) : List Int := if k = 2 then [2, i] else if k = 3 then 3 :: intB i else if k = 4 then 4 :: (s.size : Int) :: bytesOf s else [1]
theorem vbytes_eq (fuel : Nat) (k i : Int) (s : ByteArray) (hk : 30 ≤ fuel) : value_Bytes.f fuel k i s = some (if vOk k i s then (sVB k i s, 0) else ([], 1)) := by
 unfold value_Bytes.f
 rw [iD, Option.bind_some]
 by_cases ho : vOk k i s
 rotate_left
 ·
  rw [if_neg ho, if_neg z4_, if_neg ho]
 rw [if_pos ho, if_pos rfl, Option.bind_some]
 have ho' := ho
 unfold vOk at ho'
 unfold sVB
 by_cases h2 : k = 2
 ·
  rw [if_pos h2, if_pos h2, if_pos (by simp), if_pos ho]
  subst h2
  have : i % 256 = i := by omega
  simp [this]
 rw [if_neg h2, if_neg h2]
 by_cases h3 : k = 3
 ·
  rw [if_pos h3, if_pos h3, putInt_eq _ _ _ (by simp) z2_, Option.bind_some, if_pos ho]
  subst h3
  unfold sPutInt
  rw [if_pos z2_]
  simp
 rw [if_neg h3, if_neg h3]
 by_cases h4 : k = 4
 ·
  rw [if_pos h4, if_pos h4, putText_eq _ _ (by simp), Option.bind_some, if_pos ho]
  subst h4
  unfold sPutText
  rw [if_pos z2_]
  simp
 have h1 : k = 1 := by omega
 rw [if_neg h4, if_neg h4, if_pos ho, h1]
 rfl
def bad (e : Int) : Int × Int × ByteArray × Int × Int := (0, 0, ⟨#[]⟩, 0, e)
def sVRead (l : List Int) (at_ : Int) : Int × Int × ByteArray × Int × Int :=
  if 0 ≤ at_ ∧ at_ ≤ l.length then
    (if at_ = l.length then bad 3
     else if rd l at_ = 1 then (1, 0, ⟨#[]⟩, at_ + 1, 0)
     else if rd l at_ = 2 then (if at_ + 1 < l.length ∧ rd l (at_ + 1) ≤ 1 then (2, rd l (at_ + 1), ⟨#[]⟩, at_ + 2, 0) else bad 3)
     else if rd l at_ = 3 then (if (sGetInt l (at_ + 1)).2.2 = 0 then (3, (sGetInt l (at_ + 1)).1, ⟨#[]⟩, (sGetInt l (at_ + 1)).2.1, 0) else bad 3)
     else if rd l at_ = 4 then (if (sGetText l (at_ + 1)).2.2 = 0 then (4, 0, (sGetText l (at_ + 1)).1, (sGetText l (at_ + 1)).2.1, 0) else bad 3)
     else bad 3)
  else bad 1
theorem sub_one {l : List Int} {i : Int} (h0 : 0 ≤ i) (h1 : i < l.length) : sub l i.toNat (i + 1).toNat = [rd l i] := by
 obtain ⟨j, rfl⟩ := Int.eq_ofNat_of_zero_le h0
 rw [Int.toNat_natCast, show ((j : Int) + 1).toNat = j + 1 from by omega, iA z2_ z2_]
 have : sub l (j + 1) (j + 1) = [] := List.eq_nil_of_length_eq_zero (by rw [eT z2_]; omega)
 rw [this]
theorem sGet_one (l : List Int) (at_ : Int) : sGet l at_ 1 = if 0 ≤ at_ ∧ at_ ≤ l.length then (if at_ = l.length then (0, 0, 3) else (rd l at_, at_ + 1, 0)) else (0, 0, 1) := by
 unfold sGet
 by_cases h : 0 ≤ at_ ∧ at_ ≤ l.length
 rotate_left
 ·
  rw [if_neg z2_, if_neg h]
 rw [if_pos z2_, if_pos h]
 by_cases h2 : at_ = l.length
 ·
  rw [if_pos z2_, if_pos h2]
 rw [if_neg z2_, if_neg h2, sub_one z2_ z2_]
 simp [val]
theorem sGet_next (l : List Int) (at_ : Int) (h : 0 ≤ at_ ∧ at_ ≤ l.length) (h2 : ¬ at_ = l.length) : sGet l (at_ + 1) 1 = if at_ + 1 = l.length then (0, 0, 3) else (rd l (at_ + 1), at_ + 1 + 1, 0) := by
 rw [sGet_one, if_pos z2_]
theorem getInt_bd {l : List Int} {at_ : Int} (h : (sGetInt l at_).2.2 = 0) : -1152921504606846976 ≤ (sGetInt l at_).1 ∧ (sGetInt l at_).1 ≤ 1152921504606846976 ∨ ¬ Bytes l := by
 by_cases hb : Bytes l
 rotate_left
 ·
  exact .inr hb
 left
 have hv := gT (sub l (at_ + 1).toNat (at_ + 9).toNat) 0 z2_ (fG hb _ _)
 unfold sGetInt at h ⊢
 split at h
 ·
  rename_i h1
  rw [if_pos h1]
  split at h
  ·
   simp at h
  ·
   rename_i h2
   rw [if_neg h2]
   split <;> simp only <;> omega
 ·
  simp at h
theorem div_of {n p q : Int} (hp : 0 < p) (h0 : q * p ≤ n) (h1 : n < (q + 1) * p) : n / p = q := by
 have h2 : (q + 1) * p = q * p + p := by rw [Int.add_mul, Int.one_mul]
 exact ((Int.ediv_emod_unique (r := n - q * p) hp).2 ⟨by rw [Int.mul_comm p q]; omega, by omega, by omega⟩).1
theorem big_val (l : List Int) (hb : Bytes l) : big (val 0 l) l.length = l := by
 suffices ∀ a : Int, 0 ≤ a → big (val a l) l.length = l from this 0 z2_
 induction l with
 | nil => intro a _; rfl
 | cons b l ih =>
  intro a ha
  have hh := hb.head
  unfold Byte at hh
  have hv0 := val_ge l (a * 256 + b) z2_ hb.tail
  have hv1 := val_lt l (a * 256 + b) z2_ hb.tail
  rw [List.length_cons, big]
  show val (a * 256 + b) l / 256 ^ l.length % 256 :: big (val (a * 256 + b) l) l.length = _
  rw [div_of (pow_pos _) hv0 hv1, ih hb.tail _ z2_]
  congr 1
  omega
theorem getInt_sub {l : List Int} {at_ : Int} (hb : Bytes l) (h : (sGetInt l at_).2.2 = 0) : (sGetInt l at_).2.1 = at_ + 9 ∧ (0 ≤ at_ ∧ at_ + 9 ≤ l.length) ∧ intB (sGetInt l at_).1 = sub l at_.toNat (at_ + 9).toNat := by
 have hv := gT (sub l (at_ + 1).toNat (at_ + 9).toNat) 0 z2_ (fG hb _ _)
 have hr := hb.rd at_
 unfold Byte at hr
 unfold sGetInt at h ⊢
 by_cases h1 : 0 ≤ at_ ∧ at_ ≤ l.length
 rotate_left
 ·
  rw [if_neg h1] at h; simp at h
 rw [if_pos h1] at h ⊢
 by_cases h2 : l.length - at_ < 9 ∨ rd l at_ > 1 ∨ val 0 (sub l (at_ + 1).toNat (at_ + 9).toNat) > 1152921504606846976 ∨ (rd l at_ = 1 ∧ val 0 (sub l (at_ + 1).toNat (at_ + 9).toNat) = 0)
 ·
  rw [if_pos h2] at h; simp at h
 rw [if_neg h2]
 obtain ⟨i, rfl⟩ := Int.eq_ofNat_of_zero_le h1.1
 have hb8 : big (val 0 (sub l ((i : Int) + 1).toNat ((i : Int) + 9).toNat)) 8 = sub l ((i : Int) + 1).toNat ((i : Int) + 9).toNat := by
  have := big_val (sub l ((i : Int) + 1).toNat ((i : Int) + 9).toNat) (fG hb _ _)
  rw [eT z2_, show ((i : Int) + 9).toNat - ((i : Int) + 1).toNat = 8 from by omega] at this
  exact this
 have hc : sub l (i : Int).toNat ((i : Int) + 9).toNat = rd l (i : Int) :: sub l ((i : Int) + 1).toNat ((i : Int) + 9).toNat := by
  rw [Int.toNat_natCast, show ((i : Int) + 1).toNat = i + 1 from by omega, iA z2_ z2_]
 rw [hc]
 by_cases h3 : rd l (i : Int) = 1
 ·
  rw [if_pos h3]
  refine ⟨rfl, by omega, ?_⟩
  unfold intB
  simp only
  rw [if_pos z2_, Int.neg_neg, hb8, h3]
 rw [if_neg h3]
 refine ⟨rfl, by omega, ?_⟩
 unfold intB
 simp only
 rw [if_neg z2_, hb8, show rd l (i : Int) = 0 from by omega]
theorem getText_sub {l : List Int} {at_ : Int} (hb : Bytes l) (h : (sGetText l at_).2.2 = 0) : (at_ + 1 ≤ (sGetText l at_).2.1 ∧ (sGetText l at_).2.1 ≤ l.length) ∧ 0 ≤ at_ ∧ ((sGetText l at_).1.size : Int) :: bytesOf (sGetText l at_).1 = sub l at_.toNat (sGetText l at_).2.1.toNat := by
 have hr := hb.rd at_
 unfold Byte at hr
 unfold sGetText at h ⊢
 by_cases h1 : 0 ≤ at_ ∧ at_ ≤ l.length
 rotate_left
 ·
  rw [if_neg h1] at h; simp at h
 rw [if_pos h1] at h ⊢
 by_cases h2 : at_ = l.length ∨ rd l at_ > 24 ∨ l.length - at_ - 1 < rd l at_
 ·
  rw [if_pos h2] at h; simp at h
 rw [if_neg h2]
 obtain ⟨i, rfl⟩ := Int.eq_ofNat_of_zero_le h1.1
 refine ⟨by simp only; omega, by omega, ?_⟩
 simp only
 rw [iS, fU (fG hb _ _), eT z2_, Int.toNat_natCast, show ((i : Int) + 1).toNat = i + 1 from by omega, iA (i := i) z2_ z2_]
 congr 1
 omega
theorem jU {l : List Int} {at_ : Int} (hb : Bytes l) (h : (sGetText l at_).2.2 = 0) : (sGetText l at_).1.size ≤ 24 := by
 have hr := hb.rd at_
 unfold Byte at hr
 unfold sGetText at h ⊢
 split at h
 ·
  rename_i h1
  rw [if_pos h1]
  split at h
  ·
   simp at h
  ·
   rename_i h2
   rw [if_neg h2]
   simp only
   rw [iS, eT z2_]
   omega
 ·
  simp at h
theorem vread_eq (fuel : Nat) (l : List Int) (at_ : Int) (hb : Bytes l) (hl : l.length ≤ 1000000) (ha : at_ ≤ 9223372036854775807) (hk : 30 ≤ fuel) : value_Read.f fuel l at_ = some (sVRead l at_) := by
 unfold value_Read.f sVRead
 rw [get_eq _ _ _ _ hb hl ha z2_, Option.bind_some, sGet_one]
 by_cases h : 0 ≤ at_ ∧ at_ ≤ l.length
 rotate_left
 ·
  rw [if_neg h, if_neg h, if_neg z4_]; rfl
 rw [if_pos h, if_pos h]
 by_cases h2 : at_ = l.length
 ·
  rw [if_pos h2, if_pos h2, if_neg z4_]; rfl
 have hr := hb.rd at_
 unfold Byte at hr
 rw [if_neg h2, if_neg h2, if_pos rfl]
 simp only
 by_cases k2 : rd l at_ = 2
 ·
  rw [if_pos k2, if_neg z2_, if_pos k2, get_eq _ _ _ _ hb hl z2_ z2_, Option.bind_some, sGet_next _ _ h h2]
  have hr1 := hb.rd (at_ + 1)
  unfold Byte at hr1
  by_cases h3 : at_ + 1 = l.length
  ·
   rw [if_pos h3]
   simp only
   rw [if_neg (show ¬ ((3 : Int) = 0) by decide), if_neg z2_]; rfl
  rw [if_neg h3]
  simp only
  rw [if_pos trivial, iD, Option.bind_some, k2]
  by_cases h4 : rd l (at_ + 1) ≤ 1
  ·
   rw [if_pos (show vOk 2 (rd l (at_ + 1)) ⟨#[]⟩ from .inr (.inl ⟨rfl, by omega, rfl⟩)), if_pos rfl, if_pos z2_, show at_ + 1 + 1 = at_ + 2 from by omega]
  rw [if_neg (show ¬ vOk 2 (rd l (at_ + 1)) ⟨#[]⟩ from by unfold vOk; omega), if_neg z4_, if_neg z2_]; rfl
 rw [if_neg k2]
 by_cases k3 : rd l at_ = 3
 ·
  rw [if_pos k3, if_neg z2_, if_neg k2, if_pos k3, getInt_eq _ _ _ hb hl z2_ z2_, Option.bind_some, k3]
  by_cases h4 : (sGetInt l (at_ + 1)).2.2 = 0
  rotate_left
  ·
   rw [if_neg h4, if_neg h4]; rfl
  have := (getInt_bd h4).resolve_right (fun h => h hb)
  rw [if_pos h4, if_pos h4, iD, Option.bind_some, if_pos (show vOk 3 _ ⟨#[]⟩ from .inr (.inr (.inl ⟨rfl, this, rfl⟩))), if_pos rfl]
 rw [if_neg k3]
 by_cases k4 : rd l at_ = 4
 ·
  rw [if_pos k4, if_neg z2_, if_neg k2, if_neg k3, if_pos k4, getText_eq _ _ _ hb hl z2_ z2_, Option.bind_some, k4]
  by_cases h4 : (sGetText l (at_ + 1)).2.2 = 0
  rotate_left
  ·
   rw [if_neg h4, if_neg h4]; rfl
  have := jU hb h4
  rw [if_pos h4, if_pos h4, iD, Option.bind_some, if_pos (show vOk 4 0 _ from .inr (.inr (.inr ⟨rfl, rfl, this⟩))), if_pos rfl]
 rw [if_neg k4, iD, Option.bind_some, if_neg k2, if_neg k3, if_neg k4]
 by_cases k1 : rd l at_ = 1
 ·
  rw [if_pos k1, k1, if_pos (show vOk 1 0 ⟨#[]⟩ from .inl ⟨rfl, rfl, rfl⟩), if_pos rfl]
 rw [if_neg k1, if_neg (by unfold vOk; omega)]; rfl
theorem len_one (a : List Int) (x : Int) : ((a ++ [x]).length : Int) = (a.length : Int) + 1 := by simp
theorem vread_put (a c : List Int) (k i : Int) (s : ByteArray) (ho : vOk k i s) : sVRead (a ++ sVB k i s ++ c) a.length = (k, i, s, (a.length : Int) + (sVB k i s).length, 0) := by
 unfold vOk at ho
 unfold sVRead
 by_cases h2 : k = 2
 ·
  subst h2
  have hs := jL (s := s) z2_
  have e : sVB 2 i s = [2, i] := rfl
  have hl : (a ++ sVB 2 i s ++ c).length = a.length + 2 + c.length := by rw [e]; simp; omega
  have r0 : rd (a ++ sVB 2 i s ++ c) (a.length : Int) = 2 := by rw [e, List.append_assoc]; exact hU _ _ _ rfl
  have r1 : rd (a ++ sVB 2 i s ++ c) ((a.length : Int) + 1) = i := by
   have : a ++ sVB 2 i s ++ c = (a ++ [2]) ++ i :: c := by rw [e]; simp
   rw [this]; exact hU _ _ _ (by simp)
  rw [if_pos z2_, if_neg z2_, r0, if_neg z4_, if_pos rfl, r1, if_pos z2_, hs]
  rfl
 by_cases h3 : k = 3
 ·
  subst h3
  have hs := jL (s := s) z2_
  have e : sVB 3 i s = 3 :: intB i := rfl
  have hl : (a ++ sVB 3 i s ++ c).length = a.length + 10 + c.length := by rw [e]; simp [hO]; omega
  have r0 : rd (a ++ sVB 3 i s ++ c) (a.length : Int) = 3 := by rw [e, List.append_assoc]; exact hU _ _ _ rfl
  have g := getInt_put (a ++ [3]) c i z2_ z2_
  rw [show a ++ [3] ++ intB i ++ c = a ++ sVB 3 i s ++ c from by rw [e]; simp, len_one a 3] at g
  rw [if_pos z2_, if_neg z2_, r0, if_neg z4_, if_neg z4_, if_pos rfl, g, if_pos rfl, hs, show sVB 3 i ⟨#[]⟩ = 3 :: intB i from rfl, List.length_cons, hO]
  simp only [Prod.mk.injEq, true_and, and_true]
  omega
 by_cases h4 : k = 4
 ·
  subst h4
  have hi : i = 0 := by omega
  have e : sVB 4 i s = 4 :: (s.size : Int) :: bytesOf s := rfl
  have hl : (a ++ sVB 4 i s ++ c).length = a.length + 2 + s.size + c.length := by rw [e]; simp [dV]; omega
  have r0 : rd (a ++ sVB 4 i s ++ c) (a.length : Int) = 4 := by rw [e, List.append_assoc]; exact hU _ _ _ rfl
  have g := getText_put (a ++ [4]) c s z2_
  rw [show a ++ [4] ++ (s.size : Int) :: bytesOf s ++ c = a ++ sVB 4 i s ++ c from by rw [e]; simp, len_one a 4] at g
  rw [if_pos z2_, if_neg z2_, r0, if_neg z4_, if_neg z4_, if_neg z4_, if_pos rfl, g, if_pos rfl, hi, show sVB 4 0 s = 4 :: (s.size : Int) :: bytesOf s from rfl, List.length_cons, List.length_cons, dV]
  simp only [Prod.mk.injEq, true_and, and_true]
  omega
 have h1 : k = 1 := by omega
 subst h1
 have hs := jL (s := s) z2_
 have hi : i = 0 := by omega
 have e : sVB 1 i s = [1] := rfl
 have hl : (a ++ sVB 1 i s ++ c).length = a.length + 1 + c.length := by rw [e]; simp; omega
 have r0 : rd (a ++ sVB 1 i s ++ c) (a.length : Int) = 1 := by rw [e, List.append_assoc]; exact hU _ _ _ rfl
 rw [if_pos z2_, if_neg z2_, r0, if_pos rfl, hs, hi]
 rfl
theorem vread_sub {l : List Int} {at_ : Int} (hb : Bytes l) (h : (sVRead l at_).2.2.2.2 = 0) :
  vOk (sVRead l at_).1 (sVRead l at_).2.1 (sVRead l at_).2.2.1 ∧ 0 ≤ at_ ∧ at_ ≤ (sVRead l at_).2.2.2.1 ∧ (sVRead l at_).2.2.2.1 ≤ l.length ∧
  sVB (sVRead l at_).1 (sVRead l at_).2.1 (sVRead l at_).2.2.1 = sub l at_.toNat (sVRead l at_).2.2.2.1.toNat := by
 by_cases h1 : 0 ≤ at_ ∧ at_ ≤ l.length
 rotate_left
 ·
  unfold sVRead at h; rw [if_neg h1] at h; simp [bad] at h
 by_cases h2 : at_ = l.length
 ·
  unfold sVRead at h; rw [if_pos h1, if_pos h2] at h; simp [bad] at h
 have hr := hb.rd at_
 unfold Byte at hr
 obtain ⟨i, rfl⟩ := Int.eq_ofNat_of_zero_le h1.1
 have c1 : ∀ j, i < j → j ≤ l.length → sub l i j = rd l (i : Int) :: sub l (i + 1) j := fun j a b => iA a b
 by_cases k1 : rd l (i : Int) = 1
 ·
  have e : sVRead l i = (1, 0, ⟨#[]⟩, (i : Int) + 1, 0) := by unfold sVRead; rw [if_pos h1, if_neg h2, if_pos k1]
  rw [e]
  refine ⟨.inl ⟨rfl, rfl, rfl⟩, by omega, by simp only; omega, by simp only; omega, ?_⟩
  simp only
  rw [show ((i : Int) + 1).toNat = i + 1 from by omega, Int.toNat_natCast, c1 _ z2_ z2_, k1]
  have : sub l (i + 1) (i + 1) = [] := List.eq_nil_of_length_eq_zero (by rw [eT z2_]; omega)
  rw [this]; rfl
 by_cases k2 : rd l (i : Int) = 2
 ·
  have hr1 := hb.rd ((i : Int) + 1)
  unfold Byte at hr1
  by_cases h3 : (i : Int) + 1 < l.length ∧ rd l ((i : Int) + 1) ≤ 1
  rotate_left
  ·
   unfold sVRead at h; rw [if_pos h1, if_neg h2, if_neg k1, if_pos k2, if_neg h3] at h; simp [bad] at h
  have e : sVRead l i = (2, rd l ((i : Int) + 1), ⟨#[]⟩, (i : Int) + 2, 0) := by unfold sVRead; rw [if_pos h1, if_neg h2, if_neg k1, if_pos k2, if_pos h3]
  rw [e]
  refine ⟨.inr (.inl ⟨rfl, by simp only; omega, rfl⟩), by omega, by simp only; omega, by simp only; omega, ?_⟩
  simp only
  rw [show ((i : Int) + 2).toNat = i + 2 from by omega, Int.toNat_natCast, c1 _ z2_ z2_, k2, iA z2_ z2_]
  have : sub l (i + 1 + 1) (i + 2) = [] := List.eq_nil_of_length_eq_zero (by rw [eT z2_]; omega)
  rw [this]; rfl
 by_cases k3 : rd l (i : Int) = 3
 ·
  by_cases h3 : (sGetInt l ((i : Int) + 1)).2.2 = 0
  rotate_left
  ·
   unfold sVRead at h; rw [if_pos h1, if_neg h2, if_neg k1, if_neg k2, if_pos k3, if_neg h3] at h; simp [bad] at h
  have e : sVRead l i = (3, (sGetInt l ((i : Int) + 1)).1, ⟨#[]⟩, (sGetInt l ((i : Int) + 1)).2.1, 0) := by unfold sVRead; rw [if_pos h1, if_neg h2, if_neg k1, if_neg k2, if_pos k3, if_pos h3]
  have hbd := (getInt_bd h3).resolve_right (fun h => h hb)
  obtain ⟨g1, g2, g3⟩ := getInt_sub hb h3
  rw [e]
  refine ⟨.inr (.inr (.inl ⟨rfl, hbd, rfl⟩)), by omega, by simp only; omega, by simp only; omega, ?_⟩
  simp only
  rw [g1, show ((i : Int) + 1 + 9).toNat = i + 10 from by omega, Int.toNat_natCast, c1 _ z2_ z2_, k3]
  rw [show ((i : Int) + 1).toNat = i + 1 from by omega, show ((i : Int) + 1 + 9).toNat = i + 10 from by omega] at g3
  rw [← g3]; rfl
 by_cases k4 : rd l (i : Int) = 4
 rotate_left
 ·
  unfold sVRead at h; rw [if_pos h1, if_neg h2, if_neg k1, if_neg k2, if_neg k3, if_neg k4] at h; simp [bad] at h
 by_cases h3 : (sGetText l ((i : Int) + 1)).2.2 = 0
 rotate_left
 ·
  unfold sVRead at h; rw [if_pos h1, if_neg h2, if_neg k1, if_neg k2, if_neg k3, if_pos k4, if_neg h3] at h; simp [bad] at h
 have e : sVRead l i = (4, 0, (sGetText l ((i : Int) + 1)).1, (sGetText l ((i : Int) + 1)).2.1, 0) := by unfold sVRead; rw [if_pos h1, if_neg h2, if_neg k1, if_neg k2, if_neg k3, if_pos k4, if_pos h3]
 have hbd := jU hb h3
 obtain ⟨g1, g2, g3⟩ := getText_sub hb h3
 rw [e]
 refine ⟨.inr (.inr (.inr ⟨rfl, rfl, hbd⟩)), by omega, by simp only; omega, by simp only; omega, ?_⟩
 simp only
 rw [show ((i : Int) + 1).toNat = i + 1 from by omega] at g3
 rw [Int.toNat_natCast, c1 _ z2_ z2_, k4, ← g3]; rfl
theorem sVB_bytes {k i : Int} {s : ByteArray} (ho : vOk k i s) : Bytes (sVB k i s) := by
 unfold vOk at ho
 unfold sVB
 repeat' split
 ·
  exact Bytes.cons ⟨by decide, by decide⟩ (Bytes.cons ⟨by omega, by omega⟩ Bytes.nil)
 ·
  exact Bytes.cons ⟨by decide, by decide⟩ (intB_bytes _)
 ·
  exact Bytes.cons ⟨by decide, by decide⟩ (Bytes.cons ⟨by omega, by omega⟩ (jM _))
 ·
  exact Bytes.cons ⟨by decide, by decide⟩ Bytes.nil
theorem sVB_length {k i : Int} {s : ByteArray} (ho : vOk k i s) : (sVB k i s).length = if k = 2 then 2 else if k = 3 then 10 else if k = 4 then 2 + s.size else 1 := by
 unfold sVB
 repeat' split
 all_goals simp [hO, dV]
 omega
end Go.Proofs.Ytcbfliajgopdaaa.Plain
end
section
namespace Go.Proofs.Ytcbfliajgopdaaa.Plain
open Go.RowKit PAll PrintWords PrintLast PrintMore ZipT PrintWords.Kd PrintMore.Kd
set_option linter.unusedVariables false
set_option linter.unusedSimpArgs false
def isLong (v : S89) : Bool := decide ((v.f2.size : Int) > 300)
theorem long_l0 (l : List S89) (hl : l.length ≤ 1000000) (m : List S89) : ∀ (k i : Nat), l.drop i = m → m.length < k → cA.l0 k l (i : Int) = some (m.any isLong) := by
 induction m with
 | nil =>
  intro k i h hk
  obtain ⟨k, rfl⟩ : ∃ j, k = j + 1 := ⟨k - 1, by simp at hk; omega⟩
  have := List.drop_eq_nil_iff.1 h
  simp only [cA.l0]
  rw [if_neg z2_]; rfl
 | cons v m ih =>
  intro k i h hk
  obtain ⟨k, rfl⟩ : ∃ j, k = j + 1 := ⟨k - 1, by simp at hk; omega⟩
  have hi : i < l.length := by
   rcases Nat.lt_or_ge i l.length with h1 | h1
   ·
    exact h1
   ·
    rw [List.drop_eq_nil_iff.2 h1] at h; cases h
  have hr : bF l (i : Int) = v := by
   show l.getD ((i : Int).toNat) _ = v
   rw [Int.toNat_natCast, List.getD_eq_getElem?_getD]
   have : l[i]? = (l.drop i)[0]? := by rw [List.getElem?_drop]; simp
   rw [this, h]; rfl
  have ht : l.drop (i + 1) = m := by rw [← List.drop_drop, h]; rfl
  have := ih k (i + 1) ht (by simp at hk; omega)
  simp only [cA.l0]
  rw [if_pos z2_, if_pos z2_, hr, w64 z2_ z2_, show ((i : Int) + 1) = ((i + 1 : Nat) : Int) from rfl, this]
  by_cases hv : (v.f2.size : Int) > 300
  ·
   rw [if_pos hv]; simp [isLong, hv]
  rw [if_neg hv]; simp [isLong, hv]
theorem long_eq (k : Nat) (l : List S89) (hl : l.length ≤ 1000000) (hk : l.length + 1 ≤ k) : cA.f k l = some (l.any isLong) := by
 unfold cA.f
 have := long_l0 l hl l k 0 rfl z2_
 simpa using this
end Go.Proofs.Ytcbfliajgopdaaa.Plain
end
section
namespace Go.Proofs.Ytcbfliajgopdaaa.Plain
open Go.RowKit PAll PrintWords PrintLast PrintMore ZipT PrintWords.Kd PrintMore.Kd
set_option linter.unusedVariables false
set_option linter.unusedSimpArgs false
abbrev V := S89
theorem dC {α : Type} {l : List α} {i : Nat} {v : α} {m : List α} (h : l.drop i = v :: m) : i < l.length := by
 rcases Nat.lt_or_ge i l.length with h1 | h1
 ·
  exact h1
 ·
  rw [List.drop_eq_nil_iff.2 h1] at h; cases h
theorem bY {α : Type} {l : List α} {i : Nat} {v : α} {m : List α} (h : l.drop i = v :: m) : l.drop (i + 1) = m := by
 rw [← List.drop_drop, h]; rfl
theorem cG {α : Type} {l : List α} {i : Nat} (h : l.drop i = []) : l.length ≤ i := List.drop_eq_nil_iff.1 h
theorem jA {l : List V} {i : Nat} {v : V} {m : List V} (h : l.drop i = v :: m) : bF l (i : Int) = v := by
 show l.getD ((i : Int).toNat) _ = v
 rw [Int.toNat_natCast, List.getD_eq_getElem?_getD]
 have : l[i]? = (l.drop i)[0]? := by rw [List.getElem?_drop]; simp
 rw [this, h]; rfl
theorem rdI_drop {l : List Int} {i : Nat} {v : Int} {m : List Int} (h : l.drop i = v :: m) : rd l (i : Int) = v := gC h
theorem V_ext {a b : V} (h0 : a.f0 = b.f0) (h1 : a.f1 = b.f1) (h2 : a.f2 = b.f2) : a = b := by cases a; cases b; simp_all
instance : DecidableEq V := fun a b => decidable_of_iff (a.f0 = b.f0 ∧ a.f1 = b.f1 ∧ a.f2 = b.f2) ⟨fun ⟨h0, h1, h2⟩ => V_ext h0 h1 h2, fun h => by subst h; exact ⟨rfl, rfl, rfl⟩⟩
def okV (v : V) : Prop := vOk v.f0 v.f1 v.f2
instance (v : V) : Decidable (okV v) := by unfold okV; infer_instance
def okR (l : List V) : Bool := l.all fun v => decide (okV v)
def rowE (l : List V) : Int := if l.length > 12 then 2 else if okR l = true then 0 else 1
theorem gN (l : List V) : rowE l = 0 ↔ l.length ≤ 12 ∧ ∀ v ∈ l, okV v := by
 unfold rowE okR
 by_cases h : l.length > 12
 ·
  rw [if_pos h]; constructor
  ·
   intro h; omega
  ·
   intro h; omega
 rw [if_neg h]
 by_cases h2 : (l.all fun v => decide (okV v)) = true
 rotate_left
 ·
  rw [if_neg h2]
  refine ⟨fun h => by omega, fun ⟨_, h3⟩ => absurd (List.all_eq_true.2 fun v hv => decide_eq_true (h3 v hv)) h2⟩
 rw [if_pos h2]
 refine ⟨fun _ => ⟨by omega, fun v hv => ?_⟩, fun _ => rfl⟩
 have := List.all_eq_true.1 h2 v hv
 exact of_decide_eq_true this
theorem wrong_eq (v : V) : fY.f v.f0 v.f1 v.f2 = some (!decide (okV v)) := by
 unfold fY.f okV
 rw [iD, Option.bind_some]
 by_cases h : vOk v.f0 v.f1 v.f2
 ·
  rw [if_pos h, decide_eq_true h]; rfl
 rw [if_neg h, decide_eq_false h]; rfl
theorem index_wrong (l : List V) (hl : l.length ≤ 1000000) (m : List V) : ∀ (k i : Nat), l.drop i = m → m.length < k →
  ∃ r, bE.l0 k l (l.length : Int) (i : Int) = some r ∧ (r ≥ 0 ↔ m.all (fun v => decide (okV v)) = false) := by
 induction m with
 | nil =>
  intro k i h hk
  obtain ⟨k, rfl⟩ : ∃ j, k = j + 1 := ⟨k - 1, by omega⟩
  have := cG h
  refine ⟨-1, ?_, by simp⟩
  simp only [bE.l0]
  rw [if_neg z2_]
 | cons v m ih =>
  intro k i h hk
  obtain ⟨k, rfl⟩ : ∃ j, k = j + 1 := ⟨k - 1, by omega⟩
  have hi := dC h
  simp only [bE.l0]
  rw [if_pos z2_, if_pos z2_, if_pos z2_, jA h, wrong_eq, Option.bind_some]
  by_cases ho : okV v
  rotate_left
  ·
   refine ⟨i, ?_, ?_⟩
   ·
    rw [decide_eq_false ho, if_pos z4_]
   ·
    simp [ho]
  obtain ⟨r, h1, h2⟩ := ih k (i + 1) (bY h) (by simp at hk; omega)
  refine ⟨r, ?_, ?_⟩
  ·
   rw [decide_eq_true ho, if_neg z4_, w64 z2_ z2_]; exact h1
  ·
   rw [h2]; simp [ho]
theorem rcheck_eq (k : Nat) (l : List V) (hl : l.length ≤ 1000000) (hk : l.length + 1 ≤ k) : fR.f k l = some (rowE l) := by
 unfold fR.f rowE
 by_cases h : (l.length : Int) > 12
 ·
  rw [if_pos h, if_pos z2_]
 obtain ⟨r, h1, h2⟩ := index_wrong l hl l k 0 rfl z2_
 rw [if_neg h, if_neg z2_]
 unfold cK.f bE.f
 rw [show ((0 : Nat) : Int) = 0 from rfl] at h1
 rw [h1, Option.bind_some, Option.bind_some]
 unfold okR
 cases hz : (l.all fun v => decide (okV v))
 ·
  rw [hz] at h2; rw [decide_eq_true (h2.2 rfl)]; simp
 ·
  rw [hz] at h2; rw [decide_eq_false (fun h => by simpa using h2.1 h)]; simp
theorem refRow_l0 (l : List V) (hl : l.length ≤ 1000000) (m : List V) : ∀ (k i : Nat), l.drop i = m → m.length < k →
  cM.l0 k l (i : Int) = some (if m.all (fun v => decide (okV v)) = true then 0 else 1) := by
 induction m with
 | nil =>
  intro k i h hk
  obtain ⟨k, rfl⟩ : ∃ j, k = j + 1 := ⟨k - 1, by omega⟩
  have := cG h
  simp only [cM.l0]
  rw [if_neg z2_]; rfl
 | cons v m ih =>
  intro k i h hk
  obtain ⟨k, rfl⟩ : ∃ j, k = j + 1 := ⟨k - 1, by omega⟩
  have hi := dC h
  simp only [cM.l0]
  rw [if_pos z2_, if_pos z2_, jA h, rvalue_eq, Option.bind_some]
  by_cases ho : okV v
  rotate_left
  ·
   rw [decide_eq_false (show ¬ vOk v.f0 v.f1 v.f2 from ho), if_neg z4_]
   simp [ho]
  rw [decide_eq_true (show vOk v.f0 v.f1 v.f2 from ho), if_pos rfl, w64 z2_ z2_]
  have := ih k (i + 1) (bY h) (by simp at hk; omega)
  rw [show ((i : Int) + 1) = ((i + 1 : Nat) : Int) from rfl, this]
  simp [ho]
theorem refRow_eq (k : Nat) (l : List V) (hl : l.length ≤ 1000000) (hk : l.length + 1 ≤ k) : cM.f k l = some (rowE l) := by
 unfold cM.f rowE
 by_cases h : (l.length : Int) > 12
 ·
  rw [if_pos h, if_pos z2_]
 rw [if_neg h, if_neg z2_]
 have := refRow_l0 l hl l k 0 rfl z2_
 exact this
def vB (v : V) : List Int := sVB v.f0 v.f1 v.f2
def rowVs (l : List V) : List Int := l.flatMap vB
def rowB (l : List V) : List Int := (l.length : Int) :: rowVs l
theorem vB_len {v : V} (h : okV v) : 1 ≤ (vB v).length ∧ (vB v).length ≤ 26 := by
 unfold vB; rw [sVB_length h]; unfold okV vOk at h; repeat' split
 all_goals omega
theorem rowVs_len (l : List V) (h : ∀ v ∈ l, okV v) : (rowVs l).length ≤ l.length * 26 ∧ l.length ≤ (rowVs l).length := by
 induction l with
 | nil => simp [rowVs]
 | cons v l ih =>
  have h1 := vB_len (h v List.mem_cons_self)
  have h2 := ih fun x hx => h x (List.mem_cons_of_mem _ hx)
  simp only [rowVs, List.flatMap_cons, List.length_append, List.length_cons] at *
  omega
theorem rowVs_bytes (l : List V) (h : ∀ v ∈ l, okV v) : Bytes (rowVs l) := by
 induction l with
 | nil => exact Bytes.nil
 | cons v l ih =>
  simp only [rowVs, List.flatMap_cons]
  exact (sVB_bytes (h v List.mem_cons_self)).append (ih fun x hx => h x (List.mem_cons_of_mem _ hx))
theorem rowBytes_l0 (l : List V) (hl : l.length ≤ 1000) (ho : ∀ v ∈ l, okV v) (m : List V) : ∀ (k i : Nat) (out : List Int), l.drop i = m → out.length + m.length * 26 ≤ 1000000 → m.length + 40 ≤ k →
    row_Bytes.l0 k out l (l.length : Int) (i : Int) = some (out ++ rowVs m, 0) := by
  induction m with
  | nil =>
    intro k i out h hb hk
    obtain ⟨k, rfl⟩ : ∃ j, k = j + 1 := ⟨k - 1, by omega⟩
    have := cG h
    simp only [row_Bytes.l0]
    rw [if_neg z2_]; simp [rowVs]
  | cons v m ih =>
    intro k i out h hb hk
    obtain ⟨k, rfl⟩ : ∃ j, k = j + 1 := ⟨k - 1, by omega⟩
    have hi := dC h
    have hv : okV v := ho v (by have : v ∈ l.drop i := by rw [h]; exact List.mem_cons_self
                                exact List.mem_of_mem_drop this)
    have hvl := vB_len hv
    simp only [List.length_cons] at hb hk
    simp only [row_Bytes.l0]
    rw [if_pos z2_, if_pos z2_, if_pos z2_, jA h, vbytes_eq _ _ _ _ z2_, if_pos (show vOk v.f0 v.f1 v.f2 from hv), Option.bind_some]
    simp only
    rw [if_pos (by show out.length + (vB v).length < _; omega), w64 z2_ z2_]
    have := ih k (i + 1) (out ++ vB v) (bY h) (by rw [List.length_append]; omega) z2_
    rw [show ((i : Int) + 1) = ((i + 1 : Nat) : Int) from rfl]
    refine Eq.trans this ?_
    simp [rowVs]
theorem rowBytes_eq (k : Nat) (l : List V) (hl : l.length ≤ 1000000) (hk : l.length + 60 ≤ k) : row_Bytes.f k l = some (if rowE l = 0 then (rowB l, 0) else ([], rowE l)) := by
 unfold row_Bytes.f
 rw [rcheck_eq k l hl z2_, Option.bind_some]
 by_cases h : rowE l = 0
 rotate_left
 ·
  rw [if_neg h, if_neg h]
 obtain ⟨h1, h2⟩ := (gN l).1 h
 have hz := rowBytes_l0 l z2_ h2 l k 0 [((l.length : Int)) % 256] rfl (by rw [List.length_singleton]; omega) z2_
 rw [show ((0 : Nat) : Int) = 0 from rfl] at hz
 rw [if_pos h, if_pos h, hz]
 have : (l.length : Int) % 256 = l.length := by omega
 rw [this]; rfl
def vals (l : List Int) : Nat → Int → List V → List V × Int × Int
 | 0, at_, acc => (acc, at_, 0)
 | n + 1, at_, acc => if (sVRead l at_).2.2.2.2 = 0 then vals l n (sVRead l at_).2.2.2.1 (acc ++ [⟨(sVRead l at_).1, (sVRead l at_).2.1, (sVRead l at_).2.2.1⟩]) else ([], 0, 3)
def sRowRead (l : List Int) (at_ : Int) : List V × Int × Int :=
 if 0 ≤ at_ ∧ at_ ≤ l.length then (if at_ = l.length ∨ rd l at_ > 12 then ([], 0, 3) else vals l (rd l at_).toNat (at_ + 1) []) else ([], 0, 1)
theorem rowRead_l0 (l : List Int) (hb : Bytes l) (hl : l.length ≤ 1000000) (many : Nat) (hm : many ≤ 12) (n : Nat) : ∀ (k : Nat) (at_ : Int) (acc : List V), n ≤ many → 0 ≤ at_ → at_ ≤ l.length → acc.length + n ≤ 100 → n + 40 ≤ k →
  row_Read.l0 k l acc at_ (many : Int) ((many - n : Nat) : Int) = some (vals l n at_ acc) := by
 induction n with
 | zero =>
  intro k at_ acc hn h0 h1 ha hk
  obtain ⟨k, rfl⟩ : ∃ j, k = j + 1 := ⟨k - 1, by omega⟩
  simp only [row_Read.l0]
  rw [if_neg z2_]; rfl
 | succ n ih =>
  intro k at_ acc hn h0 h1 ha hk
  obtain ⟨k, rfl⟩ : ∃ j, k = j + 1 := ⟨k - 1, by omega⟩
  simp only [row_Read.l0, vals]
  rw [if_pos z2_, vread_eq _ _ _ hb hl z2_ z2_, Option.bind_some]
  by_cases hz : (sVRead l at_).2.2.2.2 = 0
  rotate_left
  ·
   rw [if_neg hz, if_neg hz]
  obtain ⟨_, _, h3, h4, _⟩ := vread_sub hb hz
  rw [if_pos hz, if_pos hz, if_pos z2_, w64 z2_ z2_, show (((many - (n + 1) : Nat) : Int) + 1) = ((many - n : Nat) : Int) from by omega]
  exact ih k _ _ z2_ z2_ h4 (by rw [List.length_append, List.length_singleton]; omega) z2_
theorem rowRead_eq (k : Nat) (l : List Int) (at_ : Int) (hb : Bytes l) (hl : l.length ≤ 1000000) (ha : at_ ≤ 9223372036854775807) (hk : 80 ≤ k) : row_Read.f k l at_ = some (sRowRead l at_) := by
 unfold row_Read.f sRowRead
 rw [get_eq _ _ _ _ hb hl ha z2_, Option.bind_some, sGet_one]
 by_cases h : 0 ≤ at_ ∧ at_ ≤ l.length
 rotate_left
 ·
  rw [if_neg h, if_neg h, if_neg z4_]
 rw [if_pos h, if_pos h]
 have hr := hb.rd at_
 unfold Byte at hr
 by_cases h2 : at_ = l.length
 ·
  rw [if_pos h2, if_neg (show ¬ (((0, 0, 3) : Int × Int × Int).2.2 = 0) by decide), if_pos (Or.inl h2)]
 rw [if_neg h2]
 simp only
 rw [if_pos trivial]
 by_cases h3 : rd l at_ > 12
 ·
  rw [if_pos h3, if_pos (Or.inr h3)]
 rw [if_neg h3, if_neg z2_]
 have := rowRead_l0 l hb hl (rd l at_).toNat z2_ (rd l at_).toNat k (at_ + 1) [] z2_ z2_ z2_ (by simp; omega) z2_
 rw [Nat.sub_self, Int.toNat_of_nonneg hr.1] at this
 exact this
end Go.Proofs.Ytcbfliajgopdaaa.Plain
end
section
namespace Go.Proofs.Ytcbfliajgopdaaa.Plain
open Go.RowKit PAll PrintWords PrintLast PrintMore ZipT PrintWords.Kd PrintMore.Kd
set_option linter.unusedVariables false
set_option linter.unusedSimpArgs false
theorem keepRow_l0 (a b : List V) (ha : a.length ≤ 1000000) (hl : a.length = b.length) (m : List V) : ∀ (k i : Nat), a.drop i = m → m.length < k →
  bQ.l0 k a b (i : Int) = some (decide (m = b.drop i)) := by
 induction m with
 | nil =>
  intro k i h hk
  obtain ⟨k, rfl⟩ : ∃ j, k = j + 1 := ⟨k - 1, by omega⟩
  have h1 := cG h
  simp only [bQ.l0]
  rw [if_neg z2_, List.drop_eq_nil_iff.2 z2_]; simp
 | cons v m ih =>
  intro k i h hk
  obtain ⟨k, rfl⟩ : ∃ j, k = j + 1 := ⟨k - 1, by omega⟩
  have h1 := dC h
  simp only [bQ.l0]
  cases hd : b.drop i with
  | nil => have h2 := cG hd; omega
  | cons t n =>
   rw [if_pos z2_, if_pos z2_, if_pos z2_, jA h, jA hd, jY, Option.bind_some, w64 z2_ z2_]
   by_cases hz : v.f0 = t.f0 ∧ v.f1 = t.f1 ∧ v.f2 = t.f2
   rotate_left
   ·
    have hv : v ≠ t := fun e => hz (by subst e; exact ⟨rfl, rfl, rfl⟩)
    rw [decide_eq_false hz, if_neg z4_]
    simp [hv]
   have hv : v = t := V_ext hz.1 hz.2.1 hz.2.2
   have := ih k (i + 1) (bY h) (by simp at hk; omega)
   rw [decide_eq_true hz, if_pos rfl, show ((i : Int) + 1) = ((i + 1 : Nat) : Int) from rfl, this, bY hd, hv]
   simp
theorem keepRow_eq (k : Nat) (a b : List V) (ha : a.length ≤ 1000000) (hk : a.length + 1 ≤ k) : bQ.f k a b = some (decide (a = b)) := by
 unfold bQ.f
 by_cases hl : (a.length : Int) = b.length
 rotate_left
 ·
  rw [if_neg hl, decide_eq_false (fun e => hl (by rw [e]))]
 rw [if_pos hl]
 exact keepRow_l0 a b ha z2_ a k 0 rfl z2_
theorem keepInts_l0 (a b : List Int) (ha : a.length ≤ 1000000) (hl : a.length = b.length) (m : List Int) : ∀ (k i : Nat), a.drop i = m → m.length < k →
  bH.l0 k a b (i : Int) = some (decide (m = b.drop i)) := by
 induction m with
 | nil =>
  intro k i h hk
  obtain ⟨k, rfl⟩ : ∃ j, k = j + 1 := ⟨k - 1, by omega⟩
  have h1 := cG h
  simp only [bH.l0]
  rw [if_neg z2_, List.drop_eq_nil_iff.2 z2_]; simp
 | cons v m ih =>
  intro k i h hk
  obtain ⟨k, rfl⟩ : ∃ j, k = j + 1 := ⟨k - 1, by omega⟩
  have h1 := dC h
  simp only [bH.l0]
  cases hd : b.drop i with
  | nil => have h2 := cG hd; omega
  | cons t n =>
   rw [if_pos z2_, if_pos z2_, if_pos z2_, rdI_drop h, rdI_drop hd, w64 z2_ z2_]
   by_cases hz : v = t
   rotate_left
   ·
    rw [if_neg hz]
    simp [hz]
   have := ih k (i + 1) (bY h) (by simp at hk; omega)
   rw [if_pos hz, show ((i : Int) + 1) = ((i + 1 : Nat) : Int) from rfl, this, bY hd, hz]
   simp
theorem keepInts_eq (k : Nat) (a b : List Int) (ha : a.length ≤ 1000000) (hk : a.length + 1 ≤ k) : bH.f k a b = some (decide (a = b)) := by
 unfold bH.f
 by_cases hl : (a.length : Int) = b.length
 rotate_left
 ·
  rw [if_neg hl, decide_eq_false (fun e => hl (by rw [e]))]
 rw [if_pos hl]
 exact keepInts_l0 a b ha z2_ a k 0 rfl z2_
def heavy (l : List V) : Bool := decide ((l.length : Int) > 40) || l.any isLong
theorem iO (k : Nat) (l : List V) (hk : 60 ≤ k) : cV.f k l = some (heavy l) := by
 unfold cV.f heavy
 by_cases h : (l.length : Int) > 40
 ·
  rw [if_pos h, decide_eq_true h]; rfl
 rw [if_neg h, decide_eq_false h, long_eq _ _ z2_ z2_]; rfl
theorem heavy_len {l : List V} (h : ¬ heavy l = true) : l.length ≤ 40 := by
 unfold heavy at h
 simp at h
 omega
end Go.Proofs.Ytcbfliajgopdaaa.Plain
end
section
namespace Go.Proofs.Ytcbfliajgopdaaa.Plain
open Go.RowKit PAll PrintWords PrintLast PrintMore ZipT PrintWords.Kd PrintMore.Kd
set_option linter.unusedVariables false
set_option linter.unusedSimpArgs false
theorem rowB_bytes {l : List V} (h : rowE l = 0) : Bytes (rowB l) := by
 obtain ⟨h1, h2⟩ := (gN l).1 h
 exact Bytes.cons ⟨by omega, by omega⟩ (rowVs_bytes l h2)
theorem rowB_len {l : List V} (h : rowE l = 0) : (rowB l).length ≤ 400 := by
 obtain ⟨h1, h2⟩ := (gN l).1 h
 have := rowVs_len l h2
 simp only [rowB, List.length_cons]; omega
theorem vals_put (m : List V) : ∀ (pre c : List Int) (acc : List V), (∀ v ∈ m, okV v) → vals (pre ++ rowVs m ++ c) m.length pre.length acc = (acc ++ m, ((pre ++ rowVs m).length : Int), 0) := by
 induction m with
 | nil => intro pre c acc h; simp [vals, rowVs]
 | cons v m ih =>
  intro pre c acc h
  have hv := h v List.mem_cons_self
  have e : pre ++ rowVs (v :: m) ++ c = pre ++ sVB v.f0 v.f1 v.f2 ++ (rowVs m ++ c) := by simp [rowVs, vB]
  have g := vread_put pre (rowVs m ++ c) v.f0 v.f1 v.f2 hv
  rw [← e] at g
  simp only [List.length_cons, vals]
  rw [g, if_pos rfl]
  have e2 : pre ++ rowVs (v :: m) ++ c = (pre ++ vB v) ++ rowVs m ++ c := by simp [rowVs]
  have := ih (pre ++ vB v) c (acc ++ [v]) (fun x hx => h x (List.mem_cons_of_mem _ hx))
  rw [← e2, List.length_append] at this
  simp only
  show vals _ m.length ((pre.length : Int) + ((vB v).length : Int)) (acc ++ [v]) = _
  rw [show ((pre.length : Int) + ((vB v).length : Int)) = ((pre.length + (vB v).length : Nat) : Int) from rfl, this]
  simp [rowVs]
end Go.Proofs.Ytcbfliajgopdaaa.Plain
end
section
namespace Go.Proofs.Ytcbfliajgopdaaa.Plain
open Go.RowKit PAll PrintWords PrintLast PrintMore ZipT PrintWords.Kd PrintMore.Kd
set_option linter.unusedVariables false
set_option linter.unusedSimpArgs false
theorem sub_sub (l : List Int) (a b c : Nat) (h1 : a ≤ b) (h2 : b ≤ c) (h3 : c ≤ l.length) : sub l a b ++ sub l b c = sub l a c := by
 unfold sub
 have e : l.take b = (l.take c).take b := by rw [List.take_take, Nat.min_eq_left h2]
 rw [e]
 generalize l.take c = x
 rw [List.drop_take]
 have : x.drop b = (x.drop a).drop (b - a) := by rw [List.drop_drop]; congr 1; omega
 rw [this, List.take_append_drop]
theorem vals_sub (l : List Int) (hb : Bytes l) (n : Nat) : ∀ (at_ : Int) (acc : List V), 0 ≤ at_ → at_ ≤ l.length → (vals l n at_ acc).2.2 = 0 →
  ∃ m : List V, (vals l n at_ acc).1 = acc ++ m ∧ m.length = n ∧ (∀ v ∈ m, okV v) ∧ at_ ≤ (vals l n at_ acc).2.1 ∧ (vals l n at_ acc).2.1 ≤ l.length ∧ rowVs m = sub l at_.toNat (vals l n at_ acc).2.1.toNat := by
 induction n with
 | zero =>
  intro at_ acc h0 h1 h
  refine ⟨[], by simp [vals], rfl, by simp, Int.le_refl _, h1, ?_⟩
  symm; apply List.eq_nil_of_length_eq_zero
  simp only [vals]
  rw [eT z2_]; omega
 | succ n ih =>
  intro at_ acc h0 h1 h
  simp only [vals] at h ⊢
  by_cases hz : (sVRead l at_).2.2.2.2 = 0
  rotate_left
  ·
   rw [if_neg hz] at h; simp at h
  rw [if_pos hz] at h ⊢
  obtain ⟨ho, g0, g1, g2, g3⟩ := vread_sub hb hz
  obtain ⟨m, e1, e2, e3, e4, e5, e6⟩ := ih (sVRead l at_).2.2.2.1 (acc ++ [⟨(sVRead l at_).1, (sVRead l at_).2.1, (sVRead l at_).2.2.1⟩]) z2_ g2 h
  refine ⟨⟨(sVRead l at_).1, (sVRead l at_).2.1, (sVRead l at_).2.2.1⟩ :: m, by rw [e1]; simp, by simp [e2], ?_, by omega, e5, ?_⟩
  ·
   intro v hv
   rcases List.mem_cons.1 hv with rfl | hv
   ·
    exact ho
   ·
    exact e3 v hv
  ·
   have hs : rowVs ((⟨(sVRead l at_).1, (sVRead l at_).2.1, (sVRead l at_).2.2.1⟩ : V) :: m) = sVB (sVRead l at_).1 (sVRead l at_).2.1 (sVRead l at_).2.2.1 ++ rowVs m := by simp [rowVs, vB]
   rw [hs, g3, e6]
   exact sub_sub l _ _ _ z2_ z2_ z2_
end Go.Proofs.Ytcbfliajgopdaaa.Plain
end
section
namespace Go.Proofs.Ytcbfliajgopdaaa.Ops
open Go.RowKit PAll Plain PrintWords ZipT PrintWords.Kd PrintMore.Kd
set_option linter.unusedVariables false
set_option linter.unusedSimpArgs false
abbrev Ox := S54
abbrev Dt := S50
abbrev St := S26
abbrev Wr := List Int × Bool
def wAdd (s : Wr) (r : List Int × Int) : Wr := (s.1 ++ r.1, s.2 || decide (r.2 ≠ 0))
def wNum (n size : Int) (s : Wr) : Wr := wAdd s (sPut [] n size)
def wText (t : ByteArray) (s : Wr) : Wr := wAdd s (sPutText [] t)
def wOr (b : Bool) (s : Wr) : Wr := (s.1, s.2 || b)
def wAll {α : Type} (f : α → Wr → Wr) : List α → Wr → Wr
 | [], s => s
 | x :: l, s => wAll f l (f x s)
def wNums (l : List Int) (s : Wr) : Wr := wAll (fun n => wNum n 4) l (wNum l.length 1 (wOr (decide (l.length > 5)) s))
def wStamp (t : St) (s : Wr) : Wr := wNum t.f2 1 (wNum t.f1 3 (wNum t.f0 6 s))
def wDot (d : Dt) (s : Wr) : Wr := wNum d.f1 4 (wNum d.f0 1 s)
def wRow (l : List V) (s : Wr) : Wr := wAdd s (if rowE l = 0 then (rowB l, 0) else ([], rowE l))
def wHead (x : Ox) (s : Wr) : Wr := wNum x.f6 1 (wText x.f5 (wNum x.f4 1 (wStamp x.f2 (wNums x.f1 (wDot x.f0 (wNum x.f3 1 s))))))
def wOp (x : Ox) (s : Wr) : Wr := wAll wDot x.f8 (wNum x.f8.length 1 (wOr (decide (x.f8.length > 64)) (wRow x.f7 (wHead x s))))
def sOpBytes (x : Ox) : List Int × Int := if (wOp x ([], false)).2 = true then ([], 1) else ((wOp x ([], false)).1, 0)
abbrev Rr := Int × Bool
def rOf {α : Type} (z : α) (g : α × Int × Int) (r : Rr) : α × Rr := if r.2 = true ∨ g.2.2 ≠ 0 then (z, (r.1, true)) else (g.1, (g.2.1, false))
def rNum (size : Int) (l : List Int) (r : Rr) : Int × Rr := rOf 0 (sGet l r.1 size) r
def rText (l : List Int) (r : Rr) : ByteArray × Rr := rOf ⟨#[]⟩ (sGetText l r.1) r
def rRow (l : List Int) (r : Rr) : List V × Rr := rOf [] (sRowRead l r.1) r
def rMany (size most : Int) (l : List Int) (r : Rr) : Int × Rr := if (rNum size l r).1 > most then (0, ((rNum size l r).2.1, true)) else rNum size l r
def rTimes {α : Type} (f : List Int → Rr → α × Rr) (l : List Int) : Nat → List α → Rr → List α × Rr
 | 0, acc, r => (acc, r)
 | n + 1, acc, r => rTimes f l n (acc ++ [(f l r).1]) (f l r).2
def rNums (l : List Int) (r : Rr) : List Int × Rr := rTimes (rNum 4) l (rMany 1 5 l r).1.toNat [] (rMany 1 5 l r).2
def rStamp (l : List Int) (r : Rr) : St × Rr :=
 (⟨(rNum 6 l r).1, (rNum 3 l (rNum 6 l r).2).1, (rNum 1 l (rNum 3 l (rNum 6 l r).2).2).1⟩, (rNum 1 l (rNum 3 l (rNum 6 l r).2).2).2)
def rDot (l : List Int) (r : Rr) : Dt × Rr := (⟨(rNum 1 l r).1, (rNum 4 l (rNum 1 l r).2).1⟩, (rNum 4 l (rNum 1 l r).2).2)
def rDots (l : List Int) (r : Rr) : List Dt × Rr := rTimes rDot l (rMany 1 64 l r).1.toNat [] (rMany 1 64 l r).2
def zOp : Ox := ⟨⟨0, 0⟩, [], ⟨0, 0, 0⟩, 0, 0, ⟨#[]⟩, 0, [], []⟩
def rHead (l : List Int) (r : Rr) : Ox × Rr :=
 let a := rNum 1 l r
 let b := rDot l a.2
 let c := rNums l b.2
 let d := rStamp l c.2
 let e := rNum 1 l d.2
 let f := rText l e.2
 let g := rNum 1 l f.2
 (⟨b.1, c.1, d.1, a.1, e.1, f.1, g.1, [], []⟩, g.2)
def rOp (l : List Int) (r : Rr) : Ox × Rr :=
 if (rRow l (rHead l r).2).2.2 = true then (zOp, (rRow l (rHead l r).2).2)
 else ({ (rHead l r).1 with f7 := (rRow l (rHead l r).2).1, f8 := (rDots l (rRow l (rHead l r).2).2).1 }, (rDots l (rRow l (rHead l r).2).2).2)
def sOpRead (l : List Int) (at_ : Int) : Ox × Int × Int :=
 if at_ < 0 ∨ at_ > l.length then (zOp, 0, 1)
 else if (rOp l (at_, false)).2.2 = true then (zOp, 0, 3) else ((rOp l (at_, false)).1, (rOp l (at_, false)).2.1, 0)
end Go.Proofs.Ytcbfliajgopdaaa.Ops
end
section
namespace Go.Proofs.Ytcbfliajgopdaaa.Ops
open Go.RowKit PAll Plain PrintWords ZipT PrintWords.Kd PrintMore.Kd
set_option linter.unusedVariables false
set_option linter.unusedSimpArgs false
section
variable {α β : Type}
structure Writes (f : α → Wr → Wr) (enc : α → List Int) (fit : α → Prop) : Prop where
 ok : ∀ x s, fit x → f x s = (s.1 ++ enc x, s.2)
 no : ∀ x s, ¬ fit x → (f x s).2 = true
 stay : ∀ x s, s.2 = true → (f x s).2 = true
theorem Writes.comp {γ : Type} {f : α → Wr → Wr} {g : β → Wr → Wr} {e : α → List Int} {e' : β → List Int} {p : α → Prop} {p' : β → Prop} (hf : Writes f e p) (hg : Writes g e' p') (a : γ → α) (b : γ → β) :
  Writes (fun x s => g (b x) (f (a x) s)) (fun x => e (a x) ++ e' (b x)) (fun x => p (a x) ∧ p' (b x)) where
 ok := fun x s h => by rw [hf.ok _ _ h.1, hg.ok _ _ h.2, List.append_assoc]
 no := fun x s h => by
  by_cases h1 : p (a x)
  ·
   exact hg.no _ _ (fun e => h ⟨h1, e⟩)
  ·
   exact hg.stay _ _ (hf.no _ _ h1)
 stay := fun x s h => hg.stay _ _ (hf.stay _ _ h)
theorem Writes.all {f : α → Wr → Wr} {e : α → List Int} {p : α → Prop} (hf : Writes f e p) : Writes (wAll f) (fun l => l.flatMap e) (fun l => ∀ x ∈ l, p x) where
 ok := fun l => by
  induction l with
  | nil => intro s _; simp [wAll]
  | cons x l ih =>
   intro s h
   rw [wAll, hf.ok _ _ (h x List.mem_cons_self), ih _ (fun y hy => h y (List.mem_cons_of_mem _ hy)), List.flatMap_cons, List.append_assoc]
 no := fun l => by
  induction l with
  | nil => intro s h; exact absurd (fun x hx => by cases hx) h
  | cons x l ih =>
   intro s h
   rw [wAll]
   by_cases h1 : ∀ y ∈ l, p y
   ·
    have h2 : ¬ p x := fun e => h (fun y hy => by rcases List.mem_cons.1 hy with rfl | hy; exact e; exact h1 y hy)
    have : ∀ (l : List α) (s : Wr), s.2 = true → (wAll f l s).2 = true := fun l => by
     induction l with
     | nil => intro s h; exact h
     | cons y l ih => intro s h; rw [wAll]; exact ih _ (hf.stay _ _ h)
    exact this l _ (hf.no _ _ h2)
   ·
    exact ih _ h1
 stay := fun l => by
  induction l with
  | nil => intro s h; exact h
  | cons y l ih => intro s h; rw [wAll]; exact ih _ (hf.stay _ _ h)
theorem Writes.or (c : α → Prop) [DecidablePred c] : Writes (fun x => wOr (decide (c x))) (fun _ => []) (fun x => ¬ c x) where
 ok := fun x s h => by unfold wOr; rw [decide_eq_false h]; simp
 no := fun x s h => by unfold wOr; rw [decide_eq_true (Classical.not_not.1 h)]; simp
 stay := fun x s h => by unfold wOr; rw [h]; rfl
theorem Writes.congr {f : α → Wr → Wr} {e e' : α → List Int} {p p' : α → Prop} (hf : Writes f e p) (he : ∀ x, p x → e x = e' x) (hp : ∀ x, p x ↔ p' x) : Writes f e' p' where
 ok := fun x s h => by rw [hf.ok _ _ ((hp x).2 h), he x ((hp x).2 h)]
 no := fun x s h => hf.no _ _ (fun e => h ((hp x).1 e))
 stay := hf.stay
def fitN (s : Nat) (n : Int) : Prop := 0 ≤ n ∧ n < 256 ^ s
instance (s : Nat) (n : Int) : Decidable (fitN s n) := by unfold fitN; infer_instance
theorem Writes.num (s : Nat) (h1 : 1 ≤ s) (h7 : s ≤ 7) : Writes (fun n => wNum n (s : Int)) (fun n => big n s) (fitN s) where
 ok := fun n t h => by
  unfold wNum wAdd sPut
  rw [if_pos ⟨by omega, by omega, h.1, by rw [Int.toNat_natCast]; exact h.2⟩, Int.toNat_natCast]
  simp
 no := fun n t h => by
  unfold wNum wAdd sPut
  rw [if_neg (fun e => h ⟨e.2.2.1, by have := e.2.2.2; rwa [Int.toNat_natCast] at this⟩)]
  simp
 stay := fun n t h => by unfold wNum wAdd; rw [h]; rfl
def encT (t : ByteArray) : List Int := (t.size : Int) :: bytesOf t
theorem Writes.text : Writes wText encT (fun t => t.size ≤ 24) where
 ok := fun t s h => by unfold wText wAdd sPutText; rw [if_pos h]; simp [encT]
 no := fun t s h => by unfold wText wAdd sPutText; rw [if_neg h]; simp
 stay := fun t s h => by unfold wText wAdd; rw [h]; rfl
theorem Writes.row : Writes wRow rowB (fun l => rowE l = 0) where
 ok := fun l s h => by unfold wRow wAdd; rw [if_pos h]; simp
 no := fun l s h => by unfold wRow wAdd; rw [if_neg h]; simp [h]
 stay := fun l s h => by unfold wRow wAdd; rw [h]; rfl
structure Reads (f : List Int → Rr → α × Rr) (enc : α → List Int) (fit : α → Prop) : Prop where
 bad : ∀ (l : List Int) (r : Rr), r.2 = true → (f l r).2.2 = true
 place : ∀ (l : List Int) (r : Rr), Bytes l → 0 ≤ r.1 → r.1 ≤ l.length → 0 ≤ (f l r).2.1 ∧ (f l r).2.1 ≤ l.length
 got : ∀ (l : List Int) (r : Rr), Bytes l → 0 ≤ r.1 → r.1 ≤ l.length → (f l r).2.2 = false → fit (f l r).1 ∧ r.1 ≤ (f l r).2.1 ∧ enc (f l r).1 = sub l r.1.toNat (f l r).2.1.toNat
 put : ∀ (a c : List Int) (x : α), fit x → f (a ++ enc x ++ c) (a.length, false) = (x, ((a.length : Int) + (enc x).length, false))
theorem Reads.good {f : List Int → Rr → α × Rr} {e : α → List Int} {p : α → Prop} (hf : Reads f e p) {l : List Int} {r : Rr} (h : (f l r).2.2 = false) : r.2 = false := by
 cases hr : r.2
 ·
  rfl
 ·
  rw [hf.bad l r hr] at h; cases h
theorem Reads.comp {f : List Int → Rr → α × Rr} {g : List Int → Rr → β × Rr} {e : α → List Int} {e' : β → List Int} {p : α → Prop} {p' : β → Prop} (hf : Reads f e p) (hg : Reads g e' p') :
  Reads (fun l r => (((f l r).1, (g l (f l r).2).1), (g l (f l r).2).2)) (fun x => e x.1 ++ e' x.2) (fun x => p x.1 ∧ p' x.2) where
 bad := fun l r h => hg.bad _ _ (hf.bad _ _ h)
 place := fun l r hb h0 h1 => by
  obtain ⟨a, b⟩ := hf.place l r hb h0 h1
  exact hg.place l _ hb a b
 got := fun l r hb h0 h1 h => by
  have h : (g l (f l r).2).2.2 = false := h
  have hz := hg.good h
  obtain ⟨a, b⟩ := hf.place l r hb h0 h1
  obtain ⟨f1, f2, f3⟩ := hf.got l r hb h0 h1 hz
  obtain ⟨g1, g2, g3⟩ := hg.got l _ hb a b h
  obtain ⟨c, d⟩ := hg.place l _ hb a b
  refine ⟨⟨f1, g1⟩, Int.le_trans f2 g2, ?_⟩
  show e _ ++ e' _ = _
  rw [f3, g3]
  exact sub_sub l _ _ _ z2_ z2_ z2_
 put := fun a c x h => by
  have h1 := hf.put a (e' x.2 ++ c) x.1 h.1
  have h2 := hg.put (a ++ e x.1) c x.2 h.2
  have e1 : a ++ (e x.1 ++ e' x.2) ++ c = a ++ e x.1 ++ (e' x.2 ++ c) := by simp
  have e2 : a ++ (e x.1 ++ e' x.2) ++ c = a ++ e x.1 ++ e' x.2 ++ c := by simp
  have e3 : ((a.length : Int) + (e x.1).length) = ((a ++ e x.1).length : Int) := by simp
  have h1' : f (a ++ (e x.1 ++ e' x.2) ++ c) (a.length, false) = (x.1, (((a ++ e x.1).length : Int), false)) := by rw [e1, h1, e3]
  have h2' : g (a ++ (e x.1 ++ e' x.2) ++ c) ((a ++ e x.1).length, false) = (x.2, (((a ++ e x.1).length : Int) + (e' x.2).length, false)) := by rw [e2, h2]
  show ((( f _ _).1, (g _ (f _ _).2).1), (g _ (f _ _).2).2) = _
  rw [h1', h2']
  simp only [List.length_append]
  have : ((a.length + (e x.1).length : Nat) : Int) + (e' x.2).length = (a.length : Int) + ((e x.1).length + (e' x.2).length : Nat) := by omega
  rw [this]
theorem Reads.map {f : List Int → Rr → α × Rr} {e : α → List Int} {p : α → Prop} (hf : Reads f e p) (mk : α → β) (un : β → α) (h1 : ∀ x, un (mk x) = x) (h2 : ∀ y, mk (un y) = y) :
  Reads (fun l r => (mk (f l r).1, (f l r).2)) (fun y => e (un y)) (fun y => p (un y)) where
 bad := fun l r h => hf.bad _ _ h
 place := fun l r hb h0 h1 => hf.place l r hb h0 h1
 got := fun l r hb ha hc h => by
  have := hf.got l r hb ha hc h
  show p (un (mk _)) ∧ _ ∧ e (un (mk _)) = _
  rw [h1]; exact this
 put := fun a c y h => by
  show (mk (f _ _).1, (f _ _).2) = _
  rw [hf.put a c (un y) h, h2]
theorem Reads.congr {f f' : List Int → Rr → α × Rr} {e e' : α → List Int} {p p' : α → Prop} (hf : Reads f e p) (hF : ∀ l r, f' l r = f l r) (he : ∀ x, p x → e x = e' x) (hp : ∀ x, p x ↔ p' x) : Reads f' e' p' where
 bad := fun l r h => by rw [hF]; exact hf.bad _ _ h
 place := fun l r hb h0 h1 => by rw [hF]; exact hf.place l r hb h0 h1
 got := fun l r hb ha hc h => by
  rw [hF] at h ⊢
  obtain ⟨a, b, c⟩ := hf.got l r hb ha hc h
  exact ⟨(hp _).1 a, b, by rw [← he _ a]; exact c⟩
 put := fun a c x h => by
  have h' := (hp x).2 h
  rw [hF, ← he x h']; exact hf.put a c x h'
theorem Reads.of {z : α} {g : List Int → Int → α × Int × Int} {e : α → List Int} {p : α → Prop}
  (hs : ∀ l at_, Bytes l → (g l at_).2.2 = 0 → 0 ≤ at_ ∧ p (g l at_).1 ∧ at_ ≤ (g l at_).2.1 ∧ (g l at_).2.1 ≤ l.length ∧ e (g l at_).1 = sub l at_.toNat (g l at_).2.1.toNat)
  (hp : ∀ a c x, p x → g (a ++ e x ++ c) a.length = (x, (a.length : Int) + (e x).length, 0)) : Reads (fun l r => rOf z (g l r.1) r) e p where
 bad := fun l r h => by unfold rOf; rw [if_pos (.inl h)]
 place := fun l r hb h0 h1 => by
  unfold rOf
  by_cases h : r.2 = true ∨ (g l r.1).2.2 ≠ 0
  ·
   rw [if_pos h]; exact ⟨h0, h1⟩
  ·
   rw [if_neg h]
   obtain ⟨a, _, b, c, _⟩ := hs l r.1 hb (Classical.not_not.1 (fun e => h (.inr e)))
   exact ⟨Int.le_trans h0 b, c⟩
 got := fun l r hb h0 h1 h => by
  unfold rOf at h ⊢
  by_cases hc : r.2 = true ∨ (g l r.1).2.2 ≠ 0
  ·
   rw [if_pos hc] at h; cases h
  ·
   rw [if_neg hc]
   obtain ⟨a, b, c, d, e⟩ := hs l r.1 hb (Classical.not_not.1 (fun e => hc (.inr e)))
   exact ⟨b, c, e⟩
 put := fun a c x h => by
  show rOf z (g _ (a.length : Int)) _ = _
  unfold rOf
  rw [hp a c x h, if_neg (by rintro (e | e); cases e; exact e rfl)]
theorem Reads.num (s : Nat) (h1 : 1 ≤ s) (h7 : s ≤ 7) : Reads (rNum (s : Int)) (fun n => big n s) (fitN s) :=
 Reads.of (z := (0 : Int)) (g := fun l at_ => sGet l at_ (s : Int)) (e := fun n => big n s) (p := fitN s)
  (fun l at_ hb h => by
   unfold sGet at h ⊢
   by_cases c : 1 ≤ (s : Int) ∧ (s : Int) ≤ 7 ∧ 0 ≤ at_ ∧ at_ ≤ l.length
   ·
    rw [if_pos c] at h ⊢
    by_cases d : (l.length : Int) - at_ < (s : Int)
    ·
     rw [if_pos d] at h; simp at h
    ·
     rw [if_neg d]
     have hl : (sub l at_.toNat (at_ + (s : Int)).toNat).length = s := by rw [eT z2_]; omega
     have hbs := fG hb at_.toNat (at_ + (s : Int)).toNat
     refine ⟨c.2.2.1, ⟨gT _ 0 z2_ hbs, ?_⟩, by show at_ ≤ at_ + _; omega, by show at_ + (s : Int) ≤ _; omega, ?_⟩
     ·
      have := val_lt _ 0 z2_ hbs
      rw [hl] at this
      simpa using this
     ·
      have := big_val _ hbs
      rw [hl] at this
      exact this
   ·
    rw [if_neg c] at h; simp at h)
  (fun a c x h => by
   have := get_put a c x s h1 h7 h.1 h.2
   show sGet _ _ _ = _
   rw [this, dL])
theorem Reads.text : Reads rText encT (fun t => t.size ≤ 24) :=
 Reads.of (z := (⟨#[]⟩ : ByteArray)) (g := fun l at_ => sGetText l at_) (e := encT) (p := fun t => t.size ≤ 24)
  (fun l at_ hb h => by
   obtain ⟨⟨a, b⟩, c, d⟩ := getText_sub hb h
   exact ⟨c, jU hb h, by show at_ ≤ (sGetText l at_).2.1; omega, b, d⟩)
  (fun a c x h => by
   have := getText_put a c x h
   show sGetText (a ++ encT x ++ c) _ = _
   unfold encT
   rw [this]
   simp [dV]; omega)
theorem times_acc (f : List Int → Rr → α × Rr) (l : List Int) (n : Nat) : ∀ (acc : List α) (r : Rr), rTimes f l n acc r = (acc ++ (rTimes f l n [] r).1, (rTimes f l n [] r).2) := by
 induction n with
 | zero => intro acc r; simp [rTimes]
 | succ n ih =>
  intro acc r
  rw [rTimes, rTimes, ih, ih ([] ++ [(f l r).1])]
  simp
theorem iE (f : List Int → Rr → α × Rr) (l : List Int) (n : Nat) (r : Rr) : rTimes f l (n + 1) [] r = ((f l r).1 :: (rTimes f l n [] (f l r).2).1, (rTimes f l n [] (f l r).2).2) := by
 rw [rTimes, times_acc]; simp
theorem Reads.times {f : List Int → Rr → α × Rr} {e : α → List Int} {p : α → Prop} (hf : Reads f e p) (n : Nat) :
  Reads (fun l r => rTimes f l n [] r) (fun xs => xs.flatMap e) (fun xs => xs.length = n ∧ ∀ x ∈ xs, p x) := by
 induction n with
 | zero =>
  exact {
   bad := fun l r h => h
   place := fun l r hb h0 h1 => ⟨h0, h1⟩
   got := fun l r hb h0 h1 h => ⟨⟨rfl, fun x hx => by cases hx⟩, Int.le_refl _, by show ([] : List Int) = _; unfold sub; simp [rTimes]⟩
   put := fun a c x h => by
    obtain rfl : x = [] := List.length_eq_zero_iff.1 h.1
    simp [rTimes] }
 | succ n ih =>
  have hc := hf.comp ih
  exact {
   bad := fun l r h => by show (rTimes f l (n + 1) [] r).2.2 = true; rw [iE]; exact hc.bad l r h
   place := fun l r hb h0 h1 => by show 0 ≤ (rTimes f l (n + 1) [] r).2.1 ∧ (rTimes f l (n + 1) [] r).2.1 ≤ _; rw [iE]; exact hc.place l r hb h0 h1
   got := fun l r hb h0 h1 h => by
    have h : (rTimes f l (n + 1) [] r).2.2 = false := h
    show ((rTimes f l (n + 1) [] r).1.length = n + 1 ∧ ∀ x ∈ (rTimes f l (n + 1) [] r).1, p x) ∧ r.1 ≤ (rTimes f l (n + 1) [] r).2.1 ∧ (rTimes f l (n + 1) [] r).1.flatMap e = sub l r.1.toNat (rTimes f l (n + 1) [] r).2.1.toNat
    rw [iE] at h ⊢
    obtain ⟨⟨a, b, c⟩, d, g⟩ := hc.got l r hb h0 h1 h
    refine ⟨⟨by rw [List.length_cons]; exact congrArg (· + 1) b, fun x hx => ?_⟩, d, by rw [List.flatMap_cons]; exact g⟩
    rcases List.mem_cons.1 hx with rfl | hx
    ·
     exact a
    ·
     exact c x hx
   put := fun a c x h => by
    cases x with
    | nil => simp at h
    | cons y ys =>
     have := hc.put a c (y, ys) ⟨h.2 y List.mem_cons_self, by show ys.length = n; have := h.1; rw [List.length_cons] at this; omega, fun x hx => h.2 x (List.mem_cons_of_mem _ hx)⟩
     show rTimes f _ (n + 1) [] _ = _
     rw [List.flatMap_cons, iE]
     have h1 := congrArg (fun z => z.1.1) this
     have h2 := congrArg (fun z => z.1.2) this
     have h3 := congrArg (fun z => z.2) this
     exact Prod.ext (by show (_ :: _ : List α) = _; exact _root_.congr (congrArg List.cons h1) h2) h3 }
theorem rMany_bad {size most : Int} {l : List Int} {r : Rr} (h : r.2 = true) : (rMany size most l r).2.2 = true := by
 unfold rMany
 split
 ·
  rfl
 ·
  unfold rNum rOf; rw [if_pos (.inl h)]
theorem Reads.many {f : List Int → Rr → α × Rr} {e : α → List Int} {p : α → Prop} (hf : Reads f e p) (s : Nat) (h1 : 1 ≤ s) (h7 : s ≤ 7) (most : Nat) (hm : (most : Int) < 256 ^ s) :
  Reads (fun l r => rTimes f l (rMany (s : Int) most l r).1.toNat [] (rMany (s : Int) most l r).2) (fun xs => big xs.length s ++ xs.flatMap e) (fun xs => xs.length ≤ most ∧ ∀ x ∈ xs, p x) where
 bad := fun l r h => (hf.times _).bad l _ (rMany_bad h)
 place := fun l r hb h0 h1' => by
  obtain ⟨a, b⟩ := (Reads.num s h1 h7).place l r hb h0 h1'
  refine (hf.times _).place l _ hb ?_ ?_ <;> · unfold rMany; split <;> assumption
 got := fun l r hb h0 h1' h => by
  have hN := Reads.num s h1 h7
  have hT := hf.times (rMany (s : Int) most l r).1.toNat
  have h : (rTimes f l (rMany (s : Int) most l r).1.toNat [] (rMany (s : Int) most l r).2).2.2 = false := h
  have hz := hT.good h
  have hle : ¬ (rNum (s : Int) l r).1 > most := fun e => by unfold rMany at hz; rw [if_pos e] at hz; cases hz
  have hM : rMany (s : Int) most l r = rNum (s : Int) l r := if_neg hle
  rw [hM] at h hz hT ⊢
  obtain ⟨a, b⟩ := hN.place l r hb h0 h1'
  obtain ⟨c1, c2, c3⟩ := hN.got l r hb h0 h1' hz
  obtain ⟨d1, d2, d3⟩ := hT.got l _ hb a b h
  obtain ⟨e1, e2⟩ := hT.place l _ hb a b
  have h0' : 0 ≤ (rNum (s : Int) l r).1 := c1.1
  refine ⟨⟨by show List.length _ ≤ most; rw [d1.1]; omega, d1.2⟩, Int.le_trans c2 d2, ?_⟩
  show big (List.length _ : Int) s ++ List.flatMap e _ = _
  rw [d1.1, show (((rNum (s : Int) l r).1.toNat : Nat) : Int) = (rNum (s : Int) l r).1 by omega, d3]
  rw [c3]
  exact sub_sub l _ _ _ z2_ z2_ z2_
 put := fun a c xs h => by
  have hN := (Reads.num s h1 h7).put a (xs.flatMap e ++ c) (xs.length : Int) ⟨by omega, by have := h.1; omega⟩
  have e1 : a ++ (big xs.length s ++ xs.flatMap e) ++ c = a ++ big xs.length s ++ (xs.flatMap e ++ c) := by simp
  have e2 : a ++ (big xs.length s ++ xs.flatMap e) ++ c = (a ++ big xs.length s) ++ xs.flatMap e ++ c := by simp
  have hM : rMany (s : Int) most (a ++ (big xs.length s ++ xs.flatMap e) ++ c) (a.length, false) = ((xs.length : Int), ((a.length : Int) + s, false)) := by
   unfold rMany
   rw [e1, hN, if_neg (by show ¬ (xs.length : Int) > most; have := h.1; omega), dL]
  show rTimes f _ (rMany _ _ _ _).1.toNat [] (rMany _ _ _ _).2 = _
  rw [hM]
  show rTimes f _ ((xs.length : Int).toNat) [] _ = _
  rw [Int.toNat_natCast]
  have hT := (hf.times xs.length).put (a ++ big xs.length s) c xs ⟨rfl, h.2⟩
  rw [← e2] at hT
  rw [show ((a.length : Int) + s, false) = (((a ++ big xs.length s).length : Int), false) by simp [dL]]
  refine Eq.trans hT ?_
  simp [dL]; omega
end
end Go.Proofs.Ytcbfliajgopdaaa.Ops
end
section
namespace Go.Proofs.Ytcbfliajgopdaaa.Ops
open Go.RowKit PAll Plain PrintWords ZipT PrintWords.Kd PrintMore.Kd
set_option linter.unusedVariables false
set_option linter.unusedSimpArgs false
theorem row_got {l : List Int} {at_ : Int} (hb : Bytes l) (h : (sRowRead l at_).2.2 = 0) :
  rowE (sRowRead l at_).1 = 0 ∧ 0 ≤ at_ ∧ at_ ≤ (sRowRead l at_).2.1 ∧ (sRowRead l at_).2.1 ≤ l.length ∧ rowB (sRowRead l at_).1 = sub l at_.toNat (sRowRead l at_).2.1.toNat := by
 unfold sRowRead at h ⊢
 by_cases h1 : 0 ≤ at_ ∧ at_ ≤ l.length
 rotate_left
 ·
  rw [if_neg h1] at h; simp at h
 rw [if_pos h1] at h ⊢
 by_cases h2 : at_ = l.length ∨ rd l at_ > 12
 ·
  rw [if_pos h2] at h; simp at h
 rw [if_neg h2] at h ⊢
 have hr := hb.rd at_
 unfold Byte at hr
 obtain ⟨m, e1, e2, e3, e4, e5, e6⟩ := vals_sub l hb (rd l at_).toNat (at_ + 1) [] z2_ z2_ h
 rw [List.nil_append] at e1
 rw [e1]
 refine ⟨(gN m).2 ⟨by omega, e3⟩, h1.1, by omega, e5, ?_⟩
 unfold rowB
 rw [e6]
 obtain ⟨i, rfl⟩ := Int.eq_ofNat_of_zero_le h1.1
 rw [Int.toNat_natCast, show ((i : Int) + 1).toNat = i + 1 from by omega, iA (i := i) z2_ z2_]
 congr 1
 omega
theorem row_at (a c : List Int) (l : List V) (h : rowE l = 0) : sRowRead (a ++ rowB l ++ c) a.length = (l, (a.length : Int) + (rowB l).length, 0) := by
 obtain ⟨h1, h2⟩ := (gN l).1 h
 have e : a ++ rowB l ++ c = a ++ (l.length : Int) :: (rowVs l ++ c) := by simp [rowB]
 have e2 : a ++ rowB l ++ c = (a ++ [(l.length : Int)]) ++ rowVs l ++ c := by simp [rowB]
 have hl : (a ++ rowB l ++ c).length = a.length + 1 + (rowVs l).length + c.length := by simp [rowB]; omega
 have hr : rd (a ++ rowB l ++ c) (a.length : Int) = l.length := by rw [e]; exact hU _ _ _ rfl
 unfold sRowRead
 rw [if_pos z2_, hr, if_neg z2_, Int.toNat_natCast]
 have := vals_put l (a ++ [(l.length : Int)]) c [] h2
 rw [← e2] at this
 rw [show ((a.length : Int) + 1) = ((a ++ [(l.length : Int)]).length : Int) by simp, this]
 simp [rowB]
theorem Reads.row : Reads rRow rowB (fun l => rowE l = 0) :=
 Reads.of (z := ([] : List V)) (g := fun l at_ => sRowRead l at_) (e := rowB) (p := fun l => rowE l = 0)
  (fun l at_ hb h => by
   obtain ⟨a, b, c, d, e⟩ := row_got hb h
   exact ⟨b, a, c, d, e⟩)
  (fun a c x h => row_at a c x h)
def dotB (d : Dt) : List Int := big d.f0 1 ++ big d.f1 4
def dotFit (d : Dt) : Prop := fitN 1 d.f0 ∧ fitN 4 d.f1
instance (d : Dt) : Decidable (dotFit d) := by unfold dotFit; infer_instance
def stampB (t : St) : List Int := big t.f0 6 ++ big t.f1 3 ++ big t.f2 1
def stampFit (t : St) : Prop := (fitN 6 t.f0 ∧ fitN 3 t.f1) ∧ fitN 1 t.f2
instance (d : St) : Decidable (stampFit d) := by unfold stampFit; infer_instance
def numsB (l : List Int) : List Int := big l.length 1 ++ l.flatMap fun n => big n 4
def numsFit (l : List Int) : Prop := l.length ≤ 5 ∧ ∀ n ∈ l, fitN 4 n
instance (l : List Int) : Decidable (numsFit l) := by unfold numsFit; infer_instance
def dotsB (l : List Dt) : List Int := big l.length 1 ++ l.flatMap dotB
def dotsFit (l : List Dt) : Prop := l.length ≤ 64 ∧ ∀ d ∈ l, dotFit d
instance (l : List Dt) : Decidable (dotsFit l) := by unfold dotsFit; infer_instance
def opB (x : Ox) : List Int := big x.f3 1 ++ dotB x.f0 ++ numsB x.f1 ++ stampB x.f2 ++ big x.f4 1 ++ encT x.f5 ++ big x.f6 1 ++ rowB x.f7 ++ dotsB x.f8
def opFit (x : Ox) : Prop := (((((((fitN 1 x.f3 ∧ dotFit x.f0) ∧ numsFit x.f1) ∧ stampFit x.f2) ∧ fitN 1 x.f4) ∧ x.f5.size ≤ 24) ∧ fitN 1 x.f6) ∧ rowE x.f7 = 0) ∧ dotsFit x.f8
instance (x : Ox) : Decidable (opFit x) := by unfold opFit; infer_instance
theorem Writes.dot : Writes wDot dotB dotFit := (Writes.num 1 z4_ z4_).comp (Writes.num 4 z4_ z4_) (fun d : Dt => d.f0) (fun d => d.f1)
theorem Writes.stamp : Writes wStamp stampB stampFit :=
 ((Writes.num 6 z4_ z4_).comp (Writes.num 3 z4_ z4_) (fun d : St => d.f0) (fun d => d.f1)).comp (Writes.num 1 z4_ z4_) id (fun d : St => d.f2)
theorem Writes.nums : Writes wNums numsB numsFit :=
 (((Writes.or (fun l : List Int => l.length > 5)).comp (Writes.num 1 z4_ z4_) id (fun l : List Int => (l.length : Int))).comp (Writes.all (Writes.num 4 z4_ z4_)) id id).congr
  (fun l _ => by simp [numsB]) (fun l => ⟨fun h => ⟨by have := h.1.1; simp at this; exact this, h.2⟩, fun h => ⟨⟨by have := h.1; simp; omega, by have := h.1; exact ⟨by omega, by show (l.length : Int) < 256 ^ 1; omega⟩⟩, h.2⟩⟩)
theorem Writes.dots : Writes (fun l s => wAll wDot l (wNum l.length 1 (wOr (decide (l.length > 64)) s))) dotsB dotsFit :=
 (((Writes.or (fun l : List Dt => l.length > 64)).comp (Writes.num 1 z4_ z4_) id (fun l : List Dt => (l.length : Int))).comp (Writes.all Writes.dot) id id).congr
  (fun l _ => by simp [dotsB]) (fun l => ⟨fun h => ⟨by have := h.1.1; simp at this; exact this, h.2⟩, fun h => ⟨⟨by have := h.1; simp; omega, by have := h.1; exact ⟨by omega, by show (l.length : Int) < 256 ^ 1; omega⟩⟩, h.2⟩⟩)
theorem Writes.op : Writes wOp opB opFit :=
 (((((((((Writes.num 1 z4_ z4_).comp Writes.dot (fun x : Ox => x.f3) (fun x : Ox => x.f0)).comp Writes.nums id (fun x : Ox => x.f1)).comp Writes.stamp id (fun x : Ox => x.f2)).comp (Writes.num 1 z4_ z4_) id (fun x : Ox => x.f4)).comp Writes.text id (fun x : Ox => x.f5)).comp (Writes.num 1 z4_ z4_) id (fun x : Ox => x.f6)).comp Writes.row id (fun x : Ox => x.f7)).comp Writes.dots id (fun x : Ox => x.f8))
theorem opBytes_eq (x : Ox) : sOpBytes x = if opFit x then (opB x, 0) else ([], 1) := by
 unfold sOpBytes
 by_cases h : opFit x
 ·
  rw [if_pos h, Writes.op.ok x _ h]; simp
 rw [if_neg h, Writes.op.no x _ h, if_pos rfl]
theorem Reads.dot : Reads rDot dotB dotFit :=
 ((Reads.num 1 z4_ z4_).comp (Reads.num 4 z4_ z4_)).map (fun p => (⟨p.1, p.2⟩ : Dt)) (fun d => (d.f0, d.f1)) (fun _ => rfl) (fun _ => rfl)
theorem Reads.stamp : Reads rStamp stampB stampFit :=
 (((Reads.num 6 z4_ z4_).comp (Reads.num 3 z4_ z4_)).comp (Reads.num 1 z4_ z4_)).map (fun p => (⟨p.1.1, p.1.2, p.2⟩ : St)) (fun d => ((d.f0, d.f1), d.f2)) (fun _ => rfl) (fun _ => rfl)
theorem Reads.nums : Reads rNums numsB numsFit := (Reads.num 4 z4_ z4_).many 1 z4_ z4_ 5 z4_
theorem Reads.dots : Reads rDots dotsB dotsFit := Reads.dot.many 1 z4_ z4_ 64 z4_
theorem Reads.head : Reads (fun l r => (((rHead l r).1.f3, (rHead l r).1.f0, (rHead l r).1.f1, (rHead l r).1.f2, (rHead l r).1.f4, (rHead l r).1.f5, (rHead l r).1.f6), (rHead l r).2))
  (fun p => big p.1 1 ++ dotB p.2.1 ++ numsB p.2.2.1 ++ stampB p.2.2.2.1 ++ big p.2.2.2.2.1 1 ++ encT p.2.2.2.2.2.1 ++ big p.2.2.2.2.2.2 1)
  (fun p => ((((((fitN 1 p.1 ∧ dotFit p.2.1) ∧ numsFit p.2.2.1) ∧ stampFit p.2.2.2.1) ∧ fitN 1 p.2.2.2.2.1) ∧ p.2.2.2.2.2.1.size ≤ 24) ∧ fitN 1 p.2.2.2.2.2.2)) :=
 (((((((Reads.num 1 z4_ z4_).comp Reads.dot).comp Reads.nums).comp Reads.stamp).comp (Reads.num 1 z4_ z4_)).comp Reads.text).comp (Reads.num 1 z4_ z4_)).map
  (fun p => (p.1.1.1.1.1.1, p.1.1.1.1.1.2, p.1.1.1.1.2, p.1.1.1.2, p.1.1.2, p.1.2, p.2)) (fun p => ((((((p.1, p.2.1), p.2.2.1), p.2.2.2.1), p.2.2.2.2.1), p.2.2.2.2.2.1), p.2.2.2.2.2.2)) (fun _ => rfl) (fun _ => rfl)
def rOpC (l : List Int) (r : Rr) : Ox × Rr :=
 ({ (rHead l r).1 with f7 := (rRow l (rHead l r).2).1, f8 := (rDots l (rRow l (rHead l r).2).2).1 }, (rDots l (rRow l (rHead l r).2).2).2)
theorem Reads.opC : Reads rOpC opB opFit :=
 ((Reads.head.comp Reads.row).comp Reads.dots).map
  (fun p => (⟨p.1.1.2.1, p.1.1.2.2.1, p.1.1.2.2.2.1, p.1.1.1, p.1.1.2.2.2.2.1, p.1.1.2.2.2.2.2.1, p.1.1.2.2.2.2.2.2, p.1.2, p.2⟩ : Ox)) (fun x => (((x.f3, x.f0, x.f1, x.f2, x.f4, x.f5, x.f6), x.f7), x.f8)) (fun _ => rfl) (fun _ => rfl)
theorem iP {l : List Int} {r : Rr} (h : (rRow l (rHead l r).2).2.2 = false) : rOp l r = rOpC l r := by
 unfold rOp; rw [if_neg (by rw [h]; decide)]; rfl
theorem rOp_bad {l : List Int} {r : Rr} (h : (rRow l (rHead l r).2).2.2 = true) : rOp l r = (zOp, (rRow l (rHead l r).2).2) := by
 unfold rOp; rw [if_pos h]
theorem rOpC_good {l : List Int} {r : Rr} (h : (rOpC l r).2.2 = false) : (rRow l (rHead l r).2).2.2 = false := Reads.dots.good h
theorem Reads.op : Reads rOp opB opFit where
 bad := fun l r h => by
  cases hr : (rRow l (rHead l r).2).2.2
  ·
   rw [iP hr]; exact Reads.opC.bad l r h
  ·
   rw [rOp_bad hr]; exact hr
 place := fun l r hb h0 h1 => by
  cases hr : (rRow l (rHead l r).2).2.2
  ·
   rw [iP hr]; exact Reads.opC.place l r hb h0 h1
  ·
   rw [rOp_bad hr]
   obtain ⟨a, b⟩ := Reads.head.place l r hb h0 h1
   exact Reads.row.place l _ hb a b
 got := fun l r hb h0 h1 h => by
  cases hr : (rRow l (rHead l r).2).2.2
  ·
   rw [iP hr] at h ⊢; exact Reads.opC.got l r hb h0 h1 h
  ·
   rw [rOp_bad hr] at h; exact absurd (hr.symm.trans h) z4_
 put := fun a c x h => by
  have := Reads.opC.put a c x h
  rw [iP (rOpC_good (by rw [this])), this]
theorem opRead_put (a c : List Int) (x : Ox) (h : opFit x) : sOpRead (a ++ opB x ++ c) a.length = (x, (a.length : Int) + (opB x).length, 0) := by
 unfold sOpRead
 rw [if_neg (by simp; omega), Reads.op.put a c x h, if_neg (by simp)]
theorem opB_len (x : Ox) (h : opFit x) : 22 ≤ (opB x).length ∧ (opB x).length ≤ 1000 := by
 obtain ⟨⟨⟨⟨⟨⟨⟨⟨k, d⟩, n⟩, t⟩, b⟩, y⟩, c⟩, v⟩, z⟩ := h
 have hr := rowB_len v
 have hr1 : 1 ≤ (rowB x.f7).length := by simp [rowB]
 have h1 : (x.f1.flatMap fun n => big n 4).length = 4 * x.f1.length := by
  have : ∀ l : List Int, (l.flatMap fun n => big n 4).length = 4 * l.length := fun l => by
   induction l with
   | nil => rfl
   | cons a l ih => rw [List.flatMap_cons, List.length_append, ih, dL, List.length_cons]; omega
  exact this _
 have h2 : (x.f8.flatMap dotB).length = 5 * x.f8.length := by
  have : ∀ l : List Dt, (l.flatMap dotB).length = 5 * l.length := fun l => by
   induction l with
   | nil => rfl
   | cons a l ih => rw [List.flatMap_cons, List.length_append, ih, List.length_cons]; simp [dotB, dL]; omega
  exact this _
 have := n.1
 have := z.1
 simp only [opB, dotB, numsB, stampB, dotsB, encT, List.length_append, dL, h1, h2, List.length_cons, dV]
 omega
end Go.Proofs.Ytcbfliajgopdaaa.Ops
end
section
namespace Go.Proofs.Ytcbfliajgopdaaa.Ops
open Go.RowKit PAll Plain PrintWords PrintMore ZipT PrintWords.Kd PrintMore.Kd
set_option linter.unusedVariables false
set_option linter.unusedSimpArgs false
def badSeq (c : Int) : Bool := decide (c < 0 ∨ c > 1073741824)
def vecE (l : List Int) : Int := if l.length < 1 ∨ l.length > 5 then 2 else if l.any badSeq = true then 1 else 0
def stampOk (t : St) : Prop := ((0 ≤ t.f0 ∧ t.f0 ≤ 1099511627776) ∧ (0 ≤ t.f1 ∧ t.f1 ≤ 65536)) ∧ (0 ≤ t.f2 ∧ t.f2 ≤ 4)
instance (t : St) : Decidable (stampOk t) := by unfold stampOk; infer_instance
theorem iV {l : List Dt} {i : Nat} {v : Dt} {m : List Dt} (h : l.drop i = v :: m) : cL l (i : Int) = v := by
 show l.getD ((i : Int).toNat) _ = v
 rw [Int.toNat_natCast, List.getD_eq_getElem?_getD]
 have : l[i]? = (l.drop i)[0]? := by rw [List.getElem?_drop]; simp
 rw [this, h]; rfl
def wholeP (n : Int) (x : Ox) : Prop := (0 ≤ x.f0.f0 ∧ x.f0.f0 < n) ∧ (1 ≤ x.f0.f1 ∧ x.f0.f1 ≤ 1073741824) ∧ (x.f1.length : Int) = n ∧ vecE x.f1 = 0 ∧ rd x.f1 x.f0.f0 = x.f0.f1 - 1 ∧ stampOk x.f2 ∧ x.f2.f2 = x.f0.f0
instance (n : Int) (x : Ox) : Decidable (wholeP n x) := by unfold wholeP; infer_instance
end Go.Proofs.Ytcbfliajgopdaaa.Ops
end
section
namespace Go.Proofs.Ytcbfliajgopdaaa.Sep
open Go.RowKit PrintWords ZipT PrintWords.Kd PrintMore.Kd
set_option linter.unusedVariables false
structure Moved (w w' : World) (S : Nat → Prop) : Prop where
 os : w'.os = w.os
 tape : w'.tape = w.tape
 output : w'.output = w.output
 size : w.heap.size ≤ w'.heap.size
 block : ∀ k, k < w.heap.size → ¬ S k → w'.heap[k]? = w.heap[k]?
theorem Moved.refl (w : World) (S : Nat → Prop) : Moved w w S := ⟨rfl, rfl, rfl, Nat.le_refl _, fun _ _ _ => rfl⟩
theorem Moved.trans {w w1 w2 : World} {S S1 : Nat → Prop} (h : Moved w w1 S) (k : Moved w1 w2 S1) (hs : ∀ i, i < w.heap.size → S1 i → S i) : Moved w w2 S :=
 ⟨k.os.trans h.os, k.tape.trans h.tape, k.output.trans h.output, Nat.le_trans h.size k.size, fun i hi hn =>
  (k.block i (Nat.lt_of_lt_of_le hi h.size) (fun e => hn (hs i hi e))).trans (h.block i hi hn)⟩
theorem Moved.wider {w w' : World} {S S' : Nat → Prop} (h : Moved w w' S) (hs : ∀ i, i < w.heap.size → S i → S' i) : Moved w w' S' :=
 ⟨h.os, h.tape, h.output, h.size, fun i hi hn => h.block i hi (fun e => hn (hs i hi e))⟩
theorem Moved.of_below {w w' : World} (h : Below w.heap.size w w') (S : Nat → Prop) : Moved w w' S := ⟨h.os, h.tape, h.output, h.size, fun i hi _ => h.block i hi⟩
theorem Moved.of_grown {w w' : World} {row : Option Nat} (h : w.grownBy w' row) {S : Nat → Prop} (hr : ∀ i, row = some i → i < w.heap.size → S i) : Moved w w' S :=
 ⟨h.os, h.tape, h.output, h.size, fun i hi hn => h.block i hi (fun e => hn (hr i e.symm hi))⟩
theorem Moved.set {w w1 : World} {S : Nat → Prop} (h : Moved w w1 S) {p : Addr} (hp : p.block < w.heap.size → S p.block) (u : Value) : Moved w (w1.setCell p u) S :=
 h.trans (S1 := fun i => i = p.block) ⟨rfl, rfl, rfl, by simp [World.setCell], fun i _ hn => Below.heap_setCell w1 p u i hn⟩ (fun i hi e => by subst e; exact hp hi)
theorem Moved.alloc {w w1 : World} {S : Nat → Prop} (h : Moved w w1 S) (o : Obj) : Moved w (w1.alloc o) S :=
 h.trans (S1 := fun _ => False) (Moved.of_below (cU (Below.refl _ _) o) _) (fun _ _ e => e.elim)
theorem Moved.drewN {w w1 : World} {S : Nat → Prop} (h : Moved w w1 S) (n : Nat) : Moved w (w1.drewN n) S := ⟨h.os, h.tape, h.output, h.size, h.block⟩
theorem Moved.drew {w w1 : World} {S : Nat → Prop} (h : Moved w w1 S) : Moved w w1.drew S := ⟨h.os, h.tape, h.output, h.size, h.block⟩
theorem Moved.below {w w1 w2 : World} {S : Nat → Prop} (h : Moved w w1 S) (k : Below w1.heap.size w1 w2) : Moved w w2 S :=
 h.trans (S1 := fun _ => False) (Moved.of_below k _) (fun _ _ e => e.elim)
theorem Moved.blk {w w' : World} {S : Nat → Prop} (h : Moved w w' S) {g : Nat} {o : Obj} (hg : w.heap[g]? = some o) (hn : ¬ S g) : w'.heap[g]? = some o :=
 (h.block g (Array.getElem?_eq_some_iff.1 hg).1 hn).trans hg
structure Part where
 P : World → (Nat → Prop) → Prop
 mono : ∀ {w ok ok'}, P w ok → (∀ k, k < w.heap.size → ok k → ok' k) → P w ok'
 move : ∀ {w w' ok}, P w ok → Moved w w' (fun k => ¬ ok k) → P w' ok
theorem Part.moved (p : Part) {w w' : World} {ok S : Nat → Prop} (h : p.P w ok) (hm : Moved w w' S) (hd : ∀ k, k < w.heap.size → ok k → ¬ S k) : p.P w' ok :=
 p.move h (hm.wider (fun i hi hs e => hd i hi e hs))
def Sep (w : World) : (Nat → Prop) → List Part → Prop
 | _, [] => True
 | fr, p :: ps => ∃ ok : Nat → Prop, (∀ k, ok k → fr k) ∧ p.P w ok ∧ Sep w (fun k => fr k ∧ ¬ ok k) ps
def Sp (w : World) (ps : List Part) : Prop := Sep w (fun k => k < w.heap.size) ps
theorem Sep.wide {w : World} : ∀ {ps : List Part} {fr fr' : Nat → Prop}, Sep w fr ps → (∀ k, fr k → fr' k) → Sep w fr' ps
 | [], _, _, _, _ => trivial
 | p :: ps, fr, fr', ⟨ok, h1, h2, h3⟩, h => ⟨ok, fun k hk => h k (h1 k hk), h2, Sep.wide h3 (fun k hk => ⟨h k hk.1, hk.2⟩)⟩
theorem Sep.moved {w w' : World} {S : Nat → Prop} (hm : Moved w w' S) : ∀ {ps : List Part} {fr : Nat → Prop}, Sep w fr ps → (∀ k, k < w.heap.size → fr k → ¬ S k) → Sep w' fr ps
 | [], _, _, _ => trivial
 | p :: ps, fr, ⟨ok, h1, h2, h3⟩, h => ⟨ok, h1, p.moved h2 hm (fun k hk hok => h k hk (h1 k hok)), Sep.moved hm h3 (fun k hk hf => h k hk hf.1)⟩
theorem Sep.swap {w : World} {fr : Nat → Prop} {a b : Part} {ps : List Part} : Sep w fr (a :: b :: ps) → Sep w fr (b :: a :: ps) := by
 rintro ⟨ok, h1, h2, ok', h1', h2', h3⟩
 exact ⟨ok', fun k hk => (h1' k hk).1, h2', ok, fun k hk => ⟨h1 k hk, fun hk' => (h1' k hk').2 hk⟩, h2, h3.wide (fun k hk => ⟨⟨hk.1.1, hk.2⟩, hk.1.2⟩)⟩
theorem Sep.cons {w : World} {fr : Nat → Prop} {a : Part} {ps qs : List Part} (f : ∀ fr, Sep w fr ps → Sep w fr qs) : Sep w fr (a :: ps) → Sep w fr (a :: qs) := by
 rintro ⟨ok, h1, h2, h3⟩
 exact ⟨ok, h1, h2, f _ h3⟩
theorem Sep.tail {w : World} {fr : Nat → Prop} {a : Part} {ps : List Part} : Sep w fr (a :: ps) → Sep w fr ps := by
 rintro ⟨ok, h1, h2, h3⟩
 exact h3.wide (fun k hk => hk.1)
theorem Sep.app {w : World} : ∀ {ps qs : List Part} {fr1 fr2 fr : Nat → Prop}, Sep w fr1 ps → Sep w fr2 qs → (∀ k, fr1 k → fr k) → (∀ k, fr2 k → fr k) → (∀ k, fr1 k → ¬ fr2 k) → Sep w fr (ps ++ qs)
 | [], qs, fr1, fr2, fr, _, h, _, h2, _ => h.wide h2
 | p :: ps, qs, fr1, fr2, fr, ⟨ok, h1, h2, h3⟩, h, a, b, d =>
  ⟨ok, fun k hk => a k (h1 k hk), h2, Sep.app h3 h (fun k hk => ⟨a k hk.1, hk.2⟩) (fun k hk => ⟨b k hk, fun hok => d k (h1 k hok) hk⟩) (fun k hk => d k hk.1)⟩
theorem Sep.shrink {w : World} : ∀ {ps : List Part} {fr fr' : Nat → Prop}, Sep w fr ps → (∀ k, k < w.heap.size → fr k → fr' k) → Sep w fr' ps
 | [], _, _, _, _ => trivial
 | p :: ps, fr, fr', ⟨ok, h1, h2, h3⟩, h => ⟨fun k => ok k ∧ k < w.heap.size, fun k hk => h k hk.2 (h1 k hk.1), p.mono h2 (fun k hk hok => ⟨hok, hk⟩), Sep.shrink h3 (fun k hk hf => ⟨h k hk hf.1, fun e => hf.2 e.1⟩)⟩
theorem Sep.split {w : World} : ∀ {ps qs : List Part} {fr : Nat → Prop}, Sep w fr (ps ++ qs) → ∃ ok : Nat → Prop, (∀ k, ok k → fr k) ∧ Sep w ok ps ∧ Sep w (fun k => fr k ∧ ¬ ok k) qs
 | [], qs, fr, h => ⟨fun _ => False, fun _ h => h.elim, trivial, h.wide (fun k hk => ⟨hk, fun e => e⟩)⟩
 | p :: ps, qs, fr, ⟨ok, h1, h2, h3⟩ => by
  obtain ⟨ok', h1', h2', h3'⟩ := Sep.split (ps := ps) h3
  refine ⟨fun k => ok k ∨ ok' k, fun k hk => hk.elim (h1 k) (fun h => (h1' k h).1), ⟨ok, fun k hk => .inl hk, h2, h2'.wide (fun k hk => ⟨.inr hk, (h1' k hk).2⟩)⟩, h3'.wide (fun k hk => ⟨hk.1.1, fun e => e.elim hk.1.2 hk.2⟩)⟩
def Part.all (ps : List Part) : Part where
 P := fun w ok => Sep w ok ps
 mono := fun h hk => h.shrink hk
 move := fun h hm => Sep.moved hm h (fun k _ hk e => e hk)
def Part.ex {α : Type} (f : α → Part) : Part where
 P := fun w ok => ∃ x, (f x).P w ok
 mono := fun ⟨x, h⟩ hk => ⟨x, (f x).mono h hk⟩
 move := fun ⟨x, h⟩ hm => ⟨x, (f x).move h hm⟩
def Part.pure (p : Prop) : Part where
 P := fun _ _ => p
 mono := fun h _ => h
 move := fun h _ => h
section
variable {w w' : World} {a b c d e f : Part} {F G : List Part}
theorem Sp.nil (w : World) : Sp w [] := trivial
theorem Sp.tail (h : Sp w (a :: F)) : Sp w F := Sep.tail h
theorem Sp.s1 (h : Sp w (a :: b :: F)) : Sp w (b :: a :: F) := Sep.swap h
theorem Sp.s2 (h : Sp w (a :: b :: c :: F)) : Sp w (c :: a :: b :: F) := Sp.s1 (Sep.cons (fun _ => Sep.swap) h)
theorem Sp.s3 (h : Sp w (a :: b :: c :: d :: F)) : Sp w (d :: a :: b :: c :: F) := Sp.s1 (Sep.cons (fun _ h => Sep.swap (Sep.cons (fun _ => Sep.swap) h)) h)
theorem Sp.s4 (h : Sp w (a :: b :: c :: d :: e :: F)) : Sp w (e :: a :: b :: c :: d :: F) := Sp.s1 (Sep.cons (fun _ h => Sep.swap (Sep.cons (fun _ h => Sep.swap (Sep.cons (fun _ => Sep.swap) h)) h)) h)
theorem Sp.s5 (h : Sp w (a :: b :: c :: d :: e :: f :: F)) : Sp w (f :: a :: b :: c :: d :: e :: F) := Sp.s1 (Sep.cons (fun _ h => Sep.swap (Sep.cons (fun _ h => Sep.swap (Sep.cons (fun _ h => Sep.swap (Sep.cons (fun _ => Sep.swap) h)) h)) h)) h)
theorem Sp.below (h : Sp w F) (hb : Below w.heap.size w w') : Sp w' F :=
 (Sep.moved (Moved.of_below hb (fun _ => False)) h (fun _ _ _ e => e)).wide (fun _ hk => Nat.lt_of_lt_of_le hk hb.size)
theorem Sp.alloc (h : Sp w F) (o : Obj) : Sp (w.alloc o) F := h.below (cU (Below.refl _ _) o)
theorem Sp.drewN (h : Sp w F) (n : Nat) : Sp (w.drewN n) F := h.below (eH (Below.refl _ _) n)
theorem Sp.drew (h : Sp w F) : Sp w.drew F := h.below (fZ (Below.refl _ _))
theorem Sp.new (h : Sp w F) (hb : Below w.heap.size w w') (ha : a.P w' (fun k => w.heap.size ≤ k ∧ k < w'.heap.size)) : Sp w' (a :: F) :=
 ⟨fun k => w.heap.size ≤ k ∧ k < w'.heap.size, fun k hk => hk.2, ha, (Sep.moved (Moved.of_below hb (fun _ => False)) h (fun _ _ _ e => e)).wide (fun k hk => ⟨Nat.lt_of_lt_of_le hk hb.size, fun e => by omega⟩)⟩
theorem Sp.head (h : Sp w (a :: F)) : ∃ ok : Nat → Prop, (∀ k, ok k → k < w.heap.size) ∧ a.P w ok ∧
  ∀ w' qs, Moved w w' ok → Sep w' (fun k => ok k ∨ w.heap.size ≤ k ∧ k < w'.heap.size) qs → Sp w' (qs ++ F) := by
 obtain ⟨ok, h1, h2, h3⟩ := h
 refine ⟨ok, h1, h2, fun w' qs hm hq => ?_⟩
 refine Sep.app hq (Sep.moved hm h3 (fun k hk hf => hf.2)) (fun k hk => ?_) (fun k hk => Nat.lt_of_lt_of_le hk.1 hm.size) (fun k hk hf => ?_)
 ·
  rcases hk with hk | hk
  ·
   exact Nat.lt_of_lt_of_le (h1 k hk) hm.size
  ·
   exact hk.2
 ·
  rcases hk with hk | hk
  ·
   exact hf.2 hk
  ·
   omega
theorem Sp.head1 (h : Sp w (a :: F)) : ∃ ok : Nat → Prop, (∀ k, ok k → k < w.heap.size) ∧ a.P w ok ∧
  ∀ w' (q : Part), Moved w w' ok → q.P w' (fun k => ok k ∨ w.heap.size ≤ k ∧ k < w'.heap.size) → Sp w' (q :: F) := by
 obtain ⟨ok, h1, h2, h3⟩ := h.head
 exact ⟨ok, h1, h2, fun w' q hm hq => h3 w' [q] hm ⟨_, fun _ hk => hk, hq, trivial⟩⟩
theorem Sp.ofEx {α : Type} {f : α → Part} (h : Sp w (Part.ex f :: F)) : ∃ x, Sp w (f x :: F) := by
 obtain ⟨ok, h1, ⟨x, h2⟩, h3⟩ := h
 exact ⟨x, ok, h1, h2, h3⟩
theorem Sp.toEx {α : Type} {f : α → Part} (x : α) (h : Sp w (f x :: F)) : Sp w (Part.ex f :: F) := by
 obtain ⟨ok, h1, h2, h3⟩ := h
 exact ⟨ok, h1, ⟨x, h2⟩, h3⟩
theorem Sp.ofAll {ps : List Part} (h : Sp w (Part.all ps :: F)) : Sp w (ps ++ F) := by
 obtain ⟨ok, h1, h2, h3⟩ := h
 exact Sep.app h2 h3 h1 (fun k hk => hk.1) (fun k hk hf => hf.2 hk)
theorem Sp.toAll {ps : List Part} (h : Sp w (ps ++ F)) : Sp w (Part.all ps :: F) := by
 obtain ⟨ok, h1, h2, h3⟩ := Sep.split h
 exact ⟨ok, h1, h2, h3⟩
theorem Sp.ofPure {p : Prop} (h : Sp w (Part.pure p :: F)) : p ∧ Sp w F := by
 obtain ⟨ok, h1, h2, h3⟩ := h
 exact ⟨h2, h3.wide (fun k hk => hk.1)⟩
theorem Sp.toPure {p : Prop} (hp : p) (h : Sp w F) : Sp w (Part.pure p :: F) := ⟨fun _ => False, fun _ h => h.elim, hp, h.wide (fun k hk => ⟨hk, fun e => e⟩)⟩
theorem Sp.has (h : Sp w (a :: F)) : ∃ ok, a.P w ok := by
 obtain ⟨ok, _, h2, _⟩ := h
 exact ⟨ok, h2⟩
end
def Old (w0 : World) : Part where
 P := fun w ok => (∀ k, k < w0.heap.size → ok k) ∧ Below w0.heap.size w0 w
 mono := fun h hk => ⟨fun k hk0 => hk k (Nat.lt_of_lt_of_le hk0 h.2.size) (h.1 k hk0), h.2⟩
 move := fun h hm => ⟨h.1, h.2.trans ⟨hm.os, hm.tape, hm.output, hm.size, fun k hk => hm.block k (Nat.lt_of_lt_of_le hk h.2.size) (fun e => e (h.1 k hk))⟩⟩
theorem Sp.start (w : World) : Sp w [Old w] := ⟨fun k => k < w.heap.size, fun _ h => h, ⟨fun _ h => h, Below.refl _ _⟩, trivial⟩
theorem Sp.old {w w0 : World} {F : List Part} (h : Sp w (Old w0 :: F)) : Below w0.heap.size w0 w := (h.has).elim fun _ h => h.2
def Row {α : Type} (d : Kd α) (e : Nat) (v : Value) (xs : List α) : Part where
 P := fun w ok => d.R e w 0 ok v xs
 mono := fun h hk => R_mono (fH h) (fun k hk' => hk k hk'.2.2.1 hk'.1)
 move := fun h hm => R_step h (fun k ho hk => hm.block k hk (fun hn => hn ho))
theorem Sp.row {α : Type} {d : Kd α} {e : Nat} {v : Value} {xs : List α} {w : World} {F : List Part} (h : Sp w (Row d e v xs :: F)) : ∃ A c, v = .slice A xs.length c ∧ xs.length ≤ c ∧ d.C w A xs.length xs := (h.has).elim fun _ h => R_reads h
theorem Sp.made {α : Type} {d : Kd α} {e : Nat} {v : Value} {xs : List α} {w w' : World} {F : List Part} {ok : Nat → Prop} (h : Sp w F) (hb : Below w.heap.size w w') (hr : d.R e w' w.heap.size ok v xs) : Sp w' (Row d e v xs :: F) :=
 h.new (a := Row d e v xs) hb (dN (R_mono (fH hr) (fun k hk => ⟨hk.2.1, hk.2.2.1⟩)) (Nat.zero_le _))
def Blk (g : Nat) (o : Obj) : Part where
 P := fun w ok => ok g ∧ w.heap[g]? = some o
 mono := fun h hk => ⟨hk g (Array.getElem?_eq_some_iff.1 h.2).1 h.1, h.2⟩
 move := fun h hm => ⟨h.1, hm.blk h.2 (fun hn => hn h.1)⟩
theorem Sp.blk {g : Nat} {o : Obj} {w : World} {F : List Part} (h : Sp w (Blk g o :: F)) : w.heap[g]? = some o := (h.has).elim fun _ h => h.2
theorem Sp.box {w : World} {F : List Part} (h : Sp w F) (o : Obj) : Sp (w.alloc o) (Blk w.heap.size o :: F) :=
 h.new (a := Blk w.heap.size o) (cU (Below.refl _ _) o) ⟨⟨Nat.le_refl _, by simp⟩, blk_new w o⟩
theorem setCell_blk {w : World} {g j : Nat} {cs : Array Value} {t : TypeId} {fz : Nat × Nat} (h : w.heap[g]? = some (.cells cs t fz)) (u : Value) : (w.setCell ⟨g, j, none⟩ u).heap[g]? = some (.cells (cs.setIfInBounds j u) t fz) := by
 simp only [World.setCell, Array.getElem?_modify, if_true, h, Option.map_some]
 rfl
theorem Sp.store {g : Nat} {cs : Array Value} {t : TypeId} {fz : Nat × Nat} {w : World} {F : List Part} (h : Sp w (Blk g (.cells cs t fz) :: F)) (j : Nat) (u : Value) : Sp (w.setCell ⟨g, j, none⟩ u) (Blk g (.cells (cs.setIfInBounds j u) t fz) :: F) := by
 obtain ⟨ok, h1, h2, h3⟩ := h.head1
 exact h3 _ _ ((Moved.refl w ok).set (fun _ => h2.1) u) ⟨.inl h2.1, setCell_blk h2.2 u⟩
def El {α : Type} (d : Kd α) (p : α) (cs : List Value) : Part where
 P := fun w ok => d.M w 0 ok p cs
 mono := fun h hk => d.M_mono (fun k hk' => hk k hk'.2.2.1 hk'.1) (d.M_bound h)
 move := fun h hm => Kd.M_step h (fun k ho hk => hm.block k hk (fun hn => hn ho))
section
variable {P : Program} {ops : Array Oper} {rest : List Oper} {o : Oper} {a : Act} {Q : Exit → Act → World → Prop} {α : Type}
theorem Sp.appended {d : Kd α} {e : TypeId} {W w1 : World} {F : List Part} {v v1 : Value} {ys : List α} {ok1 ok2 : Nat → Prop} (h1 : ∀ k, ok1 k → k < W.heap.size) (h2 : ∀ k, ok2 k → k < W.heap.size)
  (h3 : Sep W (fun k => (k < W.heap.size ∧ ¬ ok1 k) ∧ ¬ ok2 k) F) (hv : ∀ k, v.ownBlock = some k → ok1 k) (hr : d.R e w1 0 (fun k => ok1 k ∨ ok2 k ∨ W.heap.size ≤ k) v1 ys) (hg : W.grownBy w1 v.ownBlock) : Sp w1 (Row d e v1 ys :: F) := by
 refine ⟨fun k => (ok1 k ∨ ok2 k ∨ W.heap.size ≤ k) ∧ k < w1.heap.size, fun k hk => hk.2, R_mono (fH hr) (fun k hk => ⟨hk.1, hk.2.2.1⟩), ?_⟩
 refine (Sep.moved (Moved.of_grown hg (S := ok1) (fun i hi _ => hv i hi)) h3 (fun k _ hf => hf.1.2)).wide (fun k hk => ⟨Nat.lt_of_lt_of_le hk.1.1 hg.size, fun e => ?_⟩)
 rcases e.1 with e | e | e
 ·
  exact hk.1.2 e
 ·
  exact hk.2 e
 ·
  have := hk.1.1; omega
theorem Sp.append (d : Kd α) {W : World} {F : List Part} (hgd : o.guard = none) (s x : Operand) (t e : TypeId) (z : Value) (bytes : Nat)
  (ho : o.op = .call { callee := .builtin .append, args := #[s, x], argTypes := #[t, t] })
  (ht : P.underlying t = some (.slice e)) (hinfo : (P.info? e).map (fun i => (i.zero, i.size, i.bytes)) = some (some z, d.sz, bytes)) (hz : z.cells.size = d.sz) (hs0 : 0 < d.sz) (hb0 : 0 < bytes)
  (v : Value) (xs : List α) (p : α) (cs : List Value) (hs : a.eval s = v) (hx : a.eval x = .slice (some ⟨W.heap.size, 0, none⟩) 1 1)
  (hS : Sp W (Row d e v xs :: El d p cs :: F)) (hl : (xs.length + 1) * bytes ≤ 140737488355328)
  (h : ∀ v1 w1, Sp w1 (Row d e v1 (xs ++ [p]) :: F) → wpList P ops Q rest (a.put o.dst v1) w1) :
  wpList P ops Q (o :: rest) a (W.alloc (.cells cs.toArray e)) := by
 obtain ⟨ok1, h1, hr, ok2, h2, hp, h3⟩ := hS
 refine fV d (w0 := W) 0 hgd s x t e z bytes ho ht hinfo hz hs0 hb0 v xs p cs (fun k => ok1 k ∨ ok2 k ∨ W.heap.size ≤ k) ok2 hs hx hp (fun k hk => ⟨.inr (.inl hk), fun e => (h2 k hk).2 (hr.1 k e.symm)⟩) (fun k hk => .inr (.inr hk)) (R_mono hr (fun k hk => .inl hk)) (Below.refl _ _) (Nat.zero_le _) hl ?_
 intro v1 w1 hr1 _ hg _
 exact h v1 w1 (Sp.appended h1 (fun k hk => (h2 k hk).1) h3 hr.1 hr1 hg)
theorem Sp.appendRow (d : Kd α) {W : World} {F : List Part} (hgd : o.guard = none) (s x : Operand) (t e : TypeId) (z : Value) (bytes : Nat)
  (ho : o.op = .call { callee := .builtin .append, args := #[s, x], argTypes := #[t, t] })
  (ht : P.underlying t = some (.slice e)) (hinfo : (P.info? e).map (fun i => (i.zero, i.size, i.bytes)) = some (some z, d.sz, bytes)) (hz : z.cells.size = d.sz) (hs0 : 0 < d.sz) (hb0 : 0 < bytes)
  (v : Value) (xs ys : List α) (A : Option Addr) (m c : Nat) (hs : a.eval s = v) (hx : a.eval x = .slice A m c)
  (hKM : ∀ x cs, d.K W x cs → d.M W 0 (fun _ => False) x cs) (hS : Sp W (Row d e v xs :: F)) (hR : d.C W A m ys) (hl : (xs.length + m) * bytes ≤ 140737488355328)
  (h : ∀ v1 w1, Sp w1 (Row d e v1 (xs ++ ys) :: F) → wpList P ops Q rest (a.put o.dst v1) w1) :
  wpList P ops Q (o :: rest) a W := by
 obtain ⟨ok1, h1, hr, h3⟩ := hS
 refine fK d (w0 := W) 0 hgd s x t e z bytes ho ht hinfo hz hs0 hb0 v xs ys A m c (fun k => ok1 k ∨ False ∨ W.heap.size ≤ k) (fun _ => False) hs hx (R_mono hr (fun k hk => .inl hk)) hR hKM (fun _ h => h.elim) (fun k hk => .inr (.inr hk)) (Below.refl _ _) (Nat.zero_le _) hl ?_
 intro v1 w1 hr1 _ hg _
 exact h v1 w1 (Sp.appended (ok2 := fun _ => False) h1 (fun k hk => hk.elim) (h3.wide (fun k hk => ⟨hk, fun e => e⟩)) hr.1 hr1 hg)
end
theorem row_form {α : Type} {d : Kd α} {e : Nat} {w : World} {base : Nat} {ok : Nat → Prop} {v : Value} {xs : List α} (h : d.R e w base ok v xs) (hp : 0 < xs.length) : ∃ g cap, v = .slice (some ⟨g, 0, none⟩) xs.length cap := by
 obtain ⟨_, inner, ho, _⟩ := h
 rcases ho.2 with ⟨_, h0⟩ | ⟨g, cap, cur, rfl, _⟩
 ·
  omega
 ·
  exact ⟨g, cap, rfl⟩
theorem Sp.setElem {α : Type} {d : Kd α} {e g n cap : Nat} {w : World} {xs : List α} {F : List Part} (hS : Sp w (Row d e (.slice (some ⟨g, 0, none⟩) n cap) xs :: F)) (i : Nat) (hi : i < n) (x' : α) (seg : List Value) (hM : d.M w 0 (fun _ => False) x' seg) :
  Sp (w.setCells g (i * d.sz) seg) (Row d e (.slice (some ⟨g, 0, none⟩) n cap) (xs.set i x') :: F) := by
 obtain ⟨ok, h1, h2, h3⟩ := hS.head1
 have hl : seg.length = d.sz := d.K_len (d.K_of_M hM)
 obtain ⟨c, hcl, _, hcc, _⟩ := R_elem h2 x' (i : Int) z2_ z2_
 obtain ⟨hr, hg⟩ := R_seg h2 (i : Int) z2_ z2_ (c := c) (seg := seg) (j := 0) (x' := x') (okp := fun _ => False) hcl hcc z2_ (by
  have : c.take 0 ++ seg ++ c.drop (0 + seg.length) = seg := by simp; omega
  rw [this]; exact hM) (fun _ h => h.elim)
 simp only [Int.toNat_natCast, Nat.add_zero] at hr hg
 exact h3 _ _ (Moved.of_grown hg (fun j hj _ => by injection hj with hj; subst hj; exact h2.1 _ rfl)) (R_mono hr (fun k hk => .inl hk))
theorem Sp.elem {α : Type} {d : Kd α} {e g n cap : Nat} {w : World} {xs : List α} {F : List Part} (hS : Sp w (Row d e (.slice (some ⟨g, 0, none⟩) n cap) xs :: F)) (z : α) (i : Nat) (hi : i < n) :
  ∃ c, c.length = d.sz ∧ (∀ j u, c[j]? = some u → w.cell? ⟨g, i * d.sz + j, none⟩ = some u) ∧ (∀ j, w.frozen? ⟨g, i * d.sz + j, none⟩ = false) ∧ d.K w (xs.getD i z) c := by
 obtain ⟨ok, h2⟩ := hS.has
 obtain ⟨c, hcl, hM, hcc, hf⟩ := R_elem h2 z (i : Int) z2_ z2_
 simp only [Int.toNat_natCast] at hM hcc hf
 exact ⟨c, hcl, hcc, hf, d.K_of_M hM⟩
theorem hY {w w1 : World} (h : w.grownBy w1 none) : Below w.heap.size w w1 := ⟨h.os, h.tape, h.output, h.size, fun k hk => h.block k hk (by simp)⟩
structure Stop (p : Prop) : Prop where
 go : p
theorem eX (W : World) : ({ heap := W.heap, tape := W.tape, drawn := W.drawn + 1, os := W.os, output := W.output } : World) = W.drew := rfl
section
variable {P : Program} {ops : Array Oper} {o : Oper} {a : Act} {Q : Exit → Act → World → Prop} {Kc : Act → World → Prop} {α : Type}
theorem Sp.append_step (d : Kd α) {W : World} {F : List Part} (hw : Region.wanted o (yielded ops a.tmps) = true) (s x : Operand) (t e : TypeId) (z : Value) (bytes : Nat)
  (ho : o.op = .call { callee := .builtin .append, args := #[s, x], argTypes := #[t, t] })
  (ht : P.underlying t = some (.slice e)) (hinfo : (P.info? e).map (fun i => (i.zero, i.size, i.bytes)) = some (some z, d.sz, bytes)) (hz : z.cells.size = d.sz) (hs0 : 0 < d.sz) (hb0 : 0 < bytes)
  (v : Value) (xs : List α) (p : α) (cs : List Value) (hs : a.eval s = v) (hx : a.eval x = .slice (some ⟨W.heap.size, 0, none⟩) 1 1)
  (hS : Sp W (Row d e v xs :: El d p cs :: F)) (hl : (xs.length + 1) * bytes ≤ 140737488355328)
  (h : ∀ v1 w1, Sp w1 (Row d e v1 (xs ++ [p]) :: F) → Kc (a.put o.dst v1) w1) :
  if Region.wanted o (yielded ops a.tmps) = true then Oper.wp P o a (W.alloc (.cells cs.toArray e)) Kc Q else Kc (a.put o.dst undef) (W.alloc (.cells cs.toArray e)) := by
 obtain ⟨ok1, h1, hr, ok2, h2, hp, h3⟩ := hS
 refine R_append_step d (w0 := W) 0 hw s x t e z bytes ho ht hinfo hz hs0 hb0 v xs p cs (fun k => ok1 k ∨ ok2 k ∨ W.heap.size ≤ k) ok2 hs hx hp (fun k hk => ⟨.inr (.inl hk), fun e => (h2 k hk).2 (hr.1 k e.symm)⟩) (fun k hk => .inr (.inr hk)) (R_mono hr (fun k hk => .inl hk)) (Below.refl _ _) (Nat.zero_le _) hl ?_
 intro v1 w1 hr1 _ hg _
 exact h v1 w1 (Sp.appended h1 (fun k hk => (h2 k hk).1) h3 hr.1 hr1 hg)
end
theorem Sp.as {w : World} {a b : Part} {F : List Part} (h : Sp w (a :: F)) (hab : ∀ ok, a.P w ok → b.P w ok) : Sp w (b :: F) := by
 obtain ⟨ok, h1, h2, h3⟩ := h
 exact ⟨ok, h1, hab ok h2, h3⟩
end Go.Proofs.Ytcbfliajgopdaaa.Sep
end
section
namespace Go.Proofs.Ytcbfliajgopdaaa.Ops
open Go.RowKit PAll Plain PrintWords PrintLast PrintMore Go.Proofs.Ytcbfliajgopdaaa.Sep ZipT PrintWords.Kd PrintMore.Kd
set_option linter.unusedVariables false
set_option linter.unusedSimpArgs false
def WrP (ty : TypeId) (g : Nat) (s : Wr) : Part := Part.ex fun v : Value => Part.all [Blk g (.cells #[v, .bool s.2] ty (0, 0)), Row (Kd.int .u8) 5 v s.1]
section
variable {w : World} {ty : TypeId} {g : Nat} {s : Wr} {F : List Part}
theorem WrP.open (h : Sp w (WrP ty g s :: F)) : ∃ v, Sp w (Blk g (.cells #[v, .bool s.2] ty (0, 0)) :: Row (Kd.int .u8) 5 v s.1 :: F) := by
 obtain ⟨v, h⟩ := h.ofEx
 exact ⟨v, h.ofAll⟩
theorem WrP.shut {v : Value} {bs : List Int} {bad : Bool} (h : Sp w (Blk g (.cells #[v, .bool bad] ty (0, 0)) :: Row (Kd.int .u8) 5 v bs :: F)) : Sp w (WrP ty g (bs, bad) :: F) :=
 Sp.toEx (f := fun v : Value => Part.all [Blk g (.cells #[v, .bool bad] ty (0, 0)), Row (Kd.int .u8) 5 v bs]) v (Sp.toAll (ps := [_, _]) h)
theorem sPut_len (n size : Int) : (sPut [] n size).1.length ≤ 7 := by
 unfold sPut
 split
 ·
  rename_i h; simp [dL]; omega
 ·
  simp
theorem cH (n size : Int) (s : Wr) : (wNum n size s).1.length ≤ s.1.length + 7 := by
 have := sPut_len n size
 unfold wNum wAdd; simp only [List.length_append]; omega
theorem gR (bs : List Int) (bad : Bool) (A : Option Addr) (c : Nat) (b : List Int) (e : Int) (hS : Sp w (WrP ty g (bs, bad) :: Row (Kd.int .u8) 5 (.slice A b.length c) b :: F)) (hl : bs.length + b.length ≤ 100000000000000) :
  Calls Try.prog 86 #[.pointer (some ⟨g, 0, none⟩), .slice A b.length c, .int .i64 e] w fun r w' => (∃ v, r = .returned v) ∧ Sp w' (WrP ty g (wAdd (bs, bad) (b, e)) :: F) := by
 obtain ⟨v, hS⟩ := WrP.open hS
 obtain ⟨A0, c0, rfl, hc0, _⟩ := hS.tail.row
 have h0 : w.cell? ⟨g, 0, none⟩ = some (.slice A0 bs.length c0) := aC hS.blk 0
 have h1 : w.cell? ⟨g, 1, none⟩ = some (.bool bad) := aC hS.blk 1
 have f0 := aH hS.blk 0
 have f1 := aH hS.blk 1
 have key : ∀ nb : Bool, Aside0 (Sp (w.setCell ⟨g, 1, none⟩ (.bool nb)) (Blk g (.cells #[.slice A0 bs.length c0, .bool nb] ty (0, 0)) :: Row (Kd.int .u8) 5 (.slice A0 bs.length c0) bs :: Row (Kd.int .u8) 5 (.slice A b.length c) b :: F)) := fun nb => ⟨hS.store 1 (.bool nb)⟩
 have HL := mk_ hl
 clear hS hl hc0
 cases bad with
 | true =>
  have HS1 := key true
  have HC1 := mk_ (HS1.out.s2.row.elim fun _ h => h.elim fun _ h => (show Kd.C (Kd.int .u8) _ A b.length b by have e_ := h.1; injection e_ with e1 e2 e3; rw [e1]; exact h.2.2))
  have k0 := aC HS1.out.blk 0
  have kf := aH HS1.out.blk 0
  clear key
  go_enter Try.func86, Try.ntmps86
  go_wp2_with ((with_reducible refine cJ (b := .append) (xs := #[.tmp 21, .tmp 22]) rfl ?_); at_builtin; refine Sp.appendRow (Kd.int .u8) rfl (.tmp 21) (.tmp 22) 22 5 (.int .u8 0) 1 rfl Try.underlying22 z1_ rfl z4_ z2_ (.slice A0 bs.length c0) bs b A b.length c rfl rfl (fun _ _ h => h) HS1.out.s1 HC1.out (by have := HL.out; omega) ?_; intro v1 w1 h1; obtain ⟨A1, c1, rfl, _, _⟩ := h1.row; have k1 := aC h1.s1.blk 0; have kg := aH h1.s1.blk 0; have HS2 := mk_ h1; clear h1)
  go_end0
  refine ⟨⟨_, rfl⟩, ?_⟩
  have h2 := HS2.out.s1.store 0 (.slice A1 (bs ++ b).length c1)
  have h3 := (WrP.shut (bs := bs ++ b) (bad := true) h2).s1.tail
  have e1 : wAdd (bs, true) (b, e) = (bs ++ b, true) := by unfold wAdd; simp
  first | rw [e1] | (rw [he] at e1; rw [e1])
  rw [List.length_append] at h3
  exact h3
 | false =>
  by_cases he : e = 0
  ·
   have hb0 : (e == 0) = true := beq_iff_eq.2 he
   have hb1 : (e != 0) = false := bne_eq_false_iff_eq.2 he
   have hb2 : decide (e = 0) = true := decide_eq_true he
   have HS1 := key false
   have HC1 := mk_ (HS1.out.s2.row.elim fun _ h => h.elim fun _ h => (show Kd.C (Kd.int .u8) _ A b.length b by have e_ := h.1; injection e_ with e1 e2 e3; rw [e1]; exact h.2.2))
   have k0 := aC HS1.out.blk 0
   have kf := aH HS1.out.blk 0
   clear key
   go_enter Try.func86, Try.ntmps86
   go_wp2_with ((with_reducible refine cJ (b := .append) (xs := #[.tmp 21, .tmp 22]) rfl ?_); at_builtin; refine Sp.appendRow (Kd.int .u8) rfl (.tmp 21) (.tmp 22) 22 5 (.int .u8 0) 1 rfl Try.underlying22 z1_ rfl z4_ z2_ (.slice A0 bs.length c0) bs b A b.length c rfl rfl (fun _ _ h => h) HS1.out.s1 HC1.out (by have := HL.out; omega) ?_; intro v1 w1 h1; obtain ⟨A1, c1, rfl, _, _⟩ := h1.row; have k1 := aC h1.s1.blk 0; have kg := aH h1.s1.blk 0; have HS2 := mk_ h1; clear h1)
   go_end0
   refine ⟨⟨_, rfl⟩, ?_⟩
   have h2 := HS2.out.s1.store 0 (.slice A1 (bs ++ b).length c1)
   have h3 := (WrP.shut (bs := bs ++ b) (bad := false) h2).s1.tail
   have e1 : wAdd (bs, false) (b, e) = (bs ++ b, false) := by unfold wAdd; simp [he]
   first | rw [e1] | (rw [he] at e1; rw [e1])
   rw [List.length_append] at h3
   exact h3
  have hb0 : (e == 0) = false := beq_eq_false_iff_ne.2 he
  have hb1 : (e != 0) = true := bne_iff_ne.2 he
  have hb2 : decide (e = 0) = false := decide_eq_false he
  have HS1 := key true
  have HC1 := mk_ (HS1.out.s2.row.elim fun _ h => h.elim fun _ h => (show Kd.C (Kd.int .u8) _ A b.length b by have e_ := h.1; injection e_ with e1 e2 e3; rw [e1]; exact h.2.2))
  have k0 := aC HS1.out.blk 0
  have kf := aH HS1.out.blk 0
  clear key
  go_enter Try.func86, Try.ntmps86
  go_wp2_with ((with_reducible refine cJ (b := .append) (xs := #[.tmp 21, .tmp 22]) rfl ?_); at_builtin; refine Sp.appendRow (Kd.int .u8) rfl (.tmp 21) (.tmp 22) 22 5 (.int .u8 0) 1 rfl Try.underlying22 z1_ rfl z4_ z2_ (.slice A0 bs.length c0) bs b A b.length c rfl rfl (fun _ _ h => h) HS1.out.s1 HC1.out (by have := HL.out; omega) ?_; intro v1 w1 h1; obtain ⟨A1, c1, rfl, _, _⟩ := h1.row; have k1 := aC h1.s1.blk 0; have kg := aH h1.s1.blk 0; have HS2 := mk_ h1; clear h1)
  go_end0
  refine ⟨⟨_, rfl⟩, ?_⟩
  have h2 := HS2.out.s1.store 0 (.slice A1 (bs ++ b).length c1)
  have h3 := (WrP.shut (bs := bs ++ b) (bad := true) h2).s1.tail
  have e1 : wAdd (bs, false) (b, e) = (bs ++ b, true) := by unfold wAdd; simp [he]
  first | rw [e1] | (rw [he] at e1; rw [e1])
  rw [List.length_append] at h3
  exact h3
theorem cB (s : Wr) (n size : Int) (hS : Sp w (WrP ty g s :: F)) (hl : s.1.length ≤ 90000000000000) :
  Calls Try.prog 49 #[.pointer (some ⟨g, 0, none⟩), .int .i64 n, .int .i64 size] w fun r w' => (∃ v, r = .returned v) ∧ Sp w' (WrP ty g (wNum n size s) :: F) := by
 have HS := mk_ hS
 have HL := mk_ hl
 have HP := mk_ (put_eq 10 [] n size (by simp) (Nat.le_refl _))
 clear hS hl
 go_enter Try.func49, Try.ntmps49
 go_wp2_with (first
  | (go_at_call 85; refine (PAll.wire_Put.calls 10 none 0 [] n size (sPut [] n size).1 (sPut [] n size).2 _ (C_nil _ _) (Nat.le_refl _) HP.out).mono ?_; rintro e V ⟨u, rfl, hr, hq⟩; obtain ⟨Au, cu, rfl⟩ := dH hr; have HS1 := mk_ (Sp.made HS.out hq hr); clear hr hq)
  | (go_at_call 86; refine (gR s.1 s.2 Au cu (sPut [] n size).1 (sPut [] n size).2 HS1.out.s1 (by have := HL.out; have := sPut_len n size; omega)).mono ?_; rintro e V2 ⟨⟨u, rfl⟩, h2⟩; have HS2 := mk_ h2; clear h2))
 go_end0
 exact ⟨⟨_, rfl⟩, HS2.out⟩
theorem kH (t : ByteArray) : (sPutText [] t).1.length ≤ 25 := by
 unfold sPutText
 split
 ·
  rename_i h; simp [dV]; omega
 ·
  simp
theorem jI (t : ByteArray) (s : Wr) : (wText t s).1.length ≤ s.1.length + 25 := by
 have := kH t
 unfold wText wAdd; simp only [List.length_append]; omega
theorem hH (s : Wr) (t : ByteArray) (hS : Sp w (WrP ty g s :: F)) (hl : s.1.length ≤ 90000000000000) :
  Calls Try.prog 87 #[.pointer (some ⟨g, 0, none⟩), .string t] w fun r w' => (∃ v, r = .returned v) ∧ Sp w' (WrP ty g (wText t s) :: F) := by
 have HS := mk_ hS
 have HL := mk_ hl
 have HP := mk_ (putText_eq [] t (by simp))
 clear hS hl
 go_enter Try.func87, Try.ntmps87
 go_wp2_with (first
  | (go_at_call 104; refine (PAll.wire_PutText.calls none 0 [] t (sPutText [] t).1 (sPutText [] t).2 _ (C_nil _ _) (Nat.le_refl _) HP.out).mono ?_; rintro e V ⟨u, rfl, hr, hq⟩; obtain ⟨Au, cu, rfl⟩ := dH hr; have HS1 := mk_ (Sp.made HS.out hq hr); clear hr hq)
  | (go_at_call 86; refine (gR s.1 s.2 Au cu (sPutText [] t).1 (sPutText [] t).2 HS1.out.s1 (by have := HL.out; have := kH t; omega)).mono ?_; rintro e V2 ⟨⟨u, rfl⟩, h2⟩; have HS2 := mk_ h2; clear h2))
 go_end0
 exact ⟨⟨_, rfl⟩, HS2.out⟩
theorem fC (s : Wr) (d : Dt) (hS : Sp w (WrP ty g s :: F)) (hl : s.1.length ≤ 80000000000000) :
  Calls Try.prog 88 #[.pointer (some ⟨g, 0, none⟩), .agg #[.int .i64 d.f0, .int .i64 d.f1]] w fun r w' => (∃ v, r = .returned v) ∧ Sp w' (WrP ty g (wDot d s) :: F) := by
 have HB := mk_ ((hS.box (.cells #[.int .i64 d.f0, .int .i64 d.f1] 50 (0, 0))).s1)
 have HL := mk_ hl
 clear hS hl
 go_enter Try.func88, Try.ntmps88
 go_wp2_with (first
  | (go_at_call 49; (with_reducible show Calls _ _ #[_, .int .i64 d.f0, .int .i64 1] _ _); refine (cB (s) d.f0 1 HB.out (by have := HL.out; omega)).mono ?_; rintro e V0 ⟨⟨u, rfl⟩, h1⟩; have k1 := aC h1.s1.blk 1; have HS1 := mk_ h1; clear h1)
  | (go_at_call 49; (with_reducible show Calls _ _ #[_, .int .i64 d.f1, .int .i64 4] _ _); refine (cB (wNum d.f0 1 (s)) d.f1 4 HS1.out (by have := HL.out; have := cH d.f0 1 (s); omega)).mono ?_; rintro e V1 ⟨⟨u, rfl⟩, h1⟩; have HS2 := mk_ h1; clear h1))
 go_end0
 exact ⟨⟨_, rfl⟩, HS2.out.s1.tail⟩
theorem fT (s : Wr) (d : St) (hS : Sp w (WrP ty g s :: F)) (hl : s.1.length ≤ 80000000000000) :
  Calls Try.prog 48 #[.pointer (some ⟨g, 0, none⟩), .agg #[.int .i64 d.f0, .int .i64 d.f1, .int .i64 d.f2]] w fun r w' => (∃ v, r = .returned v) ∧ Sp w' (WrP ty g (wStamp d s) :: F) := by
 have HB := mk_ ((hS.box (.cells #[.int .i64 d.f0, .int .i64 d.f1, .int .i64 d.f2] 26 (0, 0))).s1)
 have HL := mk_ hl
 clear hS hl
 go_enter Try.func48, Try.ntmps48
 go_wp2_with (first
  | (go_at_call 49; (with_reducible show Calls _ _ #[_, .int .i64 d.f0, .int .i64 6] _ _); refine (cB (s) d.f0 6 HB.out (by have := HL.out; omega)).mono ?_; rintro e V0 ⟨⟨u, rfl⟩, h1⟩; have k1 := aC h1.s1.blk 1; have HS1 := mk_ h1; clear h1)
  | (go_at_call 49; (with_reducible show Calls _ _ #[_, .int .i64 d.f1, .int .i64 3] _ _); refine (cB (wNum d.f0 6 (s)) d.f1 3 HS1.out (by have := HL.out; have := cH d.f0 6 (s); omega)).mono ?_; rintro e V1 ⟨⟨u, rfl⟩, h1⟩; have k2 := aC h1.s1.blk 2; have HS2 := mk_ h1; clear h1)
  | (go_at_call 49; (with_reducible show Calls _ _ #[_, .int .i64 d.f2, .int .i64 1] _ _); refine (cB (wNum d.f1 3 (wNum d.f0 6 (s))) d.f2 1 HS2.out (by have := HL.out; have := cH d.f0 6 (s); have := cH d.f1 3 (wNum d.f0 6 (s)); omega)).mono ?_; rintro e V2 ⟨⟨u, rfl⟩, h1⟩; have HS3 := mk_ h1; clear h1))
 go_end0
 exact ⟨⟨_, rfl⟩, HS3.out.s1.tail⟩
theorem fM (d : Dt) (s : Wr) : (wDot d s).1.length ≤ s.1.length + 14 := by
 have h1 := cH d.f0 1 s
 have h2 := cH d.f1 4 (wNum d.f0 1 s)
 unfold wDot; omega
theorem gW (d : St) (s : Wr) : (wStamp d s).1.length ≤ s.1.length + 21 := by
 have h1 := cH d.f0 6 s
 have h2 := cH d.f1 3 (wNum d.f0 6 s)
 have h3 := cH d.f2 1 (wNum d.f1 3 (wNum d.f0 6 s))
 unfold wStamp; omega
theorem eF {α : Type} (f : α → Wr → Wr) : ∀ (l : List α) (x : α) (s : Wr), wAll f (l ++ [x]) s = f x (wAll f l s)
 | [], x, s => rfl
 | y :: l, x, s => by rw [List.cons_append, wAll, wAll, eF f l x]
theorem eQ {α : Type} {f : α → Wr → Wr} {m : Nat} (hf : ∀ x s, (f x s).1.length ≤ s.1.length + m) : ∀ (l : List α) (s : Wr), (wAll f l s).1.length ≤ s.1.length + m * l.length
 | [], s => by simp [wAll]
 | y :: l, s => by
  have h1 := eQ hf l (f y s)
  have h2 := hf y s
  rw [wAll, List.length_cons, Nat.mul_succ]; omega
theorem eL {α : Type} {l : List α} {i : Nat} (h : i < l.length) : l.take (i + 1) = l.take i ++ [l[i]] := by rw [List.take_add_one, List.getElem?_eq_getElem h]; rfl
theorem rd_get {l : List Int} {i : Nat} (h : i < l.length) : rd l (i : Int) = l[i] := by
 show l.getD (i : Int).toNat 0 = _
 rw [Int.toNat_natCast, List.getD_eq_getElem?_getD, List.getElem?_eq_getElem h]; rfl
theorem gE {w0 : World} (A : Option Addr) (c : Nat) (l : List Int) (hC : Kd.C (Kd.int .i64) w0 A l.length l) (hlc : l.length ≤ c) (hll : l.length ≤ 1000) (s : Wr) (hS : Sp w (WrP ty g s :: Old w0 :: F)) (hl : s.1.length ≤ 70000000000000) :
  Calls Try.prog 47 #[.pointer (some ⟨g, 0, none⟩), .slice A l.length c] w fun r w' => (∃ v, r = .returned v) ∧ Sp w' (WrP ty g (wNums l s) :: Old w0 :: F) := by
 obtain ⟨bs, bad⟩ := s
 have HC := mk_ hC
 have HLL := mk_ hll
 have HL := mk_ (show bs.length ≤ 70000000000000 from hl)
 obtain ⟨v, hS⟩ := WrP.open hS
 have h1 : w.cell? ⟨g, 1, none⟩ = some (.bool bad) := aC hS.blk 1
 have f1 := aH hS.blk 1
 have key : ∀ nb : Bool, Aside0 (Sp (w.setCell ⟨g, 1, none⟩ (.bool nb)) (WrP ty g (bs, nb) :: Old w0 :: F)) := fun nb => ⟨WrP.shut (hS.store 1 (.bool nb))⟩
 clear hS hC hlc hll hl
 cases bad with
 | true =>
  have hcase : True := trivial
  have HS1 := key true
  have hn0 : wOr (decide (l.length > 5)) (bs, true) = (bs, true) := by unfold wOr; simp [hcase]
  clear key
  go_enter Try.func47, Try.ntmps47
  go_wp2_with (go_at_call 49; refine (cB (bs, true) (l.length : Int) 1 HS1.out (by have := HL.out; show bs.length ≤ _; omega)).mono ?_; rintro e V ⟨⟨u, rfl⟩, h1⟩; have HS2 := mk_ h1; clear h1)
  go_loopg [24] (l.length + 1) (fun kq v24 W' => ∃ (i : Nat), v24 = .int .i64 (i : Int) ∧ Aside0 (Sp W' (WrP ty g (wAll (fun n => wNum n 4) (l.take i) (wNum (l.length : Int) 1 (bs, true))) :: Old w0 :: F)) ∧ Aside0 (kq + i = l.length + 1 ∧ i ≤ l.length))
  case atStart => exact ⟨0, rfl, ⟨HS2.out⟩, ⟨by omega⟩⟩
  case round =>
   obtain ⟨i, rfl, HA, HK⟩ := hrel
   obtain ⟨k1, rfl⟩ : ∃ k1, gk = k1 + 1 := ⟨gk - 1, by have := HK.out; omega⟩
   by_cases hi : i < l.length
   rotate_left
   ·
    have hie : i = l.length := by have := HK.out; omega
    subst hie
    have hb2' : decide ((l.length : Int) < (l.length : Int)) = false := decide_eq_false z2_
    have hb3' : decide (l.length < l.length) = false := decide_eq_false z2_
    clear hi
    go_wp2
    go_end0
    refine ⟨⟨_, rfl⟩, ?_⟩
    have h := HA.out
    rw [List.take_length] at h
    unfold wNums
    rw [hn0]
    exact h
   have hx := Kd.at_int (aV HC.out HA.out.s1.old) (i : Int) z2_ z2_
   obtain ⟨ad, hA, hx⟩ := hx
   cases hA
   rw [rd_get hi, Int.toNat_natCast] at hx
   have hb0 : (0 ≤ (i : Int)) = True := eq_true z2_
   have hb1 : ((i : Int) < (l.length : Int)) = True := eq_true z2_
   have hb2 : decide ((i : Int) < (l.length : Int)) = true := decide_eq_true z2_
   have hb3 : decide (i < l.length) = true := decide_eq_true hi
   have HI2 := mk_ hi
   have HT := mk_ (eL hi)
   generalize hlx : l[i] = x at *
   clear hi hlx
   go_wp2_with (go_at_call 49; refine (cB _ x 4 HA.out (by have := HL.out; have h1 := eQ (f := fun n => wNum n 4) (m := 7) (fun x s => cH x 4 s) (l.take i) (wNum (l.length : Int) 1 (bs, true)); have h2 := cH (l.length : Int) 1 (bs, true); have h3 := HLL.out; have h4 := List.length_take_le i l; have h6 := HI2.out; have h5 : (bs, true).1.length = bs.length := rfl; omega)).mono ?_; rintro e V2 ⟨⟨u, rfl⟩, h1⟩; have HS3 := mk_ h1; clear h1)
   go_roundg k1
   case measure => exact Nat.lt_succ_self _
   case rel => exact ⟨i + 1, by rw [w64 z2_ (by have := HI2.out; have := HLL.out; omega)]; rfl, ⟨by rw [HT.out, eF]; exact HS3.out⟩, ⟨by have := HK.out; omega, by have := HI2.out; omega⟩⟩
 | false =>
  by_cases hcase : l.length > 5
  ·
   have hd1 : decide ((5 : Int) < (l.length : Int)) = true := decide_eq_true z2_
   have hd2 : decide (5 < l.length) = true := decide_eq_true hcase
   have HS1 := key true
   have hn0 : wOr (decide (l.length > 5)) (bs, false) = (bs, true) := by unfold wOr; simp [hcase]
   clear key
   go_enter Try.func47, Try.ntmps47
   go_wp2_with (go_at_call 49; refine (cB (bs, true) (l.length : Int) 1 HS1.out (by have := HL.out; show bs.length ≤ _; omega)).mono ?_; rintro e V ⟨⟨u, rfl⟩, h1⟩; have HS2 := mk_ h1; clear h1)
   go_loopg [24] (l.length + 1) (fun kq v24 W' => ∃ (i : Nat), v24 = .int .i64 (i : Int) ∧ Aside0 (Sp W' (WrP ty g (wAll (fun n => wNum n 4) (l.take i) (wNum (l.length : Int) 1 (bs, true))) :: Old w0 :: F)) ∧ Aside0 (kq + i = l.length + 1 ∧ i ≤ l.length))
   case atStart => exact ⟨0, rfl, ⟨HS2.out⟩, ⟨by omega⟩⟩
   case round =>
    obtain ⟨i, rfl, HA, HK⟩ := hrel
    obtain ⟨k1, rfl⟩ : ∃ k1, gk = k1 + 1 := ⟨gk - 1, by have := HK.out; omega⟩
    by_cases hi : i < l.length
    rotate_left
    ·
     have hie : i = l.length := by have := HK.out; omega
     subst hie
     have hb2' : decide ((l.length : Int) < (l.length : Int)) = false := decide_eq_false z2_
     have hb3' : decide (l.length < l.length) = false := decide_eq_false z2_
     clear hi
     go_wp2
     go_end0
     refine ⟨⟨_, rfl⟩, ?_⟩
     have h := HA.out
     rw [List.take_length] at h
     unfold wNums
     rw [hn0]
     exact h
    have hx := Kd.at_int (aV HC.out HA.out.s1.old) (i : Int) z2_ z2_
    obtain ⟨ad, hA, hx⟩ := hx
    cases hA
    rw [rd_get hi, Int.toNat_natCast] at hx
    have hb0 : (0 ≤ (i : Int)) = True := eq_true z2_
    have hb1 : ((i : Int) < (l.length : Int)) = True := eq_true z2_
    have hb2 : decide ((i : Int) < (l.length : Int)) = true := decide_eq_true z2_
    have hb3 : decide (i < l.length) = true := decide_eq_true hi
    have HI2 := mk_ hi
    have HT := mk_ (eL hi)
    generalize hlx : l[i] = x at *
    clear hi hlx
    go_wp2_with (go_at_call 49; refine (cB _ x 4 HA.out (by have := HL.out; have h1 := eQ (f := fun n => wNum n 4) (m := 7) (fun x s => cH x 4 s) (l.take i) (wNum (l.length : Int) 1 (bs, true)); have h2 := cH (l.length : Int) 1 (bs, true); have h3 := HLL.out; have h4 := List.length_take_le i l; have h6 := HI2.out; have h5 : (bs, true).1.length = bs.length := rfl; omega)).mono ?_; rintro e V2 ⟨⟨u, rfl⟩, h1⟩; have HS3 := mk_ h1; clear h1)
    go_roundg k1
    case measure => exact Nat.lt_succ_self _
    case rel => exact ⟨i + 1, by rw [w64 z2_ (by have := HI2.out; have := HLL.out; omega)]; rfl, ⟨by rw [HT.out, eF]; exact HS3.out⟩, ⟨by have := HK.out; omega, by have := HI2.out; omega⟩⟩
  have hd1 : decide ((5 : Int) < (l.length : Int)) = false := decide_eq_false z2_
  have hd2 : decide (5 < l.length) = false := decide_eq_false hcase
  have HS1 := key false
  have hn0 : wOr (decide (l.length > 5)) (bs, false) = (bs, false) := by unfold wOr; simp [hcase]
  clear key
  go_enter Try.func47, Try.ntmps47
  go_wp2_with (go_at_call 49; refine (cB (bs, false) (l.length : Int) 1 HS1.out (by have := HL.out; show bs.length ≤ _; omega)).mono ?_; rintro e V ⟨⟨u, rfl⟩, h1⟩; have HS2 := mk_ h1; clear h1)
  go_loopg [24] (l.length + 1) (fun kq v24 W' => ∃ (i : Nat), v24 = .int .i64 (i : Int) ∧ Aside0 (Sp W' (WrP ty g (wAll (fun n => wNum n 4) (l.take i) (wNum (l.length : Int) 1 (bs, false))) :: Old w0 :: F)) ∧ Aside0 (kq + i = l.length + 1 ∧ i ≤ l.length))
  case atStart => exact ⟨0, rfl, ⟨HS2.out⟩, ⟨by omega⟩⟩
  case round =>
   obtain ⟨i, rfl, HA, HK⟩ := hrel
   obtain ⟨k1, rfl⟩ : ∃ k1, gk = k1 + 1 := ⟨gk - 1, by have := HK.out; omega⟩
   by_cases hi : i < l.length
   rotate_left
   ·
    have hie : i = l.length := by have := HK.out; omega
    subst hie
    have hb2' : decide ((l.length : Int) < (l.length : Int)) = false := decide_eq_false z2_
    have hb3' : decide (l.length < l.length) = false := decide_eq_false z2_
    clear hi
    go_wp2
    go_end0
    refine ⟨⟨_, rfl⟩, ?_⟩
    have h := HA.out
    rw [List.take_length] at h
    unfold wNums
    rw [hn0]
    exact h
   have hx := Kd.at_int (aV HC.out HA.out.s1.old) (i : Int) z2_ z2_
   obtain ⟨ad, hA, hx⟩ := hx
   cases hA
   rw [rd_get hi, Int.toNat_natCast] at hx
   have hb0 : (0 ≤ (i : Int)) = True := eq_true z2_
   have hb1 : ((i : Int) < (l.length : Int)) = True := eq_true z2_
   have hb2 : decide ((i : Int) < (l.length : Int)) = true := decide_eq_true z2_
   have hb3 : decide (i < l.length) = true := decide_eq_true hi
   have HI2 := mk_ hi
   have HT := mk_ (eL hi)
   generalize hlx : l[i] = x at *
   clear hi hlx
   go_wp2_with (go_at_call 49; refine (cB _ x 4 HA.out (by have := HL.out; have h1 := eQ (f := fun n => wNum n 4) (m := 7) (fun x s => cH x 4 s) (l.take i) (wNum (l.length : Int) 1 (bs, false)); have h2 := cH (l.length : Int) 1 (bs, false); have h3 := HLL.out; have h4 := List.length_take_le i l; have h6 := HI2.out; have h5 : (bs, false).1.length = bs.length := rfl; omega)).mono ?_; rintro e V2 ⟨⟨u, rfl⟩, h1⟩; have HS3 := mk_ h1; clear h1)
   go_roundg k1
   case measure => exact Nat.lt_succ_self _
   case rel => exact ⟨i + 1, by rw [w64 z2_ (by have := HI2.out; have := HLL.out; omega)]; rfl, ⟨by rw [HT.out, eF]; exact HS3.out⟩, ⟨by have := HK.out; omega, by have := HI2.out; omega⟩⟩
end
end Go.Proofs.Ytcbfliajgopdaaa.Ops
end
section
namespace Go.Proofs.Ytcbfliajgopdaaa.Ops
open Go.RowKit PAll Plain PrintWords PrintLast PrintMore Go.Proofs.Ytcbfliajgopdaaa.Sep ZipT PrintWords.Kd PrintMore.Kd
set_option linter.unusedVariables false
set_option linter.unusedSimpArgs false
def RdP (ty : TypeId) (g : Nat) (A : Option Addr) (n c : Nat) (r : Rr) : Part := Blk g (.cells #[.slice A n c, .int .i64 r.1, .bool r.2] ty (0, 0))
section
variable {w w0 : World} {ty : TypeId} {g : Nat} {A : Option Addr} {c : Nat} {l : List Int} {F : List Part}
theorem dY (hC0 : Kd.C (Kd.int .u8) w0 A l.length l) (hlc : l.length ≤ c) (hb : Bytes l) (hl : l.length ≤ 1000000) (r : Rr) (size : Int) (hp : 0 ≤ r.1 ∧ r.1 ≤ l.length) (hS : Sp w (RdP ty g A l.length c r :: Old w0 :: F)) :
  Calls Try.prog 29 #[.pointer (some ⟨g, 0, none⟩), .int .i64 size] w fun e w' => e = .returned (.int .i64 (rNum size l r).1) ∧ Sp w' (RdP ty g A l.length c (rNum size l r).2 :: Old w0 :: F) := by
 have HC := mk_ (aV hC0 hS.s1.old)
 have HLC := mk_ hlc
 have hg := get_eq 20 l r.1 size hb hl z2_ (Nat.le_refl _)
 have hu : rNum size l r = rOf (0 : Int) (sGet l r.1 size) r := rfl
 rw [hu]
 obtain ⟨at_, bad⟩ := r
 dsimp only at hg hp hu ⊢
 generalize hgg : sGet l at_ size = gg at hg hu ⊢
 obtain ⟨v_, nx_, e_⟩ := gg
 have HG := mk_ (show PAll.wire_Get.f 20 l at_ size = some (v_, nx_, e_) from hg)
 have h0 : w.cell? ⟨g, 0, none⟩ = some (.slice A l.length c) := aC hS.blk 0
 have h1 : w.cell? ⟨g, 1, none⟩ = some (.int .i64 at_) := aC hS.blk 1
 have h2 : w.cell? ⟨g, 2, none⟩ = some (.bool bad) := aC hS.blk 2
 have f1 := aH hS.blk 1
 have f2 := aH hS.blk 2
 have HS := mk_ hS
 clear hS hC0 hlc hb hl hp hg hu hgg
 cases bad with
 | true =>
  go_enter Try.func29, Try.ntmps29
  go_wp2
  go_quiet (first | (go_at_call 72; refine (PAll.wire_Get.calls 20 A c l at_ size v_ nx_ _ _ (by repeat (first | exact HC.out | refine C_drewN ?_ _ | refine C_drew ?_)) HLC.out HG.out).mono ?_; rintro e V ⟨rfl, ⟨m, rfl⟩⟩; (try first | exact ⟨rfl, _, World.drewN_drewN _ _ _⟩ | exact ⟨rfl, _, Eq.trans (World.drewN_drewN _ _ _) (congrArg (World.drewN _) (Nat.add_assoc _ _ _))⟩)))
  go_wp2
  go_ret
  have hr : rOf (0 : Int) (v_, nx_, e_) (at_, true) = ((0 : Int), (at_, true)) := by unfold rOf; simp
  rw [hr]
  refine ⟨rfl, ?_⟩
  refine Sp.store (cs := #[.slice A l.length c, .int .i64 at_, .bool true]) ?_ 2 (.bool true)
  repeat (first | exact HS.out | refine Sp.drewN ?_ _ | refine Sp.drew ?_)
 | false =>
  by_cases he : e_ = 0
  ·
   subst he
   go_enter Try.func29, Try.ntmps29
   go_wp2
   go_quiet (first | (go_at_call 72; refine (PAll.wire_Get.calls 20 A c l at_ size v_ nx_ _ _ (by repeat (first | exact HC.out | refine C_drewN ?_ _ | refine C_drew ?_)) HLC.out HG.out).mono ?_; rintro e V ⟨rfl, ⟨m, rfl⟩⟩; (try first | exact ⟨rfl, _, World.drewN_drewN _ _ _⟩ | exact ⟨rfl, _, Eq.trans (World.drewN_drewN _ _ _) (congrArg (World.drewN _) (Nat.add_assoc _ _ _))⟩)))
   go_wp2
   go_ret
   have hr : rOf (0 : Int) (v_, nx_, 0) (at_, false) = (v_, (nx_, false)) := by unfold rOf; simp
   rw [hr]
   refine ⟨rfl, ?_⟩
   refine Sp.store (cs := #[.slice A l.length c, .int .i64 at_, .bool false]) ?_ 1 (.int .i64 nx_)
   repeat (first | exact HS.out | refine Sp.drewN ?_ _ | refine Sp.drew ?_)
  have hb0 : (e_ == 0) = false := beq_eq_false_iff_ne.2 he
  have hb1 : (e_ != 0) = true := bne_iff_ne.2 he
  have hb2 : decide (e_ = 0) = false := decide_eq_false he
  go_enter Try.func29, Try.ntmps29
  go_wp2
  go_quiet (first | (go_at_call 72; refine (PAll.wire_Get.calls 20 A c l at_ size v_ nx_ _ _ (by repeat (first | exact HC.out | refine C_drewN ?_ _ | refine C_drew ?_)) HLC.out HG.out).mono ?_; rintro e V ⟨rfl, ⟨m, rfl⟩⟩; (try first | exact ⟨rfl, _, World.drewN_drewN _ _ _⟩ | exact ⟨rfl, _, Eq.trans (World.drewN_drewN _ _ _) (congrArg (World.drewN _) (Nat.add_assoc _ _ _))⟩)))
  go_wp2
  go_ret
  have hr : rOf (0 : Int) (v_, nx_, e_) (at_, false) = ((0 : Int), (at_, true)) := by unfold rOf; simp [he]
  rw [hr]
  refine ⟨rfl, ?_⟩
  refine Sp.store (cs := #[.slice A l.length c, .int .i64 at_, .bool false]) ?_ 2 (.bool true)
  repeat (first | exact HS.out | refine Sp.drewN ?_ _ | refine Sp.drew ?_)
theorem rtext_calls (hC0 : Kd.C (Kd.int .u8) w0 A l.length l) (hlc : l.length ≤ c) (hb : Bytes l) (hl : l.length ≤ 1000000) (r : Rr) (hp : 0 ≤ r.1 ∧ r.1 ≤ l.length) (hS : Sp w (RdP ty g A l.length c r :: Old w0 :: F)) :
  Calls Try.prog 73 #[.pointer (some ⟨g, 0, none⟩)] w fun e w' => e = .returned (.string (rText l r).1) ∧ Sp w' (RdP ty g A l.length c (rText l r).2 :: Old w0 :: F) := by
 have HC := mk_ (aV hC0 hS.s1.old)
 have HLC := mk_ hlc
 have hg := getText_eq 20 l r.1 hb hl z2_ (Nat.le_refl _)
 have hu : rText l r = rOf (⟨#[]⟩ : ByteArray) (sGetText l r.1) r := rfl
 rw [hu]
 obtain ⟨at_, bad⟩ := r
 dsimp only at hg hp hu ⊢
 generalize hgg : sGetText l at_ = gg at hg hu ⊢
 obtain ⟨v_, nx_, e_⟩ := gg
 have HG := mk_ (show PAll.wire_GetText.f 20 l at_ = some (v_, nx_, e_) from hg)
 have h0 : w.cell? ⟨g, 0, none⟩ = some (.slice A l.length c) := aC hS.blk 0
 have h1 : w.cell? ⟨g, 1, none⟩ = some (.int .i64 at_) := aC hS.blk 1
 have h2 : w.cell? ⟨g, 2, none⟩ = some (.bool bad) := aC hS.blk 2
 have f1 := aH hS.blk 1
 have f2 := aH hS.blk 2
 have HS := mk_ hS
 clear hS hC0 hlc hb hl hp hg hu hgg
 cases bad with
 | true =>
  go_enter Try.func73, Try.ntmps73
  go_wp2
  go_quiet (first | (go_at_call 96; refine (PAll.wire_GetText.calls 20 A c l at_ v_ nx_ _ _ (by repeat (first | exact HC.out | refine C_drewN ?_ _ | refine C_drew ?_)) HLC.out HG.out).mono ?_; rintro e V ⟨rfl, ⟨m, rfl⟩⟩; (try first | exact ⟨rfl, _, World.drewN_drewN _ _ _⟩ | exact ⟨rfl, _, Eq.trans (World.drewN_drewN _ _ _) (congrArg (World.drewN _) (Nat.add_assoc _ _ _))⟩)))
  go_wp2
  go_ret
  have hr : rOf (⟨#[]⟩ : ByteArray) (v_, nx_, e_) (at_, true) = ((⟨#[]⟩ : ByteArray), (at_, true)) := by unfold rOf; simp
  rw [hr]
  refine ⟨rfl, ?_⟩
  refine Sp.store (cs := #[.slice A l.length c, .int .i64 at_, .bool true]) ?_ 2 (.bool true)
  repeat (first | exact HS.out | refine Sp.drewN ?_ _ | refine Sp.drew ?_)
 | false =>
  by_cases he : e_ = 0
  ·
   subst he
   go_enter Try.func73, Try.ntmps73
   go_wp2
   go_quiet (first | (go_at_call 96; refine (PAll.wire_GetText.calls 20 A c l at_ v_ nx_ _ _ (by repeat (first | exact HC.out | refine C_drewN ?_ _ | refine C_drew ?_)) HLC.out HG.out).mono ?_; rintro e V ⟨rfl, ⟨m, rfl⟩⟩; (try first | exact ⟨rfl, _, World.drewN_drewN _ _ _⟩ | exact ⟨rfl, _, Eq.trans (World.drewN_drewN _ _ _) (congrArg (World.drewN _) (Nat.add_assoc _ _ _))⟩)))
   go_wp2
   go_ret
   have hr : rOf (⟨#[]⟩ : ByteArray) (v_, nx_, 0) (at_, false) = (v_, (nx_, false)) := by unfold rOf; simp
   rw [hr]
   refine ⟨rfl, ?_⟩
   refine Sp.store (cs := #[.slice A l.length c, .int .i64 at_, .bool false]) ?_ 1 (.int .i64 nx_)
   repeat (first | exact HS.out | refine Sp.drewN ?_ _ | refine Sp.drew ?_)
  have hb0 : (e_ == 0) = false := beq_eq_false_iff_ne.2 he
  have hb1 : (e_ != 0) = true := bne_iff_ne.2 he
  have hb2 : decide (e_ = 0) = false := decide_eq_false he
  go_enter Try.func73, Try.ntmps73
  go_wp2
  go_quiet (first | (go_at_call 96; refine (PAll.wire_GetText.calls 20 A c l at_ v_ nx_ _ _ (by repeat (first | exact HC.out | refine C_drewN ?_ _ | refine C_drew ?_)) HLC.out HG.out).mono ?_; rintro e V ⟨rfl, ⟨m, rfl⟩⟩; (try first | exact ⟨rfl, _, World.drewN_drewN _ _ _⟩ | exact ⟨rfl, _, Eq.trans (World.drewN_drewN _ _ _) (congrArg (World.drewN _) (Nat.add_assoc _ _ _))⟩)))
  go_wp2
  go_ret
  have hr : rOf (⟨#[]⟩ : ByteArray) (v_, nx_, e_) (at_, false) = ((⟨#[]⟩ : ByteArray), (at_, true)) := by unfold rOf; simp [he]
  rw [hr]
  refine ⟨rfl, ?_⟩
  refine Sp.store (cs := #[.slice A l.length c, .int .i64 at_, .bool false]) ?_ 2 (.bool true)
  repeat (first | exact HS.out | refine Sp.drewN ?_ _ | refine Sp.drew ?_)
theorem jB (hC0 : Kd.C (Kd.int .u8) w0 A l.length l) (hlc : l.length ≤ c) (hb : Bytes l) (hl : l.length ≤ 1000000) (r : Rr) (size most : Int) (hp : 0 ≤ r.1 ∧ r.1 ≤ l.length) (hS : Sp w (RdP ty g A l.length c r :: Old w0 :: F)) :
  Calls Try.prog 31 #[.pointer (some ⟨g, 0, none⟩), .int .i64 size, .int .i64 most] w fun e w' => e = .returned (.int .i64 (rMany size most l r).1) ∧ Sp w' (RdP ty g A l.length c (rMany size most l r).2 :: Old w0 :: F) := by
 have hN := dY hC0 hlc hb hl r size hp hS
 have hu : rMany size most l r = if (rNum size l r).1 > most then (0, ((rNum size l r).2.1, true)) else rNum size l r := rfl
 rw [hu]; clear hu
 generalize rNum size l r = q at hN ⊢
 obtain ⟨n, at1, bad1⟩ := q
 have HN := mk_ hN
 clear hN hS hC0 hlc hb hl hp
 by_cases hm : n > most
 ·
  have hb0 : decide (most < n) = true := decide_eq_true hm
  rw [if_pos hm]
  clear hm
  go_enter Try.func31, Try.ntmps31
  go_wp2_with (go_at_call 29; refine HN.out.mono ?_; rintro e V ⟨rfl, h1⟩; have HS1 := mk_ h1; have k2 := aC h1.blk 2; have f2 := aH h1.blk 2; clear h1)
  go_ret
  exact ⟨rfl, Sp.store (cs := #[.slice A l.length c, .int .i64 at1, .bool bad1]) HS1.out 2 (.bool true)⟩
 have hb0 : decide (most < n) = false := decide_eq_false hm
 rw [if_neg hm]
 clear hm
 go_enter Try.func31, Try.ntmps31
 go_wp2_with (go_at_call 29; refine HN.out.mono ?_; rintro e V ⟨rfl, h1⟩; have HS1 := mk_ h1; clear h1)
 go_ret
 exact ⟨rfl, HS1.out⟩
end
end Go.Proofs.Ytcbfliajgopdaaa.Ops
end
section
namespace Go.Proofs.Ytcbfliajgopdaaa.Ops
open Go.RowKit PAll Plain PrintWords PrintLast PrintMore Go.Proofs.Ytcbfliajgopdaaa.Sep ZipT PrintWords.Kd PrintMore.Kd
set_option linter.unusedVariables false
set_option linter.unusedSimpArgs false
section
variable {w w0 : World} {ty : TypeId} {g : Nat} {A : Option Addr} {c : Nat} {l : List Int} {F : List Part}
theorem dJ {P : Program} {ops : Array Oper} {rest : List Oper} {o : Oper} {a : Act} {Q : Exit → Act → World → Prop} {W : World} {ty : TypeId} {x y : Operand} (_ho : o.op = .store ty x y) (h : wpList P ops Q (o :: rest) a W) : wpList P ops Q (o :: rest) a W := h
theorem bG {g : Nat} {cs : Array Value} {t : TypeId} {fz : Nat × Nat} {w : World} {F : List Part} (h : Sp w (Blk g (.cells cs t fz) :: F)) (cs' : Array Value) : Sp (w.setRow g cs') (Blk g (.cells cs' t fz) :: F) := by
 obtain ⟨ok, h1, h2, h3⟩ := h.head1
 refine h3 _ _ ⟨rfl, rfl, rfl, by simp [World.setRow], fun i _ hn => ?_⟩ ⟨.inl h2.1, by simp [World.setRow, Array.getElem?_modify, h2.2]⟩
 have : ¬ g = i := fun e => hn (e ▸ h2.1)
 simp [World.setRow, Array.getElem?_modify, this]
def rAt (l : List Int) (r : Rr) : Prop := 0 ≤ r.1 ∧ r.1 ≤ l.length
theorem iG {α : Type} (f : List Int → Rr → α × Rr) (l : List Int) : ∀ (n : Nat) (acc : List α) (r : Rr), rTimes f l (n + 1) acc r = ((rTimes f l n acc r).1 ++ [(f l (rTimes f l n acc r).2).1], (f l (rTimes f l n acc r).2).2)
 | 0, acc, r => rfl
 | n + 1, acc, r => iG f l n (acc ++ [(f l r).1]) (f l r).2
theorem dT {l : List Int} {r : Rr} (hb : Bytes l) (s : Nat) (h1 : 1 ≤ s) (h7 : s ≤ 7) (h : rAt l r) : rAt l (rNum (s : Int) l r).2 := (Reads.num s h1 h7).place l r hb h.1 h.2
theorem jC {α : Type} {f : List Int → Rr → α × Rr} {l : List Int} (hf : ∀ r, rAt l r → rAt l (f l r).2) : ∀ (n : Nat) (acc : List α) (r : Rr), rAt l r → rAt l (rTimes f l n acc r).2
 | 0, acc, r, h => h
 | n + 1, acc, r, h => jC hf n (acc ++ [(f l r).1]) (f l r).2 (hf r h)
theorem jT (hC0 : Kd.C (Kd.int .u8) w0 A l.length l) (hlc : l.length ≤ c) (hb : Bytes l) (hl : l.length ≤ 1000000) (r : Rr) (hp0 : rAt l r) (hp1 : rAt l (rNum 1 l r).2) (hS : Sp w (RdP ty g A l.length c r :: Old w0 :: F)) :
  Calls Try.prog 74 #[.pointer (some ⟨g, 0, none⟩)] w fun e w' => e = .returned (.agg #[.int .i64 (rNum 1 l r).1, .int .i64 (rNum 4 l (rNum 1 l r).2).1]) ∧ Sp w' (RdP ty g A l.length c (rNum 4 l (rNum 1 l r).2).2 :: Old w0 :: F) := by
 have HP0 := mk_ hp0
 have HP1 := mk_ hp1
 have HC := mk_ (And.intro hC0 (And.intro hlc (And.intro hb hl)))
 have HS0 := mk_ (hS.box (.cells #[.int .i64 0, .int .i64 0] 50 (0, 0)))
 clear hS hC0 hlc hb hl hp0 hp1
 go_enter Try.func74, Try.ntmps74
 go_wp2_with (first
  | (go_at_call 29; (with_reducible show Calls _ _ #[_, .int .i64 1] _ _); refine (dY (F := Blk w.heap.size (.cells #[.int .i64 0, .int .i64 0] 50 (0, 0)) :: F) HC.out.1 HC.out.2.1 HC.out.2.2.1 HC.out.2.2.2 r 1 HP0.out (Sp.s1 (Sp.s2 (Sp.s1 HS0.out)))).mono ?_; rintro e V0 ⟨rfl, h1⟩; have HS1 := mk_ h1; clear h1)
  | (go_at_call 29; (with_reducible show Calls _ _ #[_, .int .i64 4] _ _); refine (dY (F := Blk w.heap.size (.cells #[.int .i64 0, .int .i64 0] 50 (0, 0)) :: F) HC.out.1 HC.out.2.1 HC.out.2.2.1 HC.out.2.2.2 (rNum 1 l r).2 4 HP1.out HS1.out).mono ?_; rintro e V1 ⟨rfl, h1⟩; have HS2 := mk_ h1; clear h1)
  | ((with_reducible refine dJ (ty := 50) (x := .tmp 2) (y := .tmp 7) rfl ?_); refine wpList_store_row rfl 50 (.tmp 2) (.tmp 7) rfl w.heap.size #[.int .i64 (rNum 1 l r).1, .int .i64 (rNum 4 l (rNum 1 l r).2).1] rfl rfl 50 #[.int .i64 0, .int .i64 0] HS2.out.s2.blk z1_ rfl z7_ ?_))
 refine bodyPost_ret (results_cell_row rfl _ _ w.heap.size 50 #[.int .i64 (rNum 1 l r).1, .int .i64 (rNum 4 l (rNum 1 l r).2).1] (0, 0) _ rfl (bG HS2.out.s2 _).blk Try.underlying50 rfl z1_) rfl ?_
 exact ⟨rfl, (bG HS2.out.s2 #[.int .i64 (rNum 1 l r).1, .int .i64 (rNum 4 l (rNum 1 l r).2).1]).tail⟩
theorem iF (hC0 : Kd.C (Kd.int .u8) w0 A l.length l) (hlc : l.length ≤ c) (hb : Bytes l) (hl : l.length ≤ 1000000) (r : Rr) (hp0 : rAt l r) (hp1 : rAt l (rNum 6 l r).2) (hp2 : rAt l (rNum 3 l (rNum 6 l r).2).2) (hS : Sp w (RdP ty g A l.length c r :: Old w0 :: F)) :
  Calls Try.prog 28 #[.pointer (some ⟨g, 0, none⟩)] w fun e w' => e = .returned (.agg #[.int .i64 (rNum 6 l r).1, .int .i64 (rNum 3 l (rNum 6 l r).2).1, .int .i64 (rNum 1 l (rNum 3 l (rNum 6 l r).2).2).1]) ∧ Sp w' (RdP ty g A l.length c (rNum 1 l (rNum 3 l (rNum 6 l r).2).2).2 :: Old w0 :: F) := by
 have HP0 := mk_ hp0
 have HP1 := mk_ hp1
 have HP2 := mk_ hp2
 have HC := mk_ (And.intro hC0 (And.intro hlc (And.intro hb hl)))
 have HS0 := mk_ (hS.box (.cells #[.int .i64 0, .int .i64 0, .int .i64 0] 26 (0, 0)))
 clear hS hC0 hlc hb hl hp0 hp1 hp2
 go_enter Try.func28, Try.ntmps28
 go_wp2_with (first
  | (go_at_call 29; (with_reducible show Calls _ _ #[_, .int .i64 6] _ _); refine (dY (F := Blk w.heap.size (.cells #[.int .i64 0, .int .i64 0, .int .i64 0] 26 (0, 0)) :: F) HC.out.1 HC.out.2.1 HC.out.2.2.1 HC.out.2.2.2 r 6 HP0.out (Sp.s1 (Sp.s2 (Sp.s1 HS0.out)))).mono ?_; rintro e V0 ⟨rfl, h1⟩; have HS1 := mk_ h1; clear h1)
  | (go_at_call 29; (with_reducible show Calls _ _ #[_, .int .i64 3] _ _); refine (dY (F := Blk w.heap.size (.cells #[.int .i64 0, .int .i64 0, .int .i64 0] 26 (0, 0)) :: F) HC.out.1 HC.out.2.1 HC.out.2.2.1 HC.out.2.2.2 (rNum 6 l r).2 3 HP1.out HS1.out).mono ?_; rintro e V1 ⟨rfl, h1⟩; have HS2 := mk_ h1; clear h1)
  | (go_at_call 29; (with_reducible show Calls _ _ #[_, .int .i64 1] _ _); refine (dY (F := Blk w.heap.size (.cells #[.int .i64 0, .int .i64 0, .int .i64 0] 26 (0, 0)) :: F) HC.out.1 HC.out.2.1 HC.out.2.2.1 HC.out.2.2.2 (rNum 3 l (rNum 6 l r).2).2 1 HP2.out HS2.out).mono ?_; rintro e V2 ⟨rfl, h1⟩; have HS3 := mk_ h1; clear h1)
  | ((with_reducible refine dJ (ty := 26) (x := .tmp 2) (y := .tmp 9) rfl ?_); refine wpList_store_row rfl 26 (.tmp 2) (.tmp 9) rfl w.heap.size #[.int .i64 (rNum 6 l r).1, .int .i64 (rNum 3 l (rNum 6 l r).2).1, .int .i64 (rNum 1 l (rNum 3 l (rNum 6 l r).2).2).1] rfl rfl 26 #[.int .i64 0, .int .i64 0, .int .i64 0] HS3.out.s2.blk z1_ rfl z7_ ?_))
 refine bodyPost_ret (results_cell_row rfl _ _ w.heap.size 26 #[.int .i64 (rNum 6 l r).1, .int .i64 (rNum 3 l (rNum 6 l r).2).1, .int .i64 (rNum 1 l (rNum 3 l (rNum 6 l r).2).2).1] (0, 0) _ rfl (bG HS3.out.s2 _).blk Try.underlying26 rfl z1_) rfl ?_
 exact ⟨rfl, (bG HS3.out.s2 #[.int .i64 (rNum 6 l r).1, .int .i64 (rNum 3 l (rNum 6 l r).2).1, .int .i64 (rNum 1 l (rNum 3 l (rNum 6 l r).2).2).1]).tail⟩
end
end Go.Proofs.Ytcbfliajgopdaaa.Ops
end
section
namespace Go.Proofs.Ytcbfliajgopdaaa.Ops
open Go.RowKit PAll Plain PrintWords PrintLast PrintMore Go.Proofs.Ytcbfliajgopdaaa.Sep ZipT PrintWords.Kd PrintMore.Kd
set_option linter.unusedVariables false
set_option linter.unusedSimpArgs false
section
variable {w w0 : World} {ty : TypeId} {g : Nat} {A : Option Addr} {c : Nat} {l : List Int} {F : List Part}
theorem sp_el {α : Type} {d : Kd α} {p : α} {cs : List Value} {w : World} {F : List Part} (hM : ∀ (w : World) (ok : Nat → Prop), d.M w 0 ok p cs) (h : Sp w F) : Sp w (El d p cs :: F) :=
 ⟨fun _ => False, fun _ h => h.elim, hM _ _, h.wide (fun k hk => ⟨hk, fun e => e⟩)⟩
theorem dG {α : Type} {d : Kd α} {e : Nat} {w : World} {F : List Part} (h : Sp w F) : Sp w (Row d e (.slice none 0 0) [] :: F) :=
 ⟨fun _ => False, fun _ h => h.elim, R_nil _ _ _ _ _, h.wide (fun k hk => ⟨hk, fun e => e⟩)⟩
theorem fJ {P : Program} {ops : Array Oper} {Q : Exit → Act → World → Prop} {S : World → Prop} {ds : List Nat} {id n : Nat} {a : Act} {w : World} (J : World → Prop) (l : Array Bool) (hm : P.follows .mixedOrders = true) (hn : ops.size = n) (hl : Array.replicate n false = l)
  (hJ : J w.drew) (hS : ∀ W, J W → S W) (h : ∀ W, J W → wpAnyLast P .any ops Q S ds n l a W) : (Code.region id ops true).wp P Q a w :=
 fI l hm hn hl (hS _ hJ) (fun _ => h _ hJ)
theorem gB {α : Type} (f : List Int → Rr → α × Rr) (l : List Int) : ∀ (n : Nat) (acc : List α) (r : Rr), (rTimes f l n acc r).1.length = acc.length + n
 | 0, acc, r => rfl
 | n + 1, acc, r => by rw [rTimes, gB f l n]; simp; omega
theorem rAt_many {l : List Int} {r : Rr} (hb : Bytes l) (s : Nat) (h1 : 1 ≤ s) (h7 : s ≤ 7) (m : Int) (h : rAt l r) : rAt l (rMany (s : Int) m l r).2 := by
 have := dT hb s h1 h7 h
 unfold rMany
 split
 ·
  exact this
 ·
  exact this
theorem rnums_calls (hC0 : Kd.C (Kd.int .u8) w0 A l.length l) (hlc : l.length ≤ c) (hb : Bytes l) (hl : l.length ≤ 1000000) (r : Rr) (hp : rAt l r) (hS : Sp w (RdP ty g A l.length c r :: Old w0 :: F)) :
  Calls Try.prog 27 #[.pointer (some ⟨g, 0, none⟩)] w fun e w' => ∃ v, e = .returned v ∧ Sp w' (Row (Kd.int .i64) 3 v (rNums l r).1 :: RdP ty g A l.length c (rNums l r).2 :: Old w0 :: F) := by
 have hm := rAt_many hb 1 z4_ z4_ 5 hp
 have HN := mk_ (jB hC0 hlc hb hl r 1 5 hp hS)
 have hu : rNums l r = rTimes (rNum 4) l (rMany 1 5 l r).1.toNat [] (rMany 1 5 l r).2 := rfl
 have hle : (rMany 1 5 l r).1 ≤ 5 := by unfold rMany; split <;> omega
 rw [hu]
 have hm : rAt l (rMany 1 5 l r).2 := hm
 generalize rMany 1 5 l r = q at *
 obtain ⟨n, r1⟩ := q
 dsimp only at hle hm HN ⊢
 have HT : Aside0 (∀ i, rAt l (rTimes (rNum 4) l i [] r1).2) := ⟨fun i => jC (fun r h => dT hb 4 z4_ z4_ h) i [] _ hm⟩
 have HC := mk_ (And.intro hC0 (And.intro hlc (And.intro hb hl)))
 have HLE := mk_ hle
 clear hC0 hlc hb hl hp hS hu hle hm
 go_enter Try.func27, Try.ntmps27
 go_wp2_with (go_at_call 31; refine HN.out.mono ?_; rintro e V ⟨rfl, h1⟩; have HS1 := mk_ h1; clear h1)
 go_loopg [6, 3] (n.toNat + 1) (fun kq v6 v3 W' => ∃ (i : Nat) (v : Value), v6 = .int .i64 (i : Int) ∧ v3 = v ∧ Aside0 (Sp W' (Row (Kd.int .i64) 3 v (rTimes (rNum 4) l i [] r1).1 :: RdP ty g A l.length c (rTimes (rNum 4) l i [] r1).2 :: Old w0 :: F)) ∧ Aside0 (kq + i = n.toNat + 1 ∧ i ≤ n.toNat))
 case atStart => exact ⟨0, _, rfl, rfl, ⟨dG HS1.out⟩, ⟨by omega⟩⟩
 case round =>
  obtain ⟨i, _, rfl, rfl, HA, HK⟩ := hrel
  obtain ⟨k1, rfl⟩ : ∃ k1, gk = k1 + 1 := ⟨gk - 1, by have := HK.out; omega⟩
  by_cases hi : (i : Int) < n
  rotate_left
  ·
   have hb2 : decide ((i : Int) < n) = false := decide_eq_false hi
   have hie : i = n.toNat := by have := HK.out; omega
   clear hi
   go_wp2
   go_ret
   subst hie
   exact ⟨_, rfl, HA.out⟩
  have hb2 : decide ((i : Int) < n) = true := decide_eq_true hi
  have HI := mk_ hi
  have HX := mk_ (iG (rNum 4) l i [] r1)
  have HTi := mk_ (HT.out i)
  have HTL : Aside0 ((rTimes (rNum 4) l i [] r1).1.length = i) := ⟨by rw [gB]; simp⟩
  clear hi HT
  generalize rTimes (rNum 4) l i [] r1 = t at *
  obtain ⟨xs, ri⟩ := t
  dsimp only at HA HX HTi HTL
  have HQ := mk_ (fun V hv => dY (ty := ty) (g := g) (w := V) (F := Row (Kd.int .i64) 3 u3 xs :: F) HC.out.1 HC.out.2.1 HC.out.2.2.1 HC.out.2.2.2 ri 4 HTi.out hv)
  generalize rNum 4 l ri = q at *
  obtain ⟨p, rj⟩ := q
  dsimp only at HQ HX
  go_wp2_with (first
   | (go_at_call 29; (with_reducible show Calls _ _ #[_, .int .i64 4] _ _); refine (HQ.out _ (HA.out.s1).s2.s1).mono ?_; rintro e V2 ⟨rfl, h1⟩; have HS3 := mk_ (Sp.s1 (sp_el (d := Kd.int .i64) (p := p) (cs := [.int .i64 p]) (fun _ _ => rfl) h1.s2)); clear h1)
   | ((with_reducible refine cJ (b := .append) (xs := #[.tmp 8, .tmp 11]) rfl ?_); at_builtin; refine Sp.append (Kd.int .i64) rfl (.tmp 8) (.tmp 11) 24 3 (.int .i64 0) 8 rfl Try.underlying24 z1_ rfl z4_ z2_ u3 xs p [.int .i64 p] rfl rfl HS3.out (by have := HTL.out; have := HI.out; have := HLE.out; omega) ?_; intro v1 w1 h1; have HS4 := mk_ h1; clear h1))
  go_roundg k1
  case measure => exact Nat.lt_succ_self _
  case rel => exact ⟨i + 1, v1, by rw [w64 z2_ (by have := HI.out; have := HLE.out; omega)]; rfl, rfl, ⟨by rw [HX.out]; exact HS4.out⟩, ⟨by have := HK.out; omega, by have := HI.out; omega⟩⟩
theorem rop_calls (hC0 : Kd.C (Kd.int .u8) w0 A l.length l) (hlc : l.length ≤ c) (hb : Bytes l) (hl : l.length ≤ 1000000) (r : Rr) (hp : rAt l r) (hS : Sp w (RdP ty g A l.length c r :: Old w0 :: F)) :
  Calls Try.prog 32 #[.pointer (some ⟨g, 0, none⟩)] w fun e w' => ∃ v1 v7 v8, e = .returned (.agg #[.int .i64 (rOp l r).1.f0.f0, .int .i64 (rOp l r).1.f0.f1, v1, .int .i64 (rOp l r).1.f2.f0, .int .i64 (rOp l r).1.f2.f1, .int .i64 (rOp l r).1.f2.f2, .int .i64 (rOp l r).1.f3, .int .i64 (rOp l r).1.f4, .string (rOp l r).1.f5, .int .i64 (rOp l r).1.f6, v7, v8]) ∧
   Sp w' (Row (Kd.int .i64) 3 v1 (rOp l r).1.f1 :: Row k89 89 v7 (rOp l r).1.f7 :: Row k50 50 v8 (rOp l r).1.f8 :: RdP ty g A l.length c (rOp l r).2 :: Old w0 :: F) := by
 obtain ⟨q1, hq1⟩ : ∃ q, q = rNum 1 l r := ⟨_, rfl⟩
 have C1 : ∀ V F', Sp V (RdP ty g A l.length c r :: Old w0 :: F') → Calls Try.prog 29 #[.pointer (some ⟨g, 0, none⟩), .int .i64 1] V (fun e w' => e = .returned (.int .i64 q1.1) ∧ Sp w' (RdP ty g A l.length c q1.2 :: Old w0 :: F')) := fun V F' h => by rw [hq1]; exact dY hC0 hlc hb hl r 1 hp h
 have p1 : rAt l q1.2 := by rw [hq1]; exact dT hb 1 z4_ z4_ hp
 obtain ⟨q2, hq2⟩ : ∃ q, q = rDot l q1.2 := ⟨_, rfl⟩
 have C2 : ∀ V F', Sp V (RdP ty g A l.length c q1.2 :: Old w0 :: F') → Calls Try.prog 74 #[.pointer (some ⟨g, 0, none⟩)] V (fun e w' => e = .returned (.agg #[.int .i64 q2.1.f0, .int .i64 q2.1.f1]) ∧ Sp w' (RdP ty g A l.length c q2.2 :: Old w0 :: F')) := fun V F' h => by rw [hq2]; exact jT hC0 hlc hb hl q1.2 p1 (dT hb 1 z4_ z4_ p1) h
 have p2 : rAt l q2.2 := by rw [hq2]; exact Reads.dot.place l q1.2 hb p1.1 p1.2
 obtain ⟨q3, hq3⟩ : ∃ q, q = rNums l q2.2 := ⟨_, rfl⟩
 have C3 : ∀ V F', Sp V (RdP ty g A l.length c q2.2 :: Old w0 :: F') → Calls Try.prog 27 #[.pointer (some ⟨g, 0, none⟩)] V (fun e w' => ∃ v, e = .returned v ∧ Sp w' (Row (Kd.int .i64) 3 v q3.1 :: RdP ty g A l.length c q3.2 :: Old w0 :: F')) := fun V F' h => by rw [hq3]; exact rnums_calls hC0 hlc hb hl q2.2 p2 h
 have p3 : rAt l q3.2 := by rw [hq3]; exact Reads.nums.place l q2.2 hb p2.1 p2.2
 obtain ⟨q4, hq4⟩ : ∃ q, q = rStamp l q3.2 := ⟨_, rfl⟩
 have C4 : ∀ V F', Sp V (RdP ty g A l.length c q3.2 :: Old w0 :: F') → Calls Try.prog 28 #[.pointer (some ⟨g, 0, none⟩)] V (fun e w' => e = .returned (.agg #[.int .i64 q4.1.f0, .int .i64 q4.1.f1, .int .i64 q4.1.f2]) ∧ Sp w' (RdP ty g A l.length c q4.2 :: Old w0 :: F')) := fun V F' h => by rw [hq4]; exact iF hC0 hlc hb hl q3.2 p3 (dT hb 6 z4_ z4_ p3) (dT hb 3 z4_ z4_ (dT hb 6 z4_ z4_ p3)) h
 have p4 : rAt l q4.2 := by rw [hq4]; exact Reads.stamp.place l q3.2 hb p3.1 p3.2
 obtain ⟨q5, hq5⟩ : ∃ q, q = rNum 1 l q4.2 := ⟨_, rfl⟩
 have C5 : ∀ V F', Sp V (RdP ty g A l.length c q4.2 :: Old w0 :: F') → Calls Try.prog 29 #[.pointer (some ⟨g, 0, none⟩), .int .i64 1] V (fun e w' => e = .returned (.int .i64 q5.1) ∧ Sp w' (RdP ty g A l.length c q5.2 :: Old w0 :: F')) := fun V F' h => by rw [hq5]; exact dY hC0 hlc hb hl q4.2 1 p4 h
 have p5 : rAt l q5.2 := by rw [hq5]; exact dT hb 1 z4_ z4_ p4
 obtain ⟨q6, hq6⟩ : ∃ q, q = rText l q5.2 := ⟨_, rfl⟩
 have C6 : ∀ V F', Sp V (RdP ty g A l.length c q5.2 :: Old w0 :: F') → Calls Try.prog 73 #[.pointer (some ⟨g, 0, none⟩)] V (fun e w' => e = .returned (.string q6.1) ∧ Sp w' (RdP ty g A l.length c q6.2 :: Old w0 :: F')) := fun V F' h => by rw [hq6]; exact rtext_calls hC0 hlc hb hl q5.2 p5 h
 have p6 : rAt l q6.2 := by rw [hq6]; exact Reads.text.place l q5.2 hb p5.1 p5.2
 obtain ⟨q7, hq7⟩ : ∃ q, q = rNum 1 l q6.2 := ⟨_, rfl⟩
 have C7 : ∀ V F', Sp V (RdP ty g A l.length c q6.2 :: Old w0 :: F') → Calls Try.prog 29 #[.pointer (some ⟨g, 0, none⟩), .int .i64 1] V (fun e w' => e = .returned (.int .i64 q7.1) ∧ Sp w' (RdP ty g A l.length c q7.2 :: Old w0 :: F')) := fun V F' h => by rw [hq7]; exact dY hC0 hlc hb hl q6.2 1 p6 h
 have p7 : rAt l q7.2 := by rw [hq7]; exact dT hb 1 z4_ z4_ p6
 have hu : rOp l r = if (rRow l q7.2).2.2 = true then (zOp, (rRow l q7.2).2) else (⟨q2.1, q3.1, q4.1, q1.1, q5.1, q6.1, q7.1, (rRow l q7.2).1, (rDots l (rRow l q7.2).2).1⟩, (rDots l (rRow l q7.2).2).2) := by
  subst hq7 hq6 hq5 hq4 hq3 hq2 hq1; rfl
 have hg := rowRead_eq 80 l q7.2.1 hb hl (by have := p7.2; omega) (Nat.le_refl _)
 have hr : rRow l q7.2 = rOf [] (sRowRead l q7.2.1) q7.2 := rfl
 have pr : rAt l (rRow l q7.2).2 := Reads.row.place l q7.2 hb p7.1 p7.2
 have hcl : ∀ V, Below w0.heap.size w0 V → Kd.C (Kd.int .u8) V A l.length l := fun V h => aV hC0 h
 have CM : ∀ V F' r, rAt l r → Sp V (RdP ty g A l.length c r :: Old w0 :: F') → Calls Try.prog 31 #[.pointer (some ⟨g, 0, none⟩), .int .i64 1, .int .i64 64] V (fun e w' => e = .returned (.int .i64 (rMany 1 64 l r).1) ∧ Sp w' (RdP ty g A l.length c (rMany 1 64 l r).2 :: Old w0 :: F')) := fun V F' r p h => jB hC0 hlc hb hl r 1 64 p h
 have CD : ∀ V F' r, rAt l r → Sp V (RdP ty g A l.length c r :: Old w0 :: F') → Calls Try.prog 74 #[.pointer (some ⟨g, 0, none⟩)] V (fun e w' => e = .returned (.agg #[.int .i64 (rDot l r).1.f0, .int .i64 (rDot l r).1.f1]) ∧ Sp w' (RdP ty g A l.length c (rDot l r).2 :: Old w0 :: F')) := fun V F' r p h => jT hC0 hlc hb hl r p (dT hb 1 z4_ z4_ p) h
 have PM : ∀ r, rAt l r → rAt l (rMany 1 64 l r).2 := fun r p => rAt_many hb 1 z4_ z4_ 64 p
 have PD : ∀ r, rAt l r → rAt l (rDot l r).2 := fun r p => Reads.dot.place l r hb p.1 p.2
 rw [hr] at pr hu
 generalize sRowRead l q7.2.1 = gg at hg hu pr
 obtain ⟨vals, nx, e_⟩ := gg
 clear hr hq7 hq6 hq5 hq4 hq3 hq2 hq1 p1 p2 p3 p4 p5 p6 p7 hb hC0 hp
 obtain ⟨n1, r1⟩ := q1
 obtain ⟨d_, r2⟩ := q2
 obtain ⟨l3, r3⟩ := q3
 obtain ⟨t_, r4⟩ := q4
 obtain ⟨n5, r5⟩ := q5
 obtain ⟨s6, r6⟩ := q6
 obtain ⟨n7, r7⟩ := q7
 obtain ⟨at7, bad7⟩ := r7
 dsimp only at C1 C2 C3 C4 C5 C6 C7 hg hu pr
 have HG := mk_ hg
 have HLC := mk_ hlc
 have HCL := mk_ hcl
 have HC1 := mk_ C1
 have HC2 := mk_ C2
 have HC3 := mk_ C3
 have HC4 := mk_ C4
 have HC5 := mk_ C5
 have HC6 := mk_ C6
 have HC7 := mk_ C7
 have HCM := mk_ CM
 have HCD := mk_ CD
 have HPM := mk_ PM
 have HPD := mk_ PD
 have HS0 := mk_ (Sp.s1 (Sp.s2 (Sp.s1 (hS.box (.cells #[.int .i64 0, .int .i64 0, .slice none 0 0, .int .i64 0, .int .i64 0, .int .i64 0, .int .i64 0, .int .i64 0, .string ⟨#[]⟩, .int .i64 0, .slice none 0 0, .slice none 0 0] 54 (0, 0))))))
 clear C1 C2 C3 C4 C5 C6 C7 CM CD PM PD hg hlc hcl hS
 cases bad7 with
 | true =>
  have hz : rOp l r = (zOp, (at7, true)) := by rw [hu]; unfold rOf; simp
  rw [hz]
  clear hu hz pr
  go_enter Try.func32, Try.ntmps32
  go_wp2_with (first
  | (go_at_call 29; (with_reducible show Calls _ _ _ (World.alloc w _) _); refine (HC1.out _ _ HS0.out).mono ?_; rintro e V1 ⟨rfl, h1⟩; have HS1 := mk_ h1; clear h1)
  | (go_at_call 74; (with_reducible show Calls _ _ _ V1 _); refine (HC2.out _ _ HS1.out).mono ?_; rintro e V2 ⟨rfl, h1⟩; have HS2 := mk_ h1; clear h1)
  | (go_at_call 27; (with_reducible show Calls _ _ _ V2 _); refine (HC3.out _ _ HS2.out).mono ?_; rintro e V3 ⟨v3, rfl, h1⟩; obtain ⟨A3, c3, rfl, _, _⟩ := h1.row; have HS3 := mk_ h1.s1.s2.s1; clear h1)
  | (go_at_call 28; (with_reducible show Calls _ _ _ V3 _); refine (HC4.out _ _ HS3.out).mono ?_; rintro e V4 ⟨rfl, h1⟩; have HS4 := mk_ h1; clear h1)
  | (go_at_call 29; (with_reducible show Calls _ _ _ V4 _); refine (HC5.out _ _ HS4.out).mono ?_; rintro e V5 ⟨rfl, h1⟩; have HS5 := mk_ h1; clear h1)
  | (go_at_call 73; (with_reducible show Calls _ _ _ V5 _); refine (HC6.out _ _ HS5.out).mono ?_; rintro e V6 ⟨rfl, h1⟩; have HS6 := mk_ h1; clear h1)
  | (go_at_call 29; (with_reducible show Calls _ _ _ V6 _); refine (HC7.out _ _ HS6.out).mono ?_; rintro e V7 ⟨rfl, h1⟩; have HS7 := mk_ h1; clear h1)
  | ((with_reducible refine dJ (ty := 54) (x := .tmp 3) (y := .tmp 21) rfl ?_); refine wpList_store_row rfl 54 (.tmp 3) (.tmp 21) rfl V7.heap.size #[.int .i64 d_.f0, .int .i64 d_.f1, .slice A3 l3.length c3, .int .i64 t_.f0, .int .i64 t_.f1, .int .i64 t_.f2, .int .i64 n1, .int .i64 n5, .string s6, .int .i64 n7, .slice none 0 0, .slice none 0 0] rfl rfl 54 #[.int .i64 0, .int .i64 0, .slice none 0 0, .int .i64 0, .int .i64 0, .int .i64 0, .int .i64 0, .int .i64 0, .string ⟨#[]⟩, .int .i64 0, .slice none 0 0, .slice none 0 0] (HS7.out.box (.cells #[.int .i64 0, .int .i64 0, .slice none 0 0, .int .i64 0, .int .i64 0, .int .i64 0, .int .i64 0, .int .i64 0, .string ⟨#[]⟩, .int .i64 0, .slice none 0 0, .slice none 0 0] 54 (0, 0))).blk z1_ rfl z7_ ?_; have HSx := mk_ (bG (HS7.out.box (.cells #[.int .i64 0, .int .i64 0, .slice none 0 0, .int .i64 0, .int .i64 0, .int .i64 0, .int .i64 0, .int .i64 0, .string ⟨#[]⟩, .int .i64 0, .slice none 0 0, .slice none 0 0] 54 (0, 0))) #[.int .i64 d_.f0, .int .i64 d_.f1, .slice A3 l3.length c3, .int .i64 t_.f0, .int .i64 t_.f1, .int .i64 t_.f2, .int .i64 n1, .int .i64 n5, .string s6, .int .i64 n7, .slice none 0 0, .slice none 0 0]); have kr0 := aC HSx.out.s1.blk 0; have kr1 := aC HSx.out.s1.blk 1))
  have hSd := HSx.out.drew
  clear kr0 kr1
  refine fJ (n := 16) (S := fun w' => w'.cell? ⟨g, 0, none⟩ = some (.slice A l.length c) ∧ w'.cell? ⟨g, 1, none⟩ = some (.int .i64 at7) ∧ True) (ds := []) (fun W => Sp W (Blk V7.heap.size (.cells #[.int .i64 d_.f0, .int .i64 d_.f1, .slice A3 l3.length c3, .int .i64 t_.f0, .int .i64 t_.f1, .int .i64 t_.f2, .int .i64 n1, .int .i64 n5, .string s6, .int .i64 n7, .slice none 0 0, .slice none 0 0] 54 (0, 0)) :: RdP ty g A l.length c (at7, true) :: Old w0 :: Row (Kd.int .i64) 3 (.slice A3 l3.length c3) l3 :: Blk w.heap.size (.cells #[.int .i64 0, .int .i64 0, .slice none 0 0, .int .i64 0, .int .i64 0, .int .i64 0, .int .i64 0, .int .i64 0, .string ⟨#[]⟩, .int .i64 0, .slice none 0 0, .slice none 0 0] 54 (0, 0)) :: F)) (Steps.Bs 16 0) z1_ rfl rfl hSd (fun W hJ => ⟨aC hJ.s1.blk 0, aC hJ.s1.blk 1, trivial⟩) (fun W0 hJ => ?_)
  clear hSd HSx
  have hHeld : W0.cell? ⟨g, 0, none⟩ = some (.slice A l.length c) ∧ W0.cell? ⟨g, 1, none⟩ = some (.int .i64 at7) ∧ True := ⟨aC hJ.s1.blk 0, aC hJ.s1.blk 1, trivial⟩
  refine sI 0 23 16 1 ?_
  refine sI 1 24 16 3 ?_
  refine sI 2 25 16 7 ?_
  refine sI 4 27 16 23 ?_
  refine sI 5 28 16 55 ?_
  refine sI 6 29 16 119 ?_
  refine sT hHeld 3 26 16 127 ?_
  refine sT hHeld 7 30 16 255 ?_
  refine one_ (i := 8) (N := some 31) (Steps.Bs 16 511) rfl rfl z1_ z4_ (fun K hK => ?_)
  refine goes_ Try.func76 z1_ rfl #[.slice A l.length c, .int .i64 at7] (by rfl) rfl rfl z6_ ?_
  refine (PAll.row_Read.calls 80 A c l at7 vals nx e_ _ (HCL.out _ hJ.s2.old) HLC.out HG.out).mono ?_
  rintro e V8 ⟨v7_, rfl, hr_, hq_⟩
  obtain ⟨A7, c7, rfl⟩ := dH hr_
  refine ⟨_, rfl, ?_⟩
  have HS8 := mk_ (Sp.made hJ hq_ hr_)
  clear hr_ hq_ hJ hHeld
  refine hK.out _ _ ⟨aC HS8.out.s2.blk 0, aC HS8.out.s2.blk 1, trivial⟩ (fun _ => ?_)
  clear hK K
  refine nrm 31 ?_
  refine sI 9 22 16 1023 ?_
  refine sI 10 32 16 2047 ?_
  refine sI 11 33 16 4095 ?_
  refine sI 12 34 16 8191 ?_
  refine sI 13 4 16 16383 ?_
  refine sI 14 5 16 32767 ?_
  refine sI 15 6 16 65535 ?_
  refine done_ z1_ ?_
  have ks := aC HS8.out.s2.blk
  have fs := aH HS8.out.s2.blk
  have kx := aC HS8.out.s1.blk
  have fx := aH HS8.out.s1.blk
  go_wp2_with (first
  | ((with_reducible refine dJ (ty := 54) (x := .tmp 2) (y := .tmp 46) rfl ?_); have HSA := mk_ (HS8.out.s2.store 2 (.bool true)); refine wpList_store_row rfl 54 (.tmp 2) (.tmp 46) rfl w.heap.size #[.int .i64 0, .int .i64 0, .slice none 0 0, .int .i64 0, .int .i64 0, .int .i64 0, .int .i64 0, .int .i64 0, .string ⟨#[]⟩, .int .i64 0, .slice none 0 0, .slice none 0 0] rfl rfl 54 #[.int .i64 0, .int .i64 0, .slice none 0 0, .int .i64 0, .int .i64 0, .int .i64 0, .int .i64 0, .int .i64 0, .string ⟨#[]⟩, .int .i64 0, .slice none 0 0, .slice none 0 0] HSA.out.s5.blk z1_ rfl z7_ ?_))
  refine bodyPost_ret (results_cell_row rfl _ _ w.heap.size 54 #[.int .i64 0, .int .i64 0, .slice none 0 0, .int .i64 0, .int .i64 0, .int .i64 0, .int .i64 0, .int .i64 0, .string ⟨#[]⟩, .int .i64 0, .slice none 0 0, .slice none 0 0] (0, 0) _ rfl (bG HSA.out.s5 _).blk Try.underlying54 rfl z1_) rfl ?_
  exact ⟨_, _, _, rfl, dG (dG (dG (((bG HSA.out.s5 #[.int .i64 0, .int .i64 0, .slice none 0 0, .int .i64 0, .int .i64 0, .int .i64 0, .int .i64 0, .int .i64 0, .string ⟨#[]⟩, .int .i64 0, .slice none 0 0, .slice none 0 0]).tail.s1.tail.s1.tail.s2.tail : Sp _ (RdP ty g A l.length c (at7, true) :: Old w0 :: F)))))⟩
 | false =>
  by_cases he : e_ = 0
  rotate_left
  ·
   have hz : rOp l r = (zOp, (at7, true)) := by rw [hu]; unfold rOf; simp [he]
   have hb0 : (e_ == 0) = false := beq_eq_false_iff_ne.2 he
   have hb1 : (e_ != 0) = true := bne_iff_ne.2 he
   have hb2 : decide (e_ = 0) = false := decide_eq_false he
   rw [hz]
   clear hu hz pr he
   go_enter Try.func32, Try.ntmps32
   go_wp2_with (first
  | (go_at_call 29; (with_reducible show Calls _ _ _ (World.alloc w _) _); refine (HC1.out _ _ HS0.out).mono ?_; rintro e V1 ⟨rfl, h1⟩; have HS1 := mk_ h1; clear h1)
  | (go_at_call 74; (with_reducible show Calls _ _ _ V1 _); refine (HC2.out _ _ HS1.out).mono ?_; rintro e V2 ⟨rfl, h1⟩; have HS2 := mk_ h1; clear h1)
  | (go_at_call 27; (with_reducible show Calls _ _ _ V2 _); refine (HC3.out _ _ HS2.out).mono ?_; rintro e V3 ⟨v3, rfl, h1⟩; obtain ⟨A3, c3, rfl, _, _⟩ := h1.row; have HS3 := mk_ h1.s1.s2.s1; clear h1)
  | (go_at_call 28; (with_reducible show Calls _ _ _ V3 _); refine (HC4.out _ _ HS3.out).mono ?_; rintro e V4 ⟨rfl, h1⟩; have HS4 := mk_ h1; clear h1)
  | (go_at_call 29; (with_reducible show Calls _ _ _ V4 _); refine (HC5.out _ _ HS4.out).mono ?_; rintro e V5 ⟨rfl, h1⟩; have HS5 := mk_ h1; clear h1)
  | (go_at_call 73; (with_reducible show Calls _ _ _ V5 _); refine (HC6.out _ _ HS5.out).mono ?_; rintro e V6 ⟨rfl, h1⟩; have HS6 := mk_ h1; clear h1)
  | (go_at_call 29; (with_reducible show Calls _ _ _ V6 _); refine (HC7.out _ _ HS6.out).mono ?_; rintro e V7 ⟨rfl, h1⟩; have HS7 := mk_ h1; clear h1)
  | ((with_reducible refine dJ (ty := 54) (x := .tmp 3) (y := .tmp 21) rfl ?_); refine wpList_store_row rfl 54 (.tmp 3) (.tmp 21) rfl V7.heap.size #[.int .i64 d_.f0, .int .i64 d_.f1, .slice A3 l3.length c3, .int .i64 t_.f0, .int .i64 t_.f1, .int .i64 t_.f2, .int .i64 n1, .int .i64 n5, .string s6, .int .i64 n7, .slice none 0 0, .slice none 0 0] rfl rfl 54 #[.int .i64 0, .int .i64 0, .slice none 0 0, .int .i64 0, .int .i64 0, .int .i64 0, .int .i64 0, .int .i64 0, .string ⟨#[]⟩, .int .i64 0, .slice none 0 0, .slice none 0 0] (HS7.out.box (.cells #[.int .i64 0, .int .i64 0, .slice none 0 0, .int .i64 0, .int .i64 0, .int .i64 0, .int .i64 0, .int .i64 0, .string ⟨#[]⟩, .int .i64 0, .slice none 0 0, .slice none 0 0] 54 (0, 0))).blk z1_ rfl z7_ ?_; have HSx := mk_ (bG (HS7.out.box (.cells #[.int .i64 0, .int .i64 0, .slice none 0 0, .int .i64 0, .int .i64 0, .int .i64 0, .int .i64 0, .int .i64 0, .string ⟨#[]⟩, .int .i64 0, .slice none 0 0, .slice none 0 0] 54 (0, 0))) #[.int .i64 d_.f0, .int .i64 d_.f1, .slice A3 l3.length c3, .int .i64 t_.f0, .int .i64 t_.f1, .int .i64 t_.f2, .int .i64 n1, .int .i64 n5, .string s6, .int .i64 n7, .slice none 0 0, .slice none 0 0]); have kr0 := aC HSx.out.s1.blk 0; have kr1 := aC HSx.out.s1.blk 1))
   have hSd := HSx.out.drew
   clear kr0 kr1
   refine fJ (n := 16) (S := fun w' => w'.cell? ⟨g, 0, none⟩ = some (.slice A l.length c) ∧ w'.cell? ⟨g, 1, none⟩ = some (.int .i64 at7) ∧ True) (ds := []) (fun W => Sp W (Blk V7.heap.size (.cells #[.int .i64 d_.f0, .int .i64 d_.f1, .slice A3 l3.length c3, .int .i64 t_.f0, .int .i64 t_.f1, .int .i64 t_.f2, .int .i64 n1, .int .i64 n5, .string s6, .int .i64 n7, .slice none 0 0, .slice none 0 0] 54 (0, 0)) :: RdP ty g A l.length c (at7, false) :: Old w0 :: Row (Kd.int .i64) 3 (.slice A3 l3.length c3) l3 :: Blk w.heap.size (.cells #[.int .i64 0, .int .i64 0, .slice none 0 0, .int .i64 0, .int .i64 0, .int .i64 0, .int .i64 0, .int .i64 0, .string ⟨#[]⟩, .int .i64 0, .slice none 0 0, .slice none 0 0] 54 (0, 0)) :: F)) (Steps.Bs 16 0) z1_ rfl rfl hSd (fun W hJ => ⟨aC hJ.s1.blk 0, aC hJ.s1.blk 1, trivial⟩) (fun W0 hJ => ?_)
   clear hSd HSx
   have hHeld : W0.cell? ⟨g, 0, none⟩ = some (.slice A l.length c) ∧ W0.cell? ⟨g, 1, none⟩ = some (.int .i64 at7) ∧ True := ⟨aC hJ.s1.blk 0, aC hJ.s1.blk 1, trivial⟩
   refine sI 0 23 16 1 ?_
   refine sI 1 24 16 3 ?_
   refine sI 2 25 16 7 ?_
   refine sI 4 27 16 23 ?_
   refine sI 5 28 16 55 ?_
   refine sI 6 29 16 119 ?_
   refine sT hHeld 3 26 16 127 ?_
   refine sT hHeld 7 30 16 255 ?_
   refine one_ (i := 8) (N := some 31) (Steps.Bs 16 511) rfl rfl z1_ z4_ (fun K hK => ?_)
   refine goes_ Try.func76 z1_ rfl #[.slice A l.length c, .int .i64 at7] (by rfl) rfl rfl z6_ ?_
   refine (PAll.row_Read.calls 80 A c l at7 vals nx e_ _ (HCL.out _ hJ.s2.old) HLC.out HG.out).mono ?_
   rintro e V8 ⟨v7_, rfl, hr_, hq_⟩
   obtain ⟨A7, c7, rfl⟩ := dH hr_
   refine ⟨_, rfl, ?_⟩
   have HS8 := mk_ (Sp.made hJ hq_ hr_)
   clear hr_ hq_ hJ hHeld
   refine hK.out _ _ ⟨aC HS8.out.s2.blk 0, aC HS8.out.s2.blk 1, trivial⟩ (fun _ => ?_)
   clear hK K
   refine nrm 31 ?_
   refine sI 9 22 16 1023 ?_
   refine sI 10 32 16 2047 ?_
   refine sI 11 33 16 4095 ?_
   refine sI 12 34 16 8191 ?_
   refine sI 13 4 16 16383 ?_
   refine sI 14 5 16 32767 ?_
   refine sI 15 6 16 65535 ?_
   refine done_ z1_ ?_
   have ks := aC HS8.out.s2.blk
   have fs := aH HS8.out.s2.blk
   have kx := aC HS8.out.s1.blk
   have fx := aH HS8.out.s1.blk
   go_wp2_with (first
  | ((with_reducible refine dJ (ty := 54) (x := .tmp 2) (y := .tmp 46) rfl ?_); have HSA := mk_ (HS8.out.s2.store 2 (.bool true)); refine wpList_store_row rfl 54 (.tmp 2) (.tmp 46) rfl w.heap.size #[.int .i64 0, .int .i64 0, .slice none 0 0, .int .i64 0, .int .i64 0, .int .i64 0, .int .i64 0, .int .i64 0, .string ⟨#[]⟩, .int .i64 0, .slice none 0 0, .slice none 0 0] rfl rfl 54 #[.int .i64 0, .int .i64 0, .slice none 0 0, .int .i64 0, .int .i64 0, .int .i64 0, .int .i64 0, .int .i64 0, .string ⟨#[]⟩, .int .i64 0, .slice none 0 0, .slice none 0 0] HSA.out.s5.blk z1_ rfl z7_ ?_))
   refine bodyPost_ret (results_cell_row rfl _ _ w.heap.size 54 #[.int .i64 0, .int .i64 0, .slice none 0 0, .int .i64 0, .int .i64 0, .int .i64 0, .int .i64 0, .int .i64 0, .string ⟨#[]⟩, .int .i64 0, .slice none 0 0, .slice none 0 0] (0, 0) _ rfl (bG HSA.out.s5 _).blk Try.underlying54 rfl z1_) rfl ?_
   exact ⟨_, _, _, rfl, dG (dG (dG (((bG HSA.out.s5 #[.int .i64 0, .int .i64 0, .slice none 0 0, .int .i64 0, .int .i64 0, .int .i64 0, .int .i64 0, .int .i64 0, .string ⟨#[]⟩, .int .i64 0, .slice none 0 0, .slice none 0 0]).tail.s1.tail.s1.tail.s2.tail : Sp _ (RdP ty g A l.length c (at7, true) :: Old w0 :: F)))))⟩
  ·
   subst he
   have hz : rOf ([] : List V) (vals, nx, 0) (at7, false) = (vals, (nx, false)) := by unfold rOf; simp
   rw [hz] at hu pr
   rw [if_neg (by show ¬ (false = true); decide)] at hu
   rw [hu]
   dsimp only at pr ⊢
   clear hu hz
   have hq : rDots l (nx, false) = rTimes rDot l (rMany 1 64 l (nx, false)).1.toNat [] (rMany 1 64 l (nx, false)).2 := rfl
   have pm := HPM.out (nx, false) pr
   have HQ := mk_ (fun V F' hv => HCM.out V F' (nx, false) pr hv)
   have hle : (rMany 1 64 l (nx, false)).1 ≤ 64 := by unfold rMany; split <;> omega
   rw [hq]
   clear hq pr
   generalize rMany 1 64 l (nx, false) = q9 at *
   obtain ⟨m, r9⟩ := q9
   dsimp only at HQ pm hle ⊢
   have HLE := mk_ hle
   have HT : Aside0 (∀ i, rAt l (rTimes rDot l i [] r9).2) := ⟨fun i => jC (fun r h => HPD.out r h) i [] _ pm⟩
   clear hle pm HPM HPD HCM
   go_enter Try.func32, Try.ntmps32
   go_wp2_with (first
  | (go_at_call 29; (with_reducible show Calls _ _ _ (World.alloc w _) _); refine (HC1.out _ _ HS0.out).mono ?_; rintro e V1 ⟨rfl, h1⟩; have HS1 := mk_ h1; clear h1)
  | (go_at_call 74; (with_reducible show Calls _ _ _ V1 _); refine (HC2.out _ _ HS1.out).mono ?_; rintro e V2 ⟨rfl, h1⟩; have HS2 := mk_ h1; clear h1)
  | (go_at_call 27; (with_reducible show Calls _ _ _ V2 _); refine (HC3.out _ _ HS2.out).mono ?_; rintro e V3 ⟨v3, rfl, h1⟩; obtain ⟨A3, c3, rfl, _, _⟩ := h1.row; have HS3 := mk_ h1.s1.s2.s1; clear h1)
  | (go_at_call 28; (with_reducible show Calls _ _ _ V3 _); refine (HC4.out _ _ HS3.out).mono ?_; rintro e V4 ⟨rfl, h1⟩; have HS4 := mk_ h1; clear h1)
  | (go_at_call 29; (with_reducible show Calls _ _ _ V4 _); refine (HC5.out _ _ HS4.out).mono ?_; rintro e V5 ⟨rfl, h1⟩; have HS5 := mk_ h1; clear h1)
  | (go_at_call 73; (with_reducible show Calls _ _ _ V5 _); refine (HC6.out _ _ HS5.out).mono ?_; rintro e V6 ⟨rfl, h1⟩; have HS6 := mk_ h1; clear h1)
  | (go_at_call 29; (with_reducible show Calls _ _ _ V6 _); refine (HC7.out _ _ HS6.out).mono ?_; rintro e V7 ⟨rfl, h1⟩; have HS7 := mk_ h1; clear h1)
  | ((with_reducible refine dJ (ty := 54) (x := .tmp 3) (y := .tmp 21) rfl ?_); refine wpList_store_row rfl 54 (.tmp 3) (.tmp 21) rfl V7.heap.size #[.int .i64 d_.f0, .int .i64 d_.f1, .slice A3 l3.length c3, .int .i64 t_.f0, .int .i64 t_.f1, .int .i64 t_.f2, .int .i64 n1, .int .i64 n5, .string s6, .int .i64 n7, .slice none 0 0, .slice none 0 0] rfl rfl 54 #[.int .i64 0, .int .i64 0, .slice none 0 0, .int .i64 0, .int .i64 0, .int .i64 0, .int .i64 0, .int .i64 0, .string ⟨#[]⟩, .int .i64 0, .slice none 0 0, .slice none 0 0] (HS7.out.box (.cells #[.int .i64 0, .int .i64 0, .slice none 0 0, .int .i64 0, .int .i64 0, .int .i64 0, .int .i64 0, .int .i64 0, .string ⟨#[]⟩, .int .i64 0, .slice none 0 0, .slice none 0 0] 54 (0, 0))).blk z1_ rfl z7_ ?_; have HSx := mk_ (bG (HS7.out.box (.cells #[.int .i64 0, .int .i64 0, .slice none 0 0, .int .i64 0, .int .i64 0, .int .i64 0, .int .i64 0, .int .i64 0, .string ⟨#[]⟩, .int .i64 0, .slice none 0 0, .slice none 0 0] 54 (0, 0))) #[.int .i64 d_.f0, .int .i64 d_.f1, .slice A3 l3.length c3, .int .i64 t_.f0, .int .i64 t_.f1, .int .i64 t_.f2, .int .i64 n1, .int .i64 n5, .string s6, .int .i64 n7, .slice none 0 0, .slice none 0 0]); have kr0 := aC HSx.out.s1.blk 0; have kr1 := aC HSx.out.s1.blk 1))
   have hSd := HSx.out.drew
   clear kr0 kr1
   refine fJ (n := 16) (S := fun w' => w'.cell? ⟨g, 0, none⟩ = some (.slice A l.length c) ∧ w'.cell? ⟨g, 1, none⟩ = some (.int .i64 at7) ∧ True) (ds := []) (fun W => Sp W (Blk V7.heap.size (.cells #[.int .i64 d_.f0, .int .i64 d_.f1, .slice A3 l3.length c3, .int .i64 t_.f0, .int .i64 t_.f1, .int .i64 t_.f2, .int .i64 n1, .int .i64 n5, .string s6, .int .i64 n7, .slice none 0 0, .slice none 0 0] 54 (0, 0)) :: RdP ty g A l.length c (at7, false) :: Old w0 :: Row (Kd.int .i64) 3 (.slice A3 l3.length c3) l3 :: Blk w.heap.size (.cells #[.int .i64 0, .int .i64 0, .slice none 0 0, .int .i64 0, .int .i64 0, .int .i64 0, .int .i64 0, .int .i64 0, .string ⟨#[]⟩, .int .i64 0, .slice none 0 0, .slice none 0 0] 54 (0, 0)) :: F)) (Steps.Bs 16 0) z1_ rfl rfl hSd (fun W hJ => ⟨aC hJ.s1.blk 0, aC hJ.s1.blk 1, trivial⟩) (fun W0 hJ => ?_)
   clear hSd HSx
   have hHeld : W0.cell? ⟨g, 0, none⟩ = some (.slice A l.length c) ∧ W0.cell? ⟨g, 1, none⟩ = some (.int .i64 at7) ∧ True := ⟨aC hJ.s1.blk 0, aC hJ.s1.blk 1, trivial⟩
   refine sI 0 23 16 1 ?_
   refine sI 1 24 16 3 ?_
   refine sI 2 25 16 7 ?_
   refine sI 4 27 16 23 ?_
   refine sI 5 28 16 55 ?_
   refine sI 6 29 16 119 ?_
   refine sT hHeld 3 26 16 127 ?_
   refine sT hHeld 7 30 16 255 ?_
   refine one_ (i := 8) (N := some 31) (Steps.Bs 16 511) rfl rfl z1_ z4_ (fun K hK => ?_)
   refine goes_ Try.func76 z1_ rfl #[.slice A l.length c, .int .i64 at7] (by rfl) rfl rfl z6_ ?_
   refine (PAll.row_Read.calls 80 A c l at7 vals nx 0 _ (HCL.out _ hJ.s2.old) HLC.out HG.out).mono ?_
   rintro e V8 ⟨v7_, rfl, hr_, hq_⟩
   obtain ⟨A7, c7, rfl⟩ := dH hr_
   refine ⟨_, rfl, ?_⟩
   have HS8 := mk_ (Sp.made hJ hq_ hr_)
   clear hr_ hq_ hJ hHeld
   refine hK.out _ _ ⟨aC HS8.out.s2.blk 0, aC HS8.out.s2.blk 1, trivial⟩ (fun _ => ?_)
   clear hK K
   refine nrm 31 ?_
   refine sI 9 22 16 1023 ?_
   refine sI 10 32 16 2047 ?_
   refine sI 11 33 16 4095 ?_
   refine sI 12 34 16 8191 ?_
   refine sI 13 4 16 16383 ?_
   refine sI 14 5 16 32767 ?_
   refine sI 15 6 16 65535 ?_
   refine done_ z1_ ?_
   have ks := aC HS8.out.s2.blk
   have fs := aH HS8.out.s2.blk
   have kx := aC HS8.out.s1.blk
   have fx := aH HS8.out.s1.blk
   go_wp2_with (first
  | (go_at_call 31; refine (HQ.out _ _ (((HS8.out.s1.store 10 (.slice A7 vals.length c7)).s2.store 1 (.int .i64 nx)).s3.s1)).mono ?_; rintro e V9 ⟨rfl, h1⟩; have HS9 := mk_ h1; clear h1))
   go_loopg [55] (m.toNat + 1) (fun kq v55 W' => ∃ (i : Nat) (v8 : Value), v55 = .int .i64 (i : Int) ∧ Aside0 (Sp W' (Row k50 50 v8 (rTimes rDot l i [] r9).1 :: RdP ty g A l.length c (rTimes rDot l i [] r9).2 :: Old w0 :: Blk V7.heap.size (.cells #[.int .i64 d_.f0, .int .i64 d_.f1, .slice A3 l3.length c3, .int .i64 t_.f0, .int .i64 t_.f1, .int .i64 t_.f2, .int .i64 n1, .int .i64 n5, .string s6, .int .i64 n7, .slice A7 vals.length c7, v8] 54 (0, 0)) :: Row k89 89 (.slice A7 vals.length c7) vals :: Row (Kd.int .i64) 3 (.slice A3 l3.length c3) l3 :: Blk w.heap.size (.cells #[.int .i64 0, .int .i64 0, .slice none 0 0, .int .i64 0, .int .i64 0, .int .i64 0, .int .i64 0, .int .i64 0, .string ⟨#[]⟩, .int .i64 0, .slice none 0 0, .slice none 0 0] 54 (0, 0)) :: F)) ∧ Aside0 (kq + i = m.toNat + 1 ∧ i ≤ m.toNat))
   case atStart => exact ⟨0, .slice none 0 0, rfl, ⟨dG HS9.out⟩, ⟨by omega⟩⟩
   case round =>
    obtain ⟨i, v8, rfl, HA, HK⟩ := hrel
    obtain ⟨k1, rfl⟩ : ∃ k1, gk = k1 + 1 := ⟨gk - 1, by have := HK.out; omega⟩
    by_cases hi : (i : Int) < m
    ·
     have hb2 : decide ((i : Int) < m) = true := decide_eq_true hi
     have HI := mk_ hi
     have HX := mk_ (iG rDot l i [] r9)
     have HTi := mk_ (HT.out i)
     have HTL : Aside0 ((rTimes rDot l i [] r9).1.length = i) := ⟨by rw [gB]; simp⟩
     clear hi HT
     generalize rTimes rDot l i [] r9 = tt at *
     obtain ⟨xs, ri⟩ := tt
     dsimp only at HA HX HTi HTL
     have HQD := mk_ (fun V F' hv => HCD.out V F' ri HTi.out hv)
     clear HCD
     generalize rDot l ri = qd at *
     obtain ⟨p, rj⟩ := qd
     dsimp only at HQD HX
     obtain ⟨A8, c8, rfl, _, _⟩ := HA.out.row
     have k11 := aC HA.out.s3.blk 11
     have hSd := HA.out.drew
     go_wp2
     refine fI (n := 8) (S := fun w' => w'.cell? ⟨V7.heap.size, 11, none⟩ = some (.slice A8 xs.length c8) ∧ True) (ds := [7]) (Steps.Bs 8 0) z1_ rfl rfl ⟨k11, trivial⟩ (fun hHeld => ?_)
     generalize World.drew _ = W at hSd hHeld ⊢
     clear k11 HA
     refine sI 0 57 8 1 ?_
     refine sI 2 59 8 5 ?_
     refine sT hHeld 1 58 8 7 ?_
     refine one_ (i := 3) (N := some 60) (Steps.Bs 8 15) rfl rfl z1_ z4_ (fun K hK => ?_)
     refine goes_ Try.func74 z1_ rfl #[.pointer (some ⟨g, 0, none⟩)] (by rfl) rfl rfl z6_ ?_
     refine (HQD.out _ _ hSd.s1.s2.s1).mono ?_
     rintro e W2 ⟨rfl, h1⟩
     refine ⟨_, rfl, ?_⟩
     have hHeld1 : W2.cell? ⟨V7.heap.size, 11, none⟩ = some (.slice A8 xs.length c8) := aC h1.s3.blk 11
     have HS3 := mk_ (Sp.s1 (sp_el (d := k50) (p := p) (cs := [.int .i64 p.f0, .int .i64 p.f1]) (fun W ok => k50_mkM W 0 ok p) h1.s2))
     clear hHeld hSd h1
     refine hK.out _ _ ⟨hHeld1, trivial⟩ (fun _ => ?_)
     clear hK K
     refine nrm 60 ?_
     refine one_ (i := 4) (N := some 61) (Steps.Bs 8 31) rfl rfl z1_ z4_ (fun K hK => ?_)
     refine gJ (w1 := ?_) (v := ?_) (by rfl) rfl ?_ ?_
     rotate_left 2
     ·
      go_simp
      constructor
      ·
       rfl
      ·
       rfl
     refine hK.out _ _ ⟨(Below.cell (cU (Below.refl _ _) _) (World.block_lt_of_cell? W2 _ hHeld1)).trans hHeld1, trivial⟩ (fun _ => ?_)
     clear hK K
     refine nrm 61 ?_
     refine one_ (i := 5) (N := some 62) (Steps.Bs 8 63) rfl rfl z1_ z4_ (fun K hK => ?_)
     refine Sp.append_step k50 (W := W2) (by rfl) (.tmp 58) (.tmp 61) 52 50 (.agg #[.int .i64 0, .int .i64 0]) 16 rfl Try.underlying52 z1_ rfl z4_ z2_ (.slice A8 xs.length c8) xs p [.int .i64 p.f0, .int .i64 p.f1] rfl rfl HS3.out (by have := HTL.out; have := HI.out; have := HLE.out; omega) ?_
     intro v9 w1 hS4
     have HS4 := mk_ hS4
     have hg1 := hS4.s3.blk
     obtain ⟨A9, c9, rfl, _, _⟩ := hS4.row
     clear hS4
     refine hK.out _ _ ⟨aC hg1 11, trivial⟩ (fun _ => ?_)
     clear hK K
     refine nrm 62 ?_
     refine sI 6 63 8 127 ?_
     refine last_ (i := 7) (N := none) (Steps.Bs 8 255) rfl rfl z1_ z4_ (fun K hK => ?_)
     have hc0 := aC hg1 11
     have hf0 := aH hg1 11
     refine skip_ (w1 := ?_) (by rfl) rfl ?_ ?_
     rotate_left
     ·
      go_simp
      rfl
     refine hK.out _ _ ?_
     clear hK K
     refine done_ z1_ ?_
     have h5 := (HS4.out.s3.store 11 (.slice A9 (xs ++ [p]).length c9)).s3.s3.s3
     rw [show (xs ++ [p]).length = xs.length + 1 by simp] at h5
     have HS5 := mk_ h5
     clear h5
     clear hc0 hf0 hg1 HS3 HS4 hHeld1
     go_wp2
     go_roundg k1
     case measure => exact Nat.lt_succ_self _
     case rel => exact ⟨i + 1, .slice A9 (xs.length + 1) c9, by rw [w64 z2_ (by have := HI.out; have := HLE.out; omega)]; rfl, ⟨by rw [HX.out]; exact HS5.out⟩, ⟨by have := HK.out; omega, by have := HI.out; omega⟩⟩
    ·
     have hb2 : decide ((i : Int) < m) = false := decide_eq_false hi
     have hie : i = m.toNat := by have := HK.out; omega
     clear hi
     obtain ⟨A8, c8, rfl, _, _⟩ := HA.out.row
     have kx := aC HA.out.s3.blk
     subst hie
     go_wp2_with ((with_reducible refine dJ (ty := 54) (x := .tmp 2) (y := .tmp 65) rfl ?_); refine wpList_store_row rfl 54 (.tmp 2) (.tmp 65) rfl w.heap.size #[.int .i64 d_.f0, .int .i64 d_.f1, .slice A3 l3.length c3, .int .i64 t_.f0, .int .i64 t_.f1, .int .i64 t_.f2, .int .i64 n1, .int .i64 n5, .string s6, .int .i64 n7, .slice A7 vals.length c7, .slice A8 (rTimes rDot l m.toNat [] r9).1.length c8] rfl rfl 54 #[.int .i64 0, .int .i64 0, .slice none 0 0, .int .i64 0, .int .i64 0, .int .i64 0, .int .i64 0, .int .i64 0, .string ⟨#[]⟩, .int .i64 0, .slice none 0 0, .slice none 0 0] (HA.out.s3.tail.s5.blk) z1_ rfl z7_ ?_)
     refine bodyPost_ret (results_cell_row rfl _ _ w.heap.size 54 #[.int .i64 d_.f0, .int .i64 d_.f1, .slice A3 l3.length c3, .int .i64 t_.f0, .int .i64 t_.f1, .int .i64 t_.f2, .int .i64 n1, .int .i64 n5, .string s6, .int .i64 n7, .slice A7 vals.length c7, .slice A8 (rTimes rDot l m.toNat [] r9).1.length c8] (0, 0) _ rfl (bG HA.out.s3.tail.s5 _).blk Try.underlying54 rfl z1_) rfl ?_
     exact ⟨_, _, _, rfl, (bG HA.out.s3.tail.s5 #[.int .i64 d_.f0, .int .i64 d_.f1, .slice A3 l3.length c3, .int .i64 t_.f0, .int .i64 t_.f1, .int .i64 t_.f2, .int .i64 n1, .int .i64 n5, .string s6, .int .i64 n7, .slice A7 vals.length c7, .slice A8 (rTimes rDot l m.toNat [] r9).1.length c8]).tail.s3.s4⟩
end
end Go.Proofs.Ytcbfliajgopdaaa.Ops
end
section
namespace Go.Proofs.Ytcbfliajgopdaaa.Ops
open Go.RowKit PAll Plain PrintWords PrintLast PrintMore Go.Proofs.Ytcbfliajgopdaaa.Sep ZipT PrintWords.Kd PrintMore.Kd
set_option linter.unusedVariables false
set_option linter.unusedSimpArgs false
theorem Sp.frame {w w' : World} {F X : List Part} (h : Sp w F) (h' : Sp w' (X ++ [Old w])) : Sp w' (X ++ F) := by
 obtain ⟨ok, h1, h2, ok2, h3, h4, _⟩ := Sep.split h'
 refine Sep.app h2 (Sep.moved (Moved.of_below h4.2 (fun _ => False)) h (fun _ _ _ e => e)) h1 (fun k hk => Nat.lt_of_lt_of_le hk h4.2.size) (fun k hk hw => ?_)
 exact (h3 k (h4.1 k hw)).2 hk
theorem Sp.rowOut {α : Type} {d : Kd α} {e : Nat} {v : Value} {xs : List α} {w w' : World} {F : List Part} (hM : ∀ {b b' : Nat} {ok ok' : Nat → Prop} {x : α} {cs : List Value}, d.M w' b ok x cs → d.M w' b' ok' x cs) (h : Sp w' (Row d e v xs :: Old w :: F)) :
  d.R e w' w.heap.size (fun _ => True) v xs := by
 obtain ⟨ok, h1, ⟨h0, inner, ⟨hl, ho⟩, hr⟩, ok2, h3, h4, _⟩ := h
 refine ⟨fun _ _ => trivial, inner, ⟨hl, ?_⟩, hr.imp_ (fun _ _ hp => hM hp)⟩
 rcases ho with h | ⟨g, cap, cur, rfl, _, hg, rest⟩
 ·
  exact .inl h
 ·
  refine .inr ⟨g, cap, cur, rfl, ?_, hg, rest⟩
  rcases Nat.lt_or_ge g w.heap.size with hlt | hge
  ·
   exact absurd (h0 g rfl) (h3 g (h4.1 g hlt)).2
  ·
   exact hge
section
variable {P : Program} {ops : Array Oper} {o : Oper} {a : Act} {Q : Exit → Act → World → Prop} {Kc : Act → World → Prop}
theorem eV {W : World} (hw : Region.wanted o (yielded ops a.tmps) = true) (ty : TypeId) (x y : Operand) (ho : o.op = .store ty x y)
  (g : Nat) (cells : Array Value) (hx : a.eval x = .pointer (some ⟨g, 0, none⟩)) (hy : a.eval y = .agg cells)
  (t : TypeId) (old : Array Value) (hg : W.heap[g]? = some (.cells old t (0, 0))) (hi : (P.info? ty).map (·.size) = some cells.size)
  (hold : old.size = cells.size) (h1 : cells.all (·.oneCell') = true) (h : Kc (a.put o.dst undef) (W.setRow g cells)) :
  if Region.wanted o (yielded ops a.tmps) = true then Oper.wp P o a W Kc Q else Kc (a.put o.dst undef) W := by
 rw [if_pos hw]
 exact wp_store_row ty x y ho g cells hx hy t old hg hi hold h1 h
end
section
variable {w : World} {A : Option Addr} {c : Nat} {l : List Int}
theorem read_sp (hC0 : Kd.C (Kd.int .u8) w A l.length l) (hlc : l.length ≤ c) (hb : Bytes l) (hl : l.length ≤ 1000000) (a1 : Int) :
  Calls Try.prog 93 #[.slice A l.length c, .int .i64 a1] w fun e w' => ∃ v1 v7 v8, e = .returned (.tuple #[.agg #[.int .i64 (sOpRead l a1).1.f0.f0, .int .i64 (sOpRead l a1).1.f0.f1, v1, .int .i64 (sOpRead l a1).1.f2.f0, .int .i64 (sOpRead l a1).1.f2.f1, .int .i64 (sOpRead l a1).1.f2.f2, .int .i64 (sOpRead l a1).1.f3, .int .i64 (sOpRead l a1).1.f4, .string (sOpRead l a1).1.f5, .int .i64 (sOpRead l a1).1.f6, v7, v8], .int .i64 (sOpRead l a1).2.1, .int .i64 (sOpRead l a1).2.2]) ∧
   Sp w' [Row (Kd.int .i64) 3 v1 (sOpRead l a1).1.f1, Row k89 89 v7 (sOpRead l a1).1.f7, Row k50 50 v8 (sOpRead l a1).1.f8, Old w] := by
 have h0 := Sp.start w
 have h1 := h0.box (.cells #[.int .i64 0, .int .i64 0, .slice none 0 0, .int .i64 0, .int .i64 0, .int .i64 0, .int .i64 0, .int .i64 0, .string ⟨#[]⟩, .int .i64 0, .slice none 0 0, .slice none 0 0] 54 (0, 0))
 by_cases ha : a1 < 0
 ·
  have hd1 : decide (a1 < 0) = true := decide_eq_true ha
  have hz : sOpRead l a1 = (zOp, 0, 1) := by unfold sOpRead; rw [if_pos (.inl ha)]
  rw [hz]
  have HS1 := mk_ h1
  clear h0 h1 hz hC0 hb
  go_enter Try.func93, Try.ntmps93
  go_wp2_with (((with_reducible refine dJ (ty := 54) (x := .tmp 4) (y := .tmp 16) rfl ?_); refine wpList_store_row rfl 54 (.tmp 4) (.tmp 16) rfl w.heap.size #[.int .i64 0, .int .i64 0, .slice none 0 0, .int .i64 0, .int .i64 0, .int .i64 0, .int .i64 0, .int .i64 0, .string ⟨#[]⟩, .int .i64 0, .slice none 0 0, .slice none 0 0] rfl rfl 54 #[.int .i64 0, .int .i64 0, .slice none 0 0, .int .i64 0, .int .i64 0, .int .i64 0, .int .i64 0, .int .i64 0, .string ⟨#[]⟩, .int .i64 0, .slice none 0 0, .slice none 0 0] HS1.out.blk z1_ rfl z7_ ?_))
  refine bodyPost_ret (dF rfl _ _ w.heap.size 54 #[.int .i64 0, .int .i64 0, .slice none 0 0, .int .i64 0, .int .i64 0, .int .i64 0, .int .i64 0, .int .i64 0, .string ⟨#[]⟩, .int .i64 0, .slice none 0 0, .slice none 0 0] (0, 0) _ rfl (bG HS1.out _).blk Try.underlying54 rfl z1_) rfl ?_
  exact ⟨_, _, _, rfl, dG (dG (dG ((bG HS1.out #[.int .i64 0, .int .i64 0, .slice none 0 0, .int .i64 0, .int .i64 0, .int .i64 0, .int .i64 0, .int .i64 0, .string ⟨#[]⟩, .int .i64 0, .slice none 0 0, .slice none 0 0]).tail)))⟩
 have hd1 : decide (a1 < 0) = false := decide_eq_false ha
 by_cases hn : a1 > l.length
 ·
  have hd2 : decide ((l.length : Int) < a1) = true := decide_eq_true hn
  have hz : sOpRead l a1 = (zOp, 0, 1) := by unfold sOpRead; rw [if_pos (.inr hn)]
  rw [hz]
  have HS1 := mk_ h1
  clear h0 h1 hz hC0 hb
  go_enter Try.func93, Try.ntmps93
  go_wp2_with (((with_reducible refine dJ (ty := 54) (x := .tmp 4) (y := .tmp 16) rfl ?_); refine wpList_store_row rfl 54 (.tmp 4) (.tmp 16) rfl w.heap.size #[.int .i64 0, .int .i64 0, .slice none 0 0, .int .i64 0, .int .i64 0, .int .i64 0, .int .i64 0, .int .i64 0, .string ⟨#[]⟩, .int .i64 0, .slice none 0 0, .slice none 0 0] rfl rfl 54 #[.int .i64 0, .int .i64 0, .slice none 0 0, .int .i64 0, .int .i64 0, .int .i64 0, .int .i64 0, .int .i64 0, .string ⟨#[]⟩, .int .i64 0, .slice none 0 0, .slice none 0 0] HS1.out.blk z1_ rfl z7_ ?_))
  refine bodyPost_ret (dF rfl _ _ w.heap.size 54 #[.int .i64 0, .int .i64 0, .slice none 0 0, .int .i64 0, .int .i64 0, .int .i64 0, .int .i64 0, .int .i64 0, .string ⟨#[]⟩, .int .i64 0, .slice none 0 0, .slice none 0 0] (0, 0) _ rfl (bG HS1.out _).blk Try.underlying54 rfl z1_) rfl ?_
  exact ⟨_, _, _, rfl, dG (dG (dG ((bG HS1.out #[.int .i64 0, .int .i64 0, .slice none 0 0, .int .i64 0, .int .i64 0, .int .i64 0, .int .i64 0, .int .i64 0, .string ⟨#[]⟩, .int .i64 0, .slice none 0 0, .slice none 0 0]).tail)))⟩
 have hd2 : decide ((l.length : Int) < a1) = false := decide_eq_false hn
 have hp : rAt l (a1, false) := ⟨by show 0 ≤ a1; omega, by show a1 ≤ _; omega⟩
 have hu : sOpRead l a1 = if (rOp l (a1, false)).2.2 = true then (zOp, 0, 3) else ((rOp l (a1, false)).1, (rOp l (a1, false)).2.1, 0) := by unfold sOpRead; rw [if_neg (fun e => e.elim ha hn)]
 have h2 := h1.box (.cells #[.slice A l.length c, .int .i64 a1, .bool false] 71 (0, 0))
 rw [show (w.alloc (.cells #[.int .i64 0, .int .i64 0, .slice none 0 0, .int .i64 0, .int .i64 0, .int .i64 0, .int .i64 0, .int .i64 0, .string ⟨#[]⟩, .int .i64 0, .slice none 0 0, .slice none 0 0] 54 (0, 0))).heap.size = w.heap.size + 1 from Array.size_push _] at h2
 have hQ := rop_calls (w0 := w) hC0 hlc hb hl (a1, false) hp (show Sp _ (RdP 71 (w.heap.size + 1) A l.length c (a1, false) :: Old w :: [Blk w.heap.size (.cells #[.int .i64 0, .int .i64 0, .slice none 0 0, .int .i64 0, .int .i64 0, .int .i64 0, .int .i64 0, .int .i64 0, .string ⟨#[]⟩, .int .i64 0, .slice none 0 0, .slice none 0 0] 54 (0, 0))]) from h2.s2.s1)
 rw [hu]
 clear hu h0 h1 h2 hC0 hb hp
 generalize rOp l (a1, false) = q at hQ ⊢
 obtain ⟨x, at2, bad2⟩ := q
 dsimp only at hQ ⊢
 have HQ := mk_ hQ
 clear hQ ha hn
 cases bad2 with
 | true =>
  rw [if_pos rfl]
  go_enter Try.func93, Try.ntmps93
  go_wp2_with (first | (go_at_call 32; refine HQ.out.mono ?_; rintro e V ⟨v1, v7, v8, rfl, h⟩; obtain ⟨A1, c1, rfl, _, _⟩ := h.row; obtain ⟨A7, c7, rfl, _, _⟩ := h.tail.row; obtain ⟨A8, c8, rfl, _, _⟩ := h.tail.tail.row; have HS3 := mk_ h; clear h) | ((with_reducible refine dJ (ty := 54) (x := .tmp 4) (y := .tmp 22) rfl ?_); refine wpList_store_row rfl 54 (.tmp 4) (.tmp 22) rfl w.heap.size #[.int .i64 x.f0.f0, .int .i64 x.f0.f1, .slice A1 x.f1.length c1, .int .i64 x.f2.f0, .int .i64 x.f2.f1, .int .i64 x.f2.f2, .int .i64 x.f3, .int .i64 x.f4, .string x.f5, .int .i64 x.f6, .slice A7 x.f7.length c7, .slice A8 x.f8.length c8] rfl rfl 54 #[.int .i64 0, .int .i64 0, .slice none 0 0, .int .i64 0, .int .i64 0, .int .i64 0, .int .i64 0, .int .i64 0, .string ⟨#[]⟩, .int .i64 0, .slice none 0 0, .slice none 0 0] HS3.out.s5.blk z1_ rfl z7_ ?_; have HS4 := mk_ (bG HS3.out.s5 #[.int .i64 x.f0.f0, .int .i64 x.f0.f1, .slice A1 x.f1.length c1, .int .i64 x.f2.f0, .int .i64 x.f2.f1, .int .i64 x.f2.f2, .int .i64 x.f3, .int .i64 x.f4, .string x.f5, .int .i64 x.f6, .slice A7 x.f7.length c7, .slice A8 x.f8.length c8]); have kr := aC HS4.out.s4.blk; have kx := aC HS4.out.blk) | ((with_reducible refine dJ (ty := 54) (x := .tmp 4) (y := .tmp 27) rfl ?_); refine wpList_store_row rfl 54 (.tmp 4) (.tmp 27) rfl w.heap.size #[.int .i64 0, .int .i64 0, .slice none 0 0, .int .i64 0, .int .i64 0, .int .i64 0, .int .i64 0, .int .i64 0, .string ⟨#[]⟩, .int .i64 0, .slice none 0 0, .slice none 0 0] rfl rfl 54 #[.int .i64 x.f0.f0, .int .i64 x.f0.f1, .slice A1 x.f1.length c1, .int .i64 x.f2.f0, .int .i64 x.f2.f1, .int .i64 x.f2.f2, .int .i64 x.f3, .int .i64 x.f4, .string x.f5, .int .i64 x.f6, .slice A7 x.f7.length c7, .slice A8 x.f8.length c8] HS4.out.blk z1_ rfl z7_ ?_))
  refine bodyPost_ret (dF rfl _ _ w.heap.size 54 #[.int .i64 0, .int .i64 0, .slice none 0 0, .int .i64 0, .int .i64 0, .int .i64 0, .int .i64 0, .int .i64 0, .string ⟨#[]⟩, .int .i64 0, .slice none 0 0, .slice none 0 0] (0, 0) _ rfl (bG HS4.out _).blk Try.underlying54 rfl z1_) rfl ?_
  exact ⟨_, _, _, rfl, dG (dG (dG ((bG HS4.out #[.int .i64 0, .int .i64 0, .slice none 0 0, .int .i64 0, .int .i64 0, .int .i64 0, .int .i64 0, .int .i64 0, .string ⟨#[]⟩, .int .i64 0, .slice none 0 0, .slice none 0 0]).tail.tail.tail.tail.tail)))⟩
 | false =>
  rw [if_neg (by show ¬ (false = true); decide)]
  go_enter Try.func93, Try.ntmps93
  go_wp2_with (first | (go_at_call 32; refine HQ.out.mono ?_; rintro e V ⟨v1, v7, v8, rfl, h⟩; obtain ⟨A1, c1, rfl, _, _⟩ := h.row; obtain ⟨A7, c7, rfl, _, _⟩ := h.tail.row; obtain ⟨A8, c8, rfl, _, _⟩ := h.tail.tail.row; have HS3 := mk_ h; clear h) | ((with_reducible refine dJ (ty := 54) (x := .tmp 4) (y := .tmp 22) rfl ?_); refine wpList_store_row rfl 54 (.tmp 4) (.tmp 22) rfl w.heap.size #[.int .i64 x.f0.f0, .int .i64 x.f0.f1, .slice A1 x.f1.length c1, .int .i64 x.f2.f0, .int .i64 x.f2.f1, .int .i64 x.f2.f2, .int .i64 x.f3, .int .i64 x.f4, .string x.f5, .int .i64 x.f6, .slice A7 x.f7.length c7, .slice A8 x.f8.length c8] rfl rfl 54 #[.int .i64 0, .int .i64 0, .slice none 0 0, .int .i64 0, .int .i64 0, .int .i64 0, .int .i64 0, .int .i64 0, .string ⟨#[]⟩, .int .i64 0, .slice none 0 0, .slice none 0 0] HS3.out.s5.blk z1_ rfl z7_ ?_; have HS4 := mk_ (bG HS3.out.s5 #[.int .i64 x.f0.f0, .int .i64 x.f0.f1, .slice A1 x.f1.length c1, .int .i64 x.f2.f0, .int .i64 x.f2.f1, .int .i64 x.f2.f2, .int .i64 x.f3, .int .i64 x.f4, .string x.f5, .int .i64 x.f6, .slice A7 x.f7.length c7, .slice A8 x.f8.length c8]); have kr := aC HS4.out.s4.blk; have kx := aC HS4.out.blk))
  have hSd := HS4.out.drew
  clear kr kx
  refine fJ (n := 8) (S := fun w' => w'.cell? ⟨w.heap.size, 0, none⟩ = some (.int .i64 x.f0.f0) ∧ w'.cell? ⟨w.heap.size, 1, none⟩ = some (.int .i64 x.f0.f1) ∧ w'.cell? ⟨w.heap.size, 2, none⟩ = some (.slice A1 x.f1.length c1) ∧ w'.cell? ⟨w.heap.size, 3, none⟩ = some (.int .i64 x.f2.f0) ∧ w'.cell? ⟨w.heap.size, 4, none⟩ = some (.int .i64 x.f2.f1) ∧ w'.cell? ⟨w.heap.size, 5, none⟩ = some (.int .i64 x.f2.f2) ∧ w'.cell? ⟨w.heap.size, 6, none⟩ = some (.int .i64 x.f3) ∧ w'.cell? ⟨w.heap.size, 7, none⟩ = some (.int .i64 x.f4) ∧ w'.cell? ⟨w.heap.size, 8, none⟩ = some (.string x.f5) ∧ w'.cell? ⟨w.heap.size, 9, none⟩ = some (.int .i64 x.f6) ∧ w'.cell? ⟨w.heap.size, 10, none⟩ = some (.slice A7 x.f7.length c7) ∧ w'.cell? ⟨w.heap.size, 11, none⟩ = some (.slice A8 x.f8.length c8) ∧ w'.cell? ⟨w.heap.size + 1, 1, none⟩ = some (.int .i64 at2) ∧ True) (ds := []) (fun W => Sp W [Blk w.heap.size (.cells #[.int .i64 x.f0.f0, .int .i64 x.f0.f1, .slice A1 x.f1.length c1, .int .i64 x.f2.f0, .int .i64 x.f2.f1, .int .i64 x.f2.f2, .int .i64 x.f3, .int .i64 x.f4, .string x.f5, .int .i64 x.f6, .slice A7 x.f7.length c7, .slice A8 x.f8.length c8] 54 (0, 0)), Row (Kd.int .i64) 3 (.slice A1 x.f1.length c1) x.f1, Row k89 89 (.slice A7 x.f7.length c7) x.f7, Row k50 50 (.slice A8 x.f8.length c8) x.f8, RdP 71 (w.heap.size + 1) A l.length c (at2, false), Old w]) (Steps.Bs 8 0) z1_ rfl rfl hSd (fun W hJ => ⟨aC hJ.blk 0, aC hJ.blk 1, aC hJ.blk 2, aC hJ.blk 3, aC hJ.blk 4, aC hJ.blk 5, aC hJ.blk 6, aC hJ.blk 7, aC hJ.blk 8, aC hJ.blk 9, aC hJ.blk 10, aC hJ.blk 11, aC hJ.s4.blk 1, trivial⟩) (fun W0 hJ => ?_)
  clear hSd HS4 HS3
  have hHeld : W0.cell? ⟨w.heap.size, 0, none⟩ = some (.int .i64 x.f0.f0) ∧ W0.cell? ⟨w.heap.size, 1, none⟩ = some (.int .i64 x.f0.f1) ∧ W0.cell? ⟨w.heap.size, 2, none⟩ = some (.slice A1 x.f1.length c1) ∧ W0.cell? ⟨w.heap.size, 3, none⟩ = some (.int .i64 x.f2.f0) ∧ W0.cell? ⟨w.heap.size, 4, none⟩ = some (.int .i64 x.f2.f1) ∧ W0.cell? ⟨w.heap.size, 5, none⟩ = some (.int .i64 x.f2.f2) ∧ W0.cell? ⟨w.heap.size, 6, none⟩ = some (.int .i64 x.f3) ∧ W0.cell? ⟨w.heap.size, 7, none⟩ = some (.int .i64 x.f4) ∧ W0.cell? ⟨w.heap.size, 8, none⟩ = some (.string x.f5) ∧ W0.cell? ⟨w.heap.size, 9, none⟩ = some (.int .i64 x.f6) ∧ W0.cell? ⟨w.heap.size, 10, none⟩ = some (.slice A7 x.f7.length c7) ∧ W0.cell? ⟨w.heap.size, 11, none⟩ = some (.slice A8 x.f8.length c8) ∧ W0.cell? ⟨w.heap.size + 1, 1, none⟩ = some (.int .i64 at2) ∧ True := ⟨aC hJ.blk 0, aC hJ.blk 1, aC hJ.blk 2, aC hJ.blk 3, aC hJ.blk 4, aC hJ.blk 5, aC hJ.blk 6, aC hJ.blk 7, aC hJ.blk 8, aC hJ.blk 9, aC hJ.blk 10, aC hJ.blk 11, aC hJ.s4.blk 1, trivial⟩
  refine sI 1 29 8 2 ?_
  refine sI 2 30 8 6 ?_
  refine sI 3 31 8 14 ?_
  refine sT hHeld 0 28 8 15 ?_
  refine sT hHeld 4 32 8 31 ?_
  refine one_ (i := 5) (N := none) (Steps.Bs 8 63) rfl rfl z1_ z4_ (fun K hK => ?_)
  refine eV (by rfl) 54 (.tmp 4) (.tmp 28) rfl w.heap.size #[.int .i64 x.f0.f0, .int .i64 x.f0.f1, .slice A1 x.f1.length c1, .int .i64 x.f2.f0, .int .i64 x.f2.f1, .int .i64 x.f2.f2, .int .i64 x.f3, .int .i64 x.f4, .string x.f5, .int .i64 x.f6, .slice A7 x.f7.length c7, .slice A8 x.f8.length c8] rfl rfl 54 #[.int .i64 x.f0.f0, .int .i64 x.f0.f1, .slice A1 x.f1.length c1, .int .i64 x.f2.f0, .int .i64 x.f2.f1, .int .i64 x.f2.f2, .int .i64 x.f3, .int .i64 x.f4, .string x.f5, .int .i64 x.f6, .slice A7 x.f7.length c7, .slice A8 x.f8.length c8] hJ.blk z1_ rfl z7_ ?_
  have hS5 := bG hJ #[.int .i64 x.f0.f0, .int .i64 x.f0.f1, .slice A1 x.f1.length c1, .int .i64 x.f2.f0, .int .i64 x.f2.f1, .int .i64 x.f2.f2, .int .i64 x.f3, .int .i64 x.f4, .string x.f5, .int .i64 x.f6, .slice A7 x.f7.length c7, .slice A8 x.f8.length c8]
  refine hK.out _ _ ⟨aC hS5.blk 0, aC hS5.blk 1, aC hS5.blk 2, aC hS5.blk 3, aC hS5.blk 4, aC hS5.blk 5, aC hS5.blk 6, aC hS5.blk 7, aC hS5.blk 8, aC hS5.blk 9, aC hS5.blk 10, aC hS5.blk 11, aC hS5.s4.blk 1, trivial⟩ (fun _ => ?_)
  clear hK K
  refine norm_ (a' := ?_) ?_ ?_
  rotate_left
  ·
   show Act.put _ none _ = _
   rfl
  refine sI 6 5 8 127 ?_
  refine sI 7 6 8 255 ?_
  refine done_ z1_ ?_
  go_wp2
  refine bodyPost_ret (dF rfl _ _ w.heap.size 54 #[.int .i64 x.f0.f0, .int .i64 x.f0.f1, .slice A1 x.f1.length c1, .int .i64 x.f2.f0, .int .i64 x.f2.f1, .int .i64 x.f2.f2, .int .i64 x.f3, .int .i64 x.f4, .string x.f5, .int .i64 x.f6, .slice A7 x.f7.length c7, .slice A8 x.f8.length c8] (0, 0) _ rfl hS5.blk Try.underlying54 rfl z1_) rfl ?_
  exact ⟨_, _, _, rfl, hS5.tail.s3.tail⟩
end
end Go.Proofs.Ytcbfliajgopdaaa.Ops
end
section
namespace Go.Proofs.Ytcbfliajgopdaaa.Ops
open Go.RowKit PAll Plain PrintWords PrintLast PrintMore Go.Proofs.Ytcbfliajgopdaaa.Sep ZipT PrintWords.Kd PrintMore.Kd
set_option linter.unusedVariables false
set_option linter.unusedSimpArgs false
theorem jH (l : List Int) (s : Wr) : (wNums l s).1.length ≤ s.1.length + 7 + 7 * l.length := by
 have h1 := eQ (f := fun n => wNum n 4) (m := 7) (fun x s => cH x 4 s) l (wNum l.length 1 (wOr (decide (l.length > 5)) s))
 have h2 := cH l.length 1 (wOr (decide (l.length > 5)) s)
 have h3 : (wOr (decide (l.length > 5)) s).1.length = s.1.length := rfl
 unfold wNums; omega
theorem rowOut_len (l : List V) : (if rowE l = 0 then (rowB l, (0 : Int)) else ([], rowE l)).1.length ≤ 700 := by
 split
 ·
  rename_i h; exact Nat.le_trans (rowB_len h) z2_
 ·
  simp
def opSmall (x : Ox) : Prop := x.f1.length ≤ 1000 ∧ x.f7.length ≤ 1000 ∧ x.f8.length ≤ 1000
instance (x : Ox) : Decidable (opSmall x) := by unfold opSmall; infer_instance
theorem kI {l : List Dt} {i : Nat} (h : i < l.length) : cL l (i : Int) = l[i] := by
 unfold cL
 rw [Int.toNat_natCast, List.getD_eq_getElem?_getD, List.getElem?_eq_getElem h]; rfl
section
variable {w : World} {ty : TypeId} {g : Nat} {F : List Part}
theorem wop_calls {w0 : World} (x : Ox) (A1 A7 A8 : Option Addr) (c1 c7 c8 : Nat) (hC1 : Kd.C (Kd.int .i64) w0 A1 x.f1.length x.f1) (h1c : x.f1.length ≤ c1) (hC7 : Kd.C k89 w0 A7 x.f7.length x.f7) (h7c : x.f7.length ≤ c7) (hC8 : Kd.C k50 w0 A8 x.f8.length x.f8) (h8c : x.f8.length ≤ c8) (hx : opSmall x) (s : Wr) (hS : Sp w (WrP ty g s :: Old w0 :: F)) (hl : s.1.length ≤ 60000000000000) :
  Calls Try.prog 51 #[.pointer (some ⟨g, 0, none⟩), .agg #[.int .i64 x.f0.f0, .int .i64 x.f0.f1, .slice A1 x.f1.length c1, .int .i64 x.f2.f0, .int .i64 x.f2.f1, .int .i64 x.f2.f2, .int .i64 x.f3, .int .i64 x.f4, .string x.f5, .int .i64 x.f6, .slice A7 x.f7.length c7, .slice A8 x.f8.length c8]] w fun r w' => (∃ v, r = .returned v) ∧ Sp w' (WrP ty g (wOp x s) :: Old w0 :: F) := by
 have h0 := hS.box (.cells #[.int .i64 x.f0.f0, .int .i64 x.f0.f1, .slice A1 x.f1.length c1, .int .i64 x.f2.f0, .int .i64 x.f2.f1, .int .i64 x.f2.f2, .int .i64 x.f3, .int .i64 x.f4, .string x.f5, .int .i64 x.f6, .slice A7 x.f7.length c7, .slice A8 x.f8.length c8] 54 (0, 0))
 have L1 := cH x.f3 1 s
 obtain ⟨s1, e1⟩ : ∃ q, q = wNum x.f3 1 s := ⟨_, rfl⟩
 have L2 := fM x.f0 s1
 obtain ⟨s2, e2⟩ : ∃ q, q = wDot x.f0 s1 := ⟨_, rfl⟩
 have L3 := jH x.f1 s2
 obtain ⟨s3, e3⟩ : ∃ q, q = wNums x.f1 s2 := ⟨_, rfl⟩
 have L4 := gW x.f2 s3
 obtain ⟨s4, e4⟩ : ∃ q, q = wStamp x.f2 s3 := ⟨_, rfl⟩
 have L5 := cH x.f4 1 s4
 obtain ⟨s5, e5⟩ : ∃ q, q = wNum x.f4 1 s4 := ⟨_, rfl⟩
 have L6 := jI x.f5 s5
 obtain ⟨s6, e6⟩ : ∃ q, q = wText x.f5 s5 := ⟨_, rfl⟩
 have L7 := cH x.f6 1 s6
 obtain ⟨s7, e7⟩ : ∃ q, q = wNum x.f6 1 s6 := ⟨_, rfl⟩
 have LR := rowOut_len x.f7
 have hR := rowBytes_eq 1100 x.f7 (by have := hx.2.1; omega) (by have := hx.2.1; omega)
 have hwr : wRow x.f7 s7 = wAdd s7 (if rowE x.f7 = 0 then (rowB x.f7, 0) else ([], rowE x.f7)) := rfl
 have hu : wOp x s = wAll wDot x.f8 (wNum x.f8.length 1 (wOr (decide (x.f8.length > 64)) (wRow x.f7 s7))) := by subst e7 e6 e5 e4 e3 e2 e1; rfl
 generalize (if rowE x.f7 = 0 then (rowB x.f7, (0 : Int)) else ([], rowE x.f7)) = rr at LR hR hwr
 obtain ⟨rb, re⟩ := rr
 rw [hwr] at hu
 obtain ⟨s8, e8⟩ : ∃ q, q = wAdd s7 (rb, re) := ⟨_, rfl⟩
 have L8 : s8.1.length ≤ s7.1.length + 700 := by have : rb.length ≤ 700 := LR; rw [e8]; unfold wAdd; simp only [List.length_append]; omega
 rw [← e1] at L1; rw [← e2] at L2; rw [← e3] at L3; rw [← e4] at L4; rw [← e5] at L5; rw [← e6] at L6; rw [← e7] at L7; rw [← e8] at hu
 have LR2 : rb.length ≤ 700 := LR
 have HLEN := mk_ (show s.1.length ≤ 60000000000000 ∧ s1.1.length ≤ 60000000000007 ∧ s2.1.length ≤ 60000000000021 ∧ s3.1.length ≤ 60000000007028 ∧ s4.1.length ≤ 60000000007049 ∧ s5.1.length ≤ 60000000007056 ∧ s6.1.length ≤ 60000000007081 ∧ s7.1.length ≤ 60000000007088 ∧ s8.1.length ≤ 60000000007788 ∧ rb.length ≤ 700 from by have := hx.1; omega)
 have HE1 := mk_ e1
 have HE2 := mk_ e2
 have HE3 := mk_ e3
 have HE4 := mk_ e4
 have HE5 := mk_ e5
 have HE6 := mk_ e6
 have HE7 := mk_ e7
 have HE8 := mk_ e8
 have HU := mk_ hu
 have HR := mk_ (show PAll.row_Bytes.f 1100 x.f7 = some (rb, re) from hR)
 have HC1 := mk_ hC1
 have HC7 := mk_ hC7
 have HC8 := mk_ hC8
 have HX := mk_ (And.intro hx (And.intro h1c (And.intro h7c h8c)))
 have HS0 := mk_ (Sp.s2 (Sp.s2 h0))
 clear h0 hS hl L1 L2 L3 L4 L5 L6 L7 L8 LR hR hwr hu e1 e2 e3 e4 e5 e6 e7 e8 hC1 hC7 hC8 hx h1c h7c h8c
 obtain ⟨b8, bad8⟩ := s8
 cases bad8 with
 | true =>
  have hn0 : wOr (decide (x.f8.length > 64)) (b8, true) = (b8, true) := by unfold wOr; simp
  have HU2 := mk_ (HU.out.trans (congrArg (fun q => wAll wDot x.f8 (wNum x.f8.length 1 q)) hn0))
  clear hn0 HU
  go_enter Try.func51, Try.ntmps51
  go_wp2_with (first
  | (go_at_call 49; (with_reducible show Calls _ _ _ (World.alloc w _) _); refine (cB s x.f3 1 HS0.out (by have := HLEN.out; omega)).mono ?_; rintro e V1 ⟨⟨u, rfl⟩, h1⟩; rw [← HE1.out] at h1; have HS1 := mk_ h1; have kx1 := aC HS1.out.s2.blk; clear h1)
  | (go_at_call 88; (with_reducible show Calls _ _ _ V1 _); refine (fC s1 x.f0 HS1.out (by have := HLEN.out; omega)).mono ?_; rintro e V2 ⟨⟨u, rfl⟩, h1⟩; rw [← HE2.out] at h1; have HS2 := mk_ h1; have kx2 := aC HS2.out.s2.blk; clear h1)
  | (go_at_call 47; (with_reducible show Calls _ _ _ V2 _); refine (gE A1 c1 x.f1 HC1.out HX.out.2.1 HX.out.1.1 s2 HS2.out (by have := HLEN.out; omega)).mono ?_; rintro e V3 ⟨⟨u, rfl⟩, h1⟩; rw [← HE3.out] at h1; have HS3 := mk_ h1; have kx3 := aC HS3.out.s2.blk; clear h1)
  | (go_at_call 48; (with_reducible show Calls _ _ _ V3 _); refine (fT s3 x.f2 HS3.out (by have := HLEN.out; omega)).mono ?_; rintro e V4 ⟨⟨u, rfl⟩, h1⟩; rw [← HE4.out] at h1; have HS4 := mk_ h1; have kx4 := aC HS4.out.s2.blk; clear h1)
  | (go_at_call 49; (with_reducible show Calls _ _ _ V4 _); refine (cB s4 x.f4 1 HS4.out (by have := HLEN.out; omega)).mono ?_; rintro e V5 ⟨⟨u, rfl⟩, h1⟩; rw [← HE5.out] at h1; have HS5 := mk_ h1; have kx5 := aC HS5.out.s2.blk; clear h1)
  | (go_at_call 87; (with_reducible show Calls _ _ _ V5 _); refine (hH s5 x.f5 HS5.out (by have := HLEN.out; omega)).mono ?_; rintro e V6 ⟨⟨u, rfl⟩, h1⟩; rw [← HE6.out] at h1; have HS6 := mk_ h1; have kx6 := aC HS6.out.s2.blk; clear h1)
  | (go_at_call 49; (with_reducible show Calls _ _ _ V6 _); refine (cB s6 x.f6 1 HS6.out (by have := HLEN.out; omega)).mono ?_; rintro e V7 ⟨⟨u, rfl⟩, h1⟩; rw [← HE7.out] at h1; have HS7 := mk_ h1; have kx7 := aC HS7.out.s2.blk; clear h1)
  | (go_at_call 90; refine (PAll.row_Bytes.calls 1100 A7 c7 x.f7 rb re _ (aV HC7.out HS7.out.s1.old) HX.out.2.2.1 HR.out).mono ?_; rintro e V8 ⟨v_, rfl, hr_, hq_⟩; obtain ⟨Ab, cb, rfl⟩ := dH hr_; have HS8 := mk_ (Sp.made HS7.out hq_ hr_).s1; clear hr_ hq_)
  | (go_at_call 86; refine (gR s7.1 s7.2 Ab cb rb re HS8.out (by have := HLEN.out; omega)).mono ?_; rintro e V9 ⟨⟨u, rfl⟩, h1⟩; rw [show ((s7.1, s7.2) : Wr) = s7 from rfl, ← HE8.out] at h1; have kx9 := aC h1.s2.blk; obtain ⟨v9, h2⟩ := WrP.open h1; have k91 := aC h2.blk 1; have f91 := aH h2.blk 1; have HS9 := mk_ h2; clear h1 h2)
  | (go_at_call 49; (with_reducible show Calls _ _ _ (World.setCell V9 _ _) _); refine (cB (b8, true) (x.f8.length : Int) 1 (WrP.shut (HS9.out.store 1 (.bool true))) (by have := HLEN.out; show b8.length ≤ _; omega)).mono ?_; rintro e V10 ⟨⟨u, rfl⟩, h1⟩; have HS10 := mk_ h1; have kx10 := aC HS10.out.s2.blk; clear h1))
  go_loopg [62] (x.f8.length + 1) (fun kq v62 W' => ∃ (i : Nat), v62 = .int .i64 (i : Int) ∧ Aside0 (Sp W' (WrP ty g (wAll wDot (x.f8.take i) (wNum (x.f8.length : Int) 1 (b8, true))) :: Old w0 :: Blk w.heap.size (.cells #[.int .i64 x.f0.f0, .int .i64 x.f0.f1, .slice A1 x.f1.length c1, .int .i64 x.f2.f0, .int .i64 x.f2.f1, .int .i64 x.f2.f2, .int .i64 x.f3, .int .i64 x.f4, .string x.f5, .int .i64 x.f6, .slice A7 x.f7.length c7, .slice A8 x.f8.length c8] 54 (0, 0)) :: F)) ∧ Aside0 (kq + i = x.f8.length + 1 ∧ i ≤ x.f8.length))
  case atStart => exact ⟨0, rfl, ⟨HS10.out⟩, ⟨by omega⟩⟩
  case round =>
   obtain ⟨i, rfl, HA, HK⟩ := hrel
   obtain ⟨k1, rfl⟩ : ∃ k1, gk = k1 + 1 := ⟨gk - 1, by have := HK.out; omega⟩
   by_cases hi : i < x.f8.length
   rotate_left
   ·
    have hie : i = x.f8.length := by have := HK.out; omega
    have hb2 : decide ((i : Int) < (x.f8.length : Int)) = false := decide_eq_false z2_
    have hb3 : decide (i < x.f8.length) = false := decide_eq_false hi
    clear hi
    go_wp2
    go_end0
    refine ⟨⟨_, rfl⟩, ?_⟩
    have h := HA.out
    rw [hie, List.take_length] at h
    rw [HU2.out]
    exact (Sp.s2 h).tail
   obtain ⟨ad, hA, hx0, hx1⟩ := gQ (aV HC8.out HA.out.s1.old) (i : Int) z2_ z2_
   cases hA
   rw [kI hi] at hx0 hx1
   rw [Int.toNat_natCast] at hx0 hx1
   have hb0 : (0 ≤ (i : Int)) = True := eq_true z2_
   have hb1 : ((i : Int) < (x.f8.length : Int)) = True := eq_true z2_
   have hb2 : decide ((i : Int) < (x.f8.length : Int)) = true := decide_eq_true z2_
   have hb3 : decide (i < x.f8.length) = true := decide_eq_true hi
   have HI2 := mk_ hi
   have HT := mk_ (eL hi)
   generalize x.f8[i] = d at *
   clear hi
   have HD := mk_ (HA.out.box (.cells #[.int .i64 0, .int .i64 0] 50 (0, 0)))
   go_wp2_with (first | ((with_reducible refine dJ (ty := 50) (x := .tmp 5) (y := .tmp 65) rfl ?_); refine wpList_store_row rfl 50 (.tmp 5) (.tmp 65) rfl wr.heap.size #[.int .i64 d.f0, .int .i64 d.f1] rfl rfl 50 #[.int .i64 0, .int .i64 0] HD.out.blk z1_ rfl z7_ ?_; have HE := mk_ (bG HD.out #[.int .i64 d.f0, .int .i64 d.f1]); have kd := aC HE.out.blk) | (go_at_call 88; refine (fC _ d HE.out.tail (by have := HLEN.out; have h1 := eQ (f := wDot) (m := 14) fM (x.f8.take i) (wNum (x.f8.length : Int) 1 (b8, true)); have h2 := cH (x.f8.length : Int) 1 (b8, true); have h3 := HX.out.1.2.2; have h4 := List.length_take_le i x.f8; have h6 := HI2.out; have h5 : (b8, true).1.length = b8.length := rfl; omega)).mono ?_; rintro e W2 ⟨⟨u, rfl⟩, h1⟩; have HS11 := mk_ h1; clear h1))
   go_roundg k1
   case measure => exact Nat.lt_succ_self _
   case rel => exact ⟨i + 1, by rw [w64 z2_ (by have := HI2.out; have := HX.out.1.2.2; omega)]; rfl, ⟨by rw [HT.out, eF]; exact HS11.out⟩, ⟨by have := HK.out; omega, by have := HI2.out; omega⟩⟩
 | false =>
  by_cases hc : x.f8.length > 64
  ·
   have hd1 : decide ((64 : Int) < (x.f8.length : Int)) = true := decide_eq_true z2_
   have hd2 : decide (64 < x.f8.length) = true := decide_eq_true hc
   have hn0 : wOr (decide (x.f8.length > 64)) (b8, false) = (b8, true) := by unfold wOr; simp [hc]
   have HU2 := mk_ (HU.out.trans (congrArg (fun q => wAll wDot x.f8 (wNum x.f8.length 1 q)) hn0))
   clear hn0 HU
   go_enter Try.func51, Try.ntmps51
   go_wp2_with (first
  | (go_at_call 49; (with_reducible show Calls _ _ _ (World.alloc w _) _); refine (cB s x.f3 1 HS0.out (by have := HLEN.out; omega)).mono ?_; rintro e V1 ⟨⟨u, rfl⟩, h1⟩; rw [← HE1.out] at h1; have HS1 := mk_ h1; have kx1 := aC HS1.out.s2.blk; clear h1)
  | (go_at_call 88; (with_reducible show Calls _ _ _ V1 _); refine (fC s1 x.f0 HS1.out (by have := HLEN.out; omega)).mono ?_; rintro e V2 ⟨⟨u, rfl⟩, h1⟩; rw [← HE2.out] at h1; have HS2 := mk_ h1; have kx2 := aC HS2.out.s2.blk; clear h1)
  | (go_at_call 47; (with_reducible show Calls _ _ _ V2 _); refine (gE A1 c1 x.f1 HC1.out HX.out.2.1 HX.out.1.1 s2 HS2.out (by have := HLEN.out; omega)).mono ?_; rintro e V3 ⟨⟨u, rfl⟩, h1⟩; rw [← HE3.out] at h1; have HS3 := mk_ h1; have kx3 := aC HS3.out.s2.blk; clear h1)
  | (go_at_call 48; (with_reducible show Calls _ _ _ V3 _); refine (fT s3 x.f2 HS3.out (by have := HLEN.out; omega)).mono ?_; rintro e V4 ⟨⟨u, rfl⟩, h1⟩; rw [← HE4.out] at h1; have HS4 := mk_ h1; have kx4 := aC HS4.out.s2.blk; clear h1)
  | (go_at_call 49; (with_reducible show Calls _ _ _ V4 _); refine (cB s4 x.f4 1 HS4.out (by have := HLEN.out; omega)).mono ?_; rintro e V5 ⟨⟨u, rfl⟩, h1⟩; rw [← HE5.out] at h1; have HS5 := mk_ h1; have kx5 := aC HS5.out.s2.blk; clear h1)
  | (go_at_call 87; (with_reducible show Calls _ _ _ V5 _); refine (hH s5 x.f5 HS5.out (by have := HLEN.out; omega)).mono ?_; rintro e V6 ⟨⟨u, rfl⟩, h1⟩; rw [← HE6.out] at h1; have HS6 := mk_ h1; have kx6 := aC HS6.out.s2.blk; clear h1)
  | (go_at_call 49; (with_reducible show Calls _ _ _ V6 _); refine (cB s6 x.f6 1 HS6.out (by have := HLEN.out; omega)).mono ?_; rintro e V7 ⟨⟨u, rfl⟩, h1⟩; rw [← HE7.out] at h1; have HS7 := mk_ h1; have kx7 := aC HS7.out.s2.blk; clear h1)
  | (go_at_call 90; refine (PAll.row_Bytes.calls 1100 A7 c7 x.f7 rb re _ (aV HC7.out HS7.out.s1.old) HX.out.2.2.1 HR.out).mono ?_; rintro e V8 ⟨v_, rfl, hr_, hq_⟩; obtain ⟨Ab, cb, rfl⟩ := dH hr_; have HS8 := mk_ (Sp.made HS7.out hq_ hr_).s1; clear hr_ hq_)
  | (go_at_call 86; refine (gR s7.1 s7.2 Ab cb rb re HS8.out (by have := HLEN.out; omega)).mono ?_; rintro e V9 ⟨⟨u, rfl⟩, h1⟩; rw [show ((s7.1, s7.2) : Wr) = s7 from rfl, ← HE8.out] at h1; have kx9 := aC h1.s2.blk; obtain ⟨v9, h2⟩ := WrP.open h1; have k91 := aC h2.blk 1; have f91 := aH h2.blk 1; have HS9 := mk_ h2; clear h1 h2)
  | (go_at_call 49; (with_reducible show Calls _ _ _ (World.setCell V9 _ _) _); refine (cB (b8, true) (x.f8.length : Int) 1 (WrP.shut (HS9.out.store 1 (.bool true))) (by have := HLEN.out; show b8.length ≤ _; omega)).mono ?_; rintro e V10 ⟨⟨u, rfl⟩, h1⟩; have HS10 := mk_ h1; have kx10 := aC HS10.out.s2.blk; clear h1))
   go_loopg [62] (x.f8.length + 1) (fun kq v62 W' => ∃ (i : Nat), v62 = .int .i64 (i : Int) ∧ Aside0 (Sp W' (WrP ty g (wAll wDot (x.f8.take i) (wNum (x.f8.length : Int) 1 (b8, true))) :: Old w0 :: Blk w.heap.size (.cells #[.int .i64 x.f0.f0, .int .i64 x.f0.f1, .slice A1 x.f1.length c1, .int .i64 x.f2.f0, .int .i64 x.f2.f1, .int .i64 x.f2.f2, .int .i64 x.f3, .int .i64 x.f4, .string x.f5, .int .i64 x.f6, .slice A7 x.f7.length c7, .slice A8 x.f8.length c8] 54 (0, 0)) :: F)) ∧ Aside0 (kq + i = x.f8.length + 1 ∧ i ≤ x.f8.length))
   case atStart => exact ⟨0, rfl, ⟨HS10.out⟩, ⟨by omega⟩⟩
   case round =>
    obtain ⟨i, rfl, HA, HK⟩ := hrel
    obtain ⟨k1, rfl⟩ : ∃ k1, gk = k1 + 1 := ⟨gk - 1, by have := HK.out; omega⟩
    by_cases hi : i < x.f8.length
    ·
     obtain ⟨ad, hA, hx0, hx1⟩ := gQ (aV HC8.out HA.out.s1.old) (i : Int) z2_ z2_
     cases hA
     rw [kI hi] at hx0 hx1
     rw [Int.toNat_natCast] at hx0 hx1
     have hb0 : (0 ≤ (i : Int)) = True := eq_true z2_
     have hb1 : ((i : Int) < (x.f8.length : Int)) = True := eq_true z2_
     have hb2 : decide ((i : Int) < (x.f8.length : Int)) = true := decide_eq_true z2_
     have hb3 : decide (i < x.f8.length) = true := decide_eq_true hi
     have HI2 := mk_ hi
     have HT := mk_ (eL hi)
     generalize x.f8[i] = d at *
     clear hi
     have HD := mk_ (HA.out.box (.cells #[.int .i64 0, .int .i64 0] 50 (0, 0)))
     go_wp2_with (first | ((with_reducible refine dJ (ty := 50) (x := .tmp 5) (y := .tmp 65) rfl ?_); refine wpList_store_row rfl 50 (.tmp 5) (.tmp 65) rfl wr.heap.size #[.int .i64 d.f0, .int .i64 d.f1] rfl rfl 50 #[.int .i64 0, .int .i64 0] HD.out.blk z1_ rfl z7_ ?_; have HE := mk_ (bG HD.out #[.int .i64 d.f0, .int .i64 d.f1]); have kd := aC HE.out.blk) | (go_at_call 88; refine (fC _ d HE.out.tail (by have := HLEN.out; have h1 := eQ (f := wDot) (m := 14) fM (x.f8.take i) (wNum (x.f8.length : Int) 1 (b8, true)); have h2 := cH (x.f8.length : Int) 1 (b8, true); have h3 := HX.out.1.2.2; have h4 := List.length_take_le i x.f8; have h6 := HI2.out; have h5 : (b8, true).1.length = b8.length := rfl; omega)).mono ?_; rintro e W2 ⟨⟨u, rfl⟩, h1⟩; have HS11 := mk_ h1; clear h1))
     go_roundg k1
     case measure => exact Nat.lt_succ_self _
     case rel => exact ⟨i + 1, by rw [w64 z2_ (by have := HI2.out; have := HX.out.1.2.2; omega)]; rfl, ⟨by rw [HT.out, eF]; exact HS11.out⟩, ⟨by have := HK.out; omega, by have := HI2.out; omega⟩⟩
    ·
     have hie : i = x.f8.length := by have := HK.out; omega
     have hb2 : decide ((i : Int) < (x.f8.length : Int)) = false := decide_eq_false z2_
     have hb3 : decide (i < x.f8.length) = false := decide_eq_false hi
     clear hi
     go_wp2
     go_end0
     refine ⟨⟨_, rfl⟩, ?_⟩
     have h := HA.out
     rw [hie, List.take_length] at h
     rw [HU2.out]
     exact (Sp.s2 h).tail
  ·
   have hd1 : decide ((64 : Int) < (x.f8.length : Int)) = false := decide_eq_false z2_
   have hd2 : decide (64 < x.f8.length) = false := decide_eq_false hc
   have hn0 : wOr (decide (x.f8.length > 64)) (b8, false) = (b8, false) := by unfold wOr; simp; omega
   have HU2 := mk_ (HU.out.trans (congrArg (fun q => wAll wDot x.f8 (wNum x.f8.length 1 q)) hn0))
   clear hn0 HU
   go_enter Try.func51, Try.ntmps51
   go_wp2_with (first
  | (go_at_call 49; (with_reducible show Calls _ _ _ (World.alloc w _) _); refine (cB s x.f3 1 HS0.out (by have := HLEN.out; omega)).mono ?_; rintro e V1 ⟨⟨u, rfl⟩, h1⟩; rw [← HE1.out] at h1; have HS1 := mk_ h1; have kx1 := aC HS1.out.s2.blk; clear h1)
  | (go_at_call 88; (with_reducible show Calls _ _ _ V1 _); refine (fC s1 x.f0 HS1.out (by have := HLEN.out; omega)).mono ?_; rintro e V2 ⟨⟨u, rfl⟩, h1⟩; rw [← HE2.out] at h1; have HS2 := mk_ h1; have kx2 := aC HS2.out.s2.blk; clear h1)
  | (go_at_call 47; (with_reducible show Calls _ _ _ V2 _); refine (gE A1 c1 x.f1 HC1.out HX.out.2.1 HX.out.1.1 s2 HS2.out (by have := HLEN.out; omega)).mono ?_; rintro e V3 ⟨⟨u, rfl⟩, h1⟩; rw [← HE3.out] at h1; have HS3 := mk_ h1; have kx3 := aC HS3.out.s2.blk; clear h1)
  | (go_at_call 48; (with_reducible show Calls _ _ _ V3 _); refine (fT s3 x.f2 HS3.out (by have := HLEN.out; omega)).mono ?_; rintro e V4 ⟨⟨u, rfl⟩, h1⟩; rw [← HE4.out] at h1; have HS4 := mk_ h1; have kx4 := aC HS4.out.s2.blk; clear h1)
  | (go_at_call 49; (with_reducible show Calls _ _ _ V4 _); refine (cB s4 x.f4 1 HS4.out (by have := HLEN.out; omega)).mono ?_; rintro e V5 ⟨⟨u, rfl⟩, h1⟩; rw [← HE5.out] at h1; have HS5 := mk_ h1; have kx5 := aC HS5.out.s2.blk; clear h1)
  | (go_at_call 87; (with_reducible show Calls _ _ _ V5 _); refine (hH s5 x.f5 HS5.out (by have := HLEN.out; omega)).mono ?_; rintro e V6 ⟨⟨u, rfl⟩, h1⟩; rw [← HE6.out] at h1; have HS6 := mk_ h1; have kx6 := aC HS6.out.s2.blk; clear h1)
  | (go_at_call 49; (with_reducible show Calls _ _ _ V6 _); refine (cB s6 x.f6 1 HS6.out (by have := HLEN.out; omega)).mono ?_; rintro e V7 ⟨⟨u, rfl⟩, h1⟩; rw [← HE7.out] at h1; have HS7 := mk_ h1; have kx7 := aC HS7.out.s2.blk; clear h1)
  | (go_at_call 90; refine (PAll.row_Bytes.calls 1100 A7 c7 x.f7 rb re _ (aV HC7.out HS7.out.s1.old) HX.out.2.2.1 HR.out).mono ?_; rintro e V8 ⟨v_, rfl, hr_, hq_⟩; obtain ⟨Ab, cb, rfl⟩ := dH hr_; have HS8 := mk_ (Sp.made HS7.out hq_ hr_).s1; clear hr_ hq_)
  | (go_at_call 86; refine (gR s7.1 s7.2 Ab cb rb re HS8.out (by have := HLEN.out; omega)).mono ?_; rintro e V9 ⟨⟨u, rfl⟩, h1⟩; rw [show ((s7.1, s7.2) : Wr) = s7 from rfl, ← HE8.out] at h1; have kx9 := aC h1.s2.blk; obtain ⟨v9, h2⟩ := WrP.open h1; have k91 := aC h2.blk 1; have f91 := aH h2.blk 1; have HS9 := mk_ h2; clear h1 h2)
  | (go_at_call 49; (with_reducible show Calls _ _ _ (World.setCell V9 _ _) _); refine (cB (b8, false) (x.f8.length : Int) 1 (WrP.shut (HS9.out.store 1 (.bool false))) (by have := HLEN.out; show b8.length ≤ _; omega)).mono ?_; rintro e V10 ⟨⟨u, rfl⟩, h1⟩; have HS10 := mk_ h1; have kx10 := aC HS10.out.s2.blk; clear h1))
   go_loopg [62] (x.f8.length + 1) (fun kq v62 W' => ∃ (i : Nat), v62 = .int .i64 (i : Int) ∧ Aside0 (Sp W' (WrP ty g (wAll wDot (x.f8.take i) (wNum (x.f8.length : Int) 1 (b8, false))) :: Old w0 :: Blk w.heap.size (.cells #[.int .i64 x.f0.f0, .int .i64 x.f0.f1, .slice A1 x.f1.length c1, .int .i64 x.f2.f0, .int .i64 x.f2.f1, .int .i64 x.f2.f2, .int .i64 x.f3, .int .i64 x.f4, .string x.f5, .int .i64 x.f6, .slice A7 x.f7.length c7, .slice A8 x.f8.length c8] 54 (0, 0)) :: F)) ∧ Aside0 (kq + i = x.f8.length + 1 ∧ i ≤ x.f8.length))
   case atStart => exact ⟨0, rfl, ⟨HS10.out⟩, ⟨by omega⟩⟩
   case round =>
    obtain ⟨i, rfl, HA, HK⟩ := hrel
    obtain ⟨k1, rfl⟩ : ∃ k1, gk = k1 + 1 := ⟨gk - 1, by have := HK.out; omega⟩
    by_cases hi : i < x.f8.length
    ·
     obtain ⟨ad, hA, hx0, hx1⟩ := gQ (aV HC8.out HA.out.s1.old) (i : Int) z2_ z2_
     cases hA
     rw [kI hi] at hx0 hx1
     rw [Int.toNat_natCast] at hx0 hx1
     have hb0 : (0 ≤ (i : Int)) = True := eq_true z2_
     have hb1 : ((i : Int) < (x.f8.length : Int)) = True := eq_true z2_
     have hb2 : decide ((i : Int) < (x.f8.length : Int)) = true := decide_eq_true z2_
     have hb3 : decide (i < x.f8.length) = true := decide_eq_true hi
     have HI2 := mk_ hi
     have HT := mk_ (eL hi)
     generalize x.f8[i] = d at *
     clear hi
     have HD := mk_ (HA.out.box (.cells #[.int .i64 0, .int .i64 0] 50 (0, 0)))
     go_wp2_with (first | ((with_reducible refine dJ (ty := 50) (x := .tmp 5) (y := .tmp 65) rfl ?_); refine wpList_store_row rfl 50 (.tmp 5) (.tmp 65) rfl wr.heap.size #[.int .i64 d.f0, .int .i64 d.f1] rfl rfl 50 #[.int .i64 0, .int .i64 0] HD.out.blk z1_ rfl z7_ ?_; have HE := mk_ (bG HD.out #[.int .i64 d.f0, .int .i64 d.f1]); have kd := aC HE.out.blk) | (go_at_call 88; refine (fC _ d HE.out.tail (by have := HLEN.out; have h1 := eQ (f := wDot) (m := 14) fM (x.f8.take i) (wNum (x.f8.length : Int) 1 (b8, false)); have h2 := cH (x.f8.length : Int) 1 (b8, false); have h3 := HX.out.1.2.2; have h4 := List.length_take_le i x.f8; have h6 := HI2.out; have h5 : (b8, false).1.length = b8.length := rfl; omega)).mono ?_; rintro e W2 ⟨⟨u, rfl⟩, h1⟩; have HS11 := mk_ h1; clear h1))
     go_roundg k1
     case measure => exact Nat.lt_succ_self _
     case rel => exact ⟨i + 1, by rw [w64 z2_ (by have := HI2.out; have := HX.out.1.2.2; omega)]; rfl, ⟨by rw [HT.out, eF]; exact HS11.out⟩, ⟨by have := HK.out; omega, by have := HI2.out; omega⟩⟩
    ·
     have hie : i = x.f8.length := by have := HK.out; omega
     have hb2 : decide ((i : Int) < (x.f8.length : Int)) = false := decide_eq_false z2_
     have hb3 : decide (i < x.f8.length) = false := decide_eq_false hi
     clear hi
     go_wp2
     go_end0
     refine ⟨⟨_, rfl⟩, ?_⟩
     have h := HA.out
     rw [hie, List.take_length] at h
     rw [HU2.out]
     exact (Sp.s2 h).tail
end
end Go.Proofs.Ytcbfliajgopdaaa.Ops
end
section
namespace Go.Proofs.Ytcbfliajgopdaaa.Ops
open Go.RowKit PAll Ops Plain PrintWords PrintLast PrintMore Go.Proofs.Ytcbfliajgopdaaa.Sep ZipT PrintWords.Kd PrintMore.Kd
set_option linter.unusedVariables false
set_option linter.unusedSimpArgs false
section
variable {w : World}
theorem bytes_sp (x : Ox) (A1 A7 A8 : Option Addr) (c1 c7 c8 : Nat) (hC1 : Kd.C (Kd.int .i64) w A1 x.f1.length x.f1) (h1c : x.f1.length ≤ c1) (hC7 : Kd.C k89 w A7 x.f7.length x.f7) (h7c : x.f7.length ≤ c7) (hC8 : Kd.C k50 w A8 x.f8.length x.f8) (h8c : x.f8.length ≤ c8) (hx : opSmall x) :
  Calls Try.prog 60 #[.agg #[.int .i64 x.f0.f0, .int .i64 x.f0.f1, .slice A1 x.f1.length c1, .int .i64 x.f2.f0, .int .i64 x.f2.f1, .int .i64 x.f2.f2, .int .i64 x.f3, .int .i64 x.f4, .string x.f5, .int .i64 x.f6, .slice A7 x.f7.length c7, .slice A8 x.f8.length c8]] w fun e w' => ∃ v, e = .returned (.tuple #[v, .int .i64 (sOpBytes x).2]) ∧ Sp w' [Row (Kd.int .u8) 5 v (sOpBytes x).1, Old w] := by
 have h1 := (Sp.start w).box (.cells #[.int .i64 x.f0.f0, .int .i64 x.f0.f1, .slice A1 x.f1.length c1, .int .i64 x.f2.f0, .int .i64 x.f2.f1, .int .i64 x.f2.f2, .int .i64 x.f3, .int .i64 x.f4, .string x.f5, .int .i64 x.f6, .slice A7 x.f7.length c7, .slice A8 x.f8.length c8] 54 (0, 0))
 have h2 := h1.box (.cells #[.slice none 0 0, .bool false] 101 (0, 0))
 rw [show (w.alloc (.cells #[.int .i64 x.f0.f0, .int .i64 x.f0.f1, .slice A1 x.f1.length c1, .int .i64 x.f2.f0, .int .i64 x.f2.f1, .int .i64 x.f2.f2, .int .i64 x.f3, .int .i64 x.f4, .string x.f5, .int .i64 x.f6, .slice A7 x.f7.length c7, .slice A8 x.f8.length c8] 54 (0, 0))).heap.size = w.heap.size + 1 from Array.size_push _] at h2
 have h3 := WrP.shut (bs := []) (bad := false) (v := .slice none 0 0) (dG (d := Kd.int .u8) (e := 5) h2).s1
 have hQ := wop_calls (w0 := w) x A1 A7 A8 c1 c7 c8 hC1 h1c hC7 h7c hC8 h8c hx ([], false) h3.s2.s1 (by show 0 ≤ _; omega)
 have hu : sOpBytes x = if (wOp x ([], false)).2 = true then ([], 1) else ((wOp x ([], false)).1, 0) := rfl
 rw [hu]
 clear h1 h2 h3 hC1 hC7 hC8 h1c h7c h8c hx hu
 generalize wOp x ([], false) = q at hQ ⊢
 obtain ⟨bs, bad⟩ := q
 have HQ := mk_ hQ
 clear hQ
 cases bad with
 | true =>
  rw [if_pos rfl]
  go_enter Try.func60, Try.ntmps60
  go_wp2_with (go_at_call 51; refine HQ.out.mono ?_; rintro e V ⟨⟨u, rfl⟩, h⟩; obtain ⟨v, h4⟩ := WrP.open h; obtain ⟨Av, cv, rfl, _, _⟩ := h4.tail.row; have k0 := aC h4.blk 0; have k1 := aC h4.blk 1; have HS := mk_ h4; clear h h4)
  go_ret2
  exact ⟨_, rfl, dG HS.out.tail.tail.s1.tail⟩
 | false =>
  rw [if_neg (by show ¬ (false = true); decide)]
  go_enter Try.func60, Try.ntmps60
  go_wp2_with (go_at_call 51; refine HQ.out.mono ?_; rintro e V ⟨⟨u, rfl⟩, h⟩; obtain ⟨v, h4⟩ := WrP.open h; obtain ⟨Av, cv, rfl, _, _⟩ := h4.tail.row; have k0 := aC h4.blk 0; have k1 := aC h4.blk 1; have HS := mk_ h4; clear h h4)
  go_ret2
  exact ⟨_, rfl, HS.out.tail.s2.tail⟩
end
end Go.Proofs.Ytcbfliajgopdaaa.Ops
end
section
namespace Go.Proofs.Ytcbfliajgopdaaa.PAll
open Go.RowKit PAll Ops Plain PrintWords PrintLast PrintMore Go.Proofs.Ytcbfliajgopdaaa.Sep ZipT PrintWords.Kd PrintMore.Kd
set_option linter.unusedVariables false
set_option linter.unusedSimpArgs false
instance (l : List Int) : Decidable (Bytes l) := by unfold Bytes Byte; infer_instance
end Go.Proofs.Ytcbfliajgopdaaa.PAll
end
section
namespace Go.Proofs.Ytcbfliajgopdaaa.Ops
open Go.RowKit PAll Plain PrintWords PrintMore ZipT PrintWords.Kd PrintMore.Kd
set_option linter.unusedVariables false
set_option linter.unusedSimpArgs false
instance : DecidableEq Dt := fun a b => decidable_of_iff (a.f0 = b.f0 ∧ a.f1 = b.f1) ⟨fun ⟨h0, h1⟩ => by cases a; cases b; simp_all, fun h => by subst h; exact ⟨rfl, rfl⟩⟩
instance : DecidableEq St := fun a b => decidable_of_iff (a.f0 = b.f0 ∧ a.f1 = b.f1 ∧ a.f2 = b.f2) ⟨fun ⟨h0, h1, h2⟩ => by cases a; cases b; simp_all, fun h => by subst h; exact ⟨rfl, rfl, rfl⟩⟩
instance : DecidableEq Ox := fun a b => decidable_of_iff (a.f0 = b.f0 ∧ a.f1 = b.f1 ∧ a.f2 = b.f2 ∧ a.f3 = b.f3 ∧ a.f4 = b.f4 ∧ a.f5 = b.f5 ∧ a.f6 = b.f6 ∧ a.f7 = b.f7 ∧ a.f8 = b.f8) ⟨fun ⟨h0, h1, h2, h3, h4, h5, h6, h7, h8⟩ => by cases a; cases b; simp_all, fun h => by subst h; exact ⟨rfl, rfl, rfl, rfl, rfl, rfl, rfl, rfl, rfl⟩⟩
theorem jS (a b : Dt) : cY.f a.f0 a.f1 b.f0 b.f1 = some (decide (a = b)) := by
 obtain ⟨a0, a1⟩ := a
 obtain ⟨b0, b1⟩ := b
 unfold cY.f
 simp only
 by_cases h : a0 = b0
 rotate_left
 ·
  rw [if_neg h, decide_eq_false (fun e => h (by injection e))]
 rw [if_pos h]; subst h
 by_cases h1 : a1 = b1
 ·
  subst h1; rw [decide_eq_true rfl, beq_self_eq_true]
 rw [decide_eq_false (fun e => h1 (by injection e)), beq_eq_false_iff_ne.2 h1]
theorem iJ (a b : St) : cE.f a.f0 a.f1 a.f2 b.f0 b.f1 b.f2 = some (decide (a = b)) := by
 obtain ⟨a0, a1, a2⟩ := a
 obtain ⟨b0, b1, b2⟩ := b
 unfold cE.f
 simp only
 by_cases h : a0 = b0
 rotate_left
 ·
  rw [if_neg h, decide_eq_false (fun e => h (by injection e))]
 rw [if_pos h]; subst h
 by_cases h1 : a1 = b1
 rotate_left
 ·
  rw [if_neg h1, decide_eq_false (fun e => h1 (by injection e))]
 rw [if_pos h1]; subst h1
 by_cases h2 : a2 = b2
 ·
  subst h2; rw [decide_eq_true rfl, beq_self_eq_true]
 rw [decide_eq_false (fun e => h2 (by injection e)), beq_eq_false_iff_ne.2 h2]
theorem keepDots_l0 (a b : List Dt) (ha : a.length ≤ 1000000) (hl : a.length = b.length) (m : List Dt) : ∀ (k i : Nat), a.drop i = m → m.length < k →
  bI.l0 k a b (i : Int) = some (decide (m = b.drop i)) := by
 induction m with
 | nil =>
  intro k i h hk
  obtain ⟨k, rfl⟩ : ∃ j, k = j + 1 := ⟨k - 1, by omega⟩
  have h1 := cG h
  simp only [bI.l0]
  rw [if_neg z2_, List.drop_eq_nil_iff.2 z2_]; simp
 | cons v m ih =>
  intro k i h hk
  obtain ⟨k, rfl⟩ : ∃ j, k = j + 1 := ⟨k - 1, by omega⟩
  have h1 := dC h
  simp only [bI.l0]
  cases hd : b.drop i with
  | nil => have h2 := cG hd; omega
  | cons t n =>
   rw [if_pos z2_, if_pos z2_, if_pos z2_, iV h, iV hd, jS, Option.bind_some, w64 z2_ z2_]
   by_cases hz : v = t
   rotate_left
   ·
    rw [decide_eq_false hz, if_neg z4_]
    simp [hz]
   have := ih k (i + 1) (bY h) (by simp at hk; omega)
   rw [decide_eq_true hz, if_pos rfl, show ((i : Int) + 1) = ((i + 1 : Nat) : Int) from rfl, this, bY hd, hz]
   simp
theorem keepDots_eq (k : Nat) (a b : List Dt) (ha : a.length ≤ 1000000) (hk : a.length + 1 ≤ k) : bI.f k a b = some (decide (a = b)) := by
 unfold bI.f
 by_cases hl : (a.length : Int) = b.length
 rotate_left
 ·
  rw [if_neg hl, decide_eq_false (fun e => hl (by rw [e]))]
 rw [if_pos hl]
 exact keepDots_l0 a b ha z2_ a k 0 rfl z2_
theorem keepOp_eq (k : Nat) (x y : Ox) (h1 : x.f1.length ≤ 1000000) (h7 : x.f7.length ≤ 1000000) (h8 : x.f8.length ≤ 1000000) (hk : x.f1.length + 1 ≤ k ∧ x.f7.length + 1 ≤ k ∧ x.f8.length + 1 ≤ k) :
  raddlekeep_Op.f k x.f0.f0 x.f0.f1 x.f1 x.f2.f0 x.f2.f1 x.f2.f2 x.f3 x.f4 x.f5 x.f6 x.f7 x.f8 y.f0.f0 y.f0.f1 y.f1 y.f2.f0 y.f2.f1 y.f2.f2 y.f3 y.f4 y.f5 y.f6 y.f7 y.f8 = some (decide (x = y)) := by
 unfold raddlekeep_Op.f
 rw [jS, Option.bind_some]
 by_cases e0 : x.f0 = y.f0
 rotate_left
 ·
  rw [decide_eq_false e0, if_neg z4_, decide_eq_false (fun e => e0 (by rw [e]))]
 rw [decide_eq_true e0, if_pos rfl, keepInts_eq _ _ _ h1 hk.1, Option.bind_some]
 by_cases e1 : x.f1 = y.f1
 rotate_left
 ·
  rw [decide_eq_false e1, if_neg z4_, decide_eq_false (fun e => e1 (by rw [e]))]
 rw [decide_eq_true e1, if_pos rfl, iJ, Option.bind_some]
 by_cases e2 : x.f2 = y.f2
 rotate_left
 ·
  rw [decide_eq_false e2, if_neg z4_, decide_eq_false (fun e => e2 (by rw [e]))]
 rw [decide_eq_true e2, if_pos rfl]
 by_cases e3 : x.f3 = y.f3
 rotate_left
 ·
  rw [if_neg e3, decide_eq_false (fun e => e3 (by rw [e]))]
 rw [if_pos e3]
 by_cases e4 : x.f4 = y.f4
 rotate_left
 ·
  rw [if_neg e4, decide_eq_false (fun e => e4 (by rw [e]))]
 rw [if_pos e4]
 by_cases e5 : x.f5 = y.f5
 rotate_left
 ·
  rw [if_neg (fun e => e5 (toList_inj.1 e)), decide_eq_false (fun e => e5 (by rw [e]))]
 rw [if_pos (toList_inj.2 e5)]
 by_cases e6 : x.f6 = y.f6
 rotate_left
 ·
  rw [if_neg e6, decide_eq_false (fun e => e6 (by rw [e]))]
 rw [if_pos e6, keepRow_eq _ _ _ h7 hk.2.1, Option.bind_some]
 by_cases e7 : x.f7 = y.f7
 rotate_left
 ·
  rw [decide_eq_false e7, if_neg z4_, decide_eq_false (fun e => e7 (by rw [e]))]
 rw [decide_eq_true e7, if_pos rfl, keepDots_eq _ _ _ h8 hk.2.2, Option.bind_some]
 by_cases e8 : x.f8 = y.f8
 rotate_left
 ·
  rw [decide_eq_false e8, decide_eq_false (fun e => e8 (by rw [e]))]
 rw [decide_eq_true e8, decide_eq_true]
 cases x; cases y; simp_all
theorem encT_bytes (t : ByteArray) (h : t.size ≤ 24) : Bytes (encT t) := Bytes.cons ⟨by omega, by omega⟩ (jM t)
theorem gV {α : Type} {f : α → List Int} (h : ∀ x, Bytes (f x)) : ∀ l : List α, Bytes (l.flatMap f)
 | [] => Bytes.nil
 | x :: l => by rw [List.flatMap_cons]; exact (h x).append (gV h l)
theorem opB_bytes {x : Ox} (h : opFit x) : Bytes (opB x) := by
 have hd : ∀ d : Dt, Bytes (dotB d) := fun d => (dA _ _).append (dA _ _)
 unfold opB numsB stampB dotsB
 exact ((((((((dA _ _).append (hd _)).append ((dA _ _).append (gV (fun n => dA _ _) _))).append (((dA _ _).append (dA _ _)).append (dA _ _))).append (dA _ _)).append (encT_bytes _ h.1.1.1.2)).append (dA _ _)).append (rowB_bytes h.1.2)).append ((dA _ _).append (gV hd _))
theorem read_back {x : Ox} (h : opFit x) : sOpRead (opB x) 0 = (x, ((opB x).length : Int), 0) := by
 have := opRead_put [] [] x h
 simpa using this
end Go.Proofs.Ytcbfliajgopdaaa.Ops
end
section
namespace Go.Proofs.Ytcbfliajgopdaaa.Ops
open Go.RowKit PAll Plain PrintWords PrintMore ZipT PrintWords.Kd PrintMore.Kd
set_option linter.unusedVariables false
set_option linter.unusedSimpArgs false
theorem iH (n : Int) (s : Nat) (h1 : 1 ≤ s) (h7 : s ≤ 7) : bM.f n (s : Int) = some (decide (fitN s n)) := by
 unfold bM.f
 by_cases h : n ≥ 0
 rotate_left
 ·
  rw [if_neg h, decide_eq_false (fun e => h e.1)]
 rw [if_pos h, w64 z2_ z2_, wu64 z2_ z2_, if_pos z2_, shr_bytes n s z2_]
 congr 1
 have hp : (0 : Int) < 256 ^ s := Int.pow_pos z4_
 by_cases hf : fitN s n
 ·
  rw [decide_eq_true hf, beq_iff_eq]; exact Int.ediv_eq_zero_of_lt hf.1 hf.2
 rw [decide_eq_false hf, beq_eq_false_iff_ne]
 intro e
 apply hf
 refine ⟨h, ?_⟩
 have h3 := Int.ediv_mul_le n (show (256 : Int) ^ s ≠ 0 by omega)
 have h4 := Int.emod_lt_of_pos n hp
 have h5 := Int.emod_add_mul_ediv n (256 ^ s)
 rw [e, Int.mul_zero, Int.add_zero] at h5
 omega
theorem dotFit_eq (d : Dt) : cI.f d.f0 d.f1 = some (decide (dotFit d)) := by
 have a1 := iH d.f0 1 z4_ z4_
 have a4 := iH d.f1 4 z4_ z4_
 unfold cI.f
 refine (congrArg (fun q => Option.bind q _) a1).trans ?_
 rw [Option.bind_some]
 by_cases h1 : fitN 1 d.f0
 rotate_left
 ·
  rw [decide_eq_false h1, if_neg z4_, decide_eq_false (fun e => h1 e.1)]
 rw [decide_eq_true h1, if_pos rfl]
 refine (congrArg (fun q => Option.bind q _) a4).trans ?_
 rw [Option.bind_some]
 congr 1; rw [decide_eq_decide]; exact ⟨fun e => ⟨h1, e⟩, fun e => e.2⟩
theorem stampFit_eq (t : St) : cP.f t.f0 t.f1 t.f2 = some (decide (stampFit t)) := by
 have a1 := iH t.f0 6 z4_ z4_
 have a2 := iH t.f1 3 z4_ z4_
 have a3 := iH t.f2 1 z4_ z4_
 unfold cP.f
 refine (congrArg (fun q => Option.bind q _) a1).trans ?_
 rw [Option.bind_some]
 by_cases h1 : fitN 6 t.f0
 rotate_left
 ·
  rw [decide_eq_false h1, if_neg z4_, decide_eq_false (fun e => h1 e.1.1)]
 rw [decide_eq_true h1, if_pos rfl]
 refine (congrArg (fun q => Option.bind q _) a2).trans ?_
 rw [Option.bind_some]
 by_cases h2 : fitN 3 t.f1
 rotate_left
 ·
  rw [decide_eq_false h2, if_neg z4_, decide_eq_false (fun e => h2 e.1.2)]
 rw [decide_eq_true h2, if_pos rfl]
 refine (congrArg (fun q => Option.bind q _) a3).trans ?_
 rw [Option.bind_some]
 congr 1; rw [decide_eq_decide]; exact ⟨fun e => ⟨⟨h1, h2⟩, e⟩, fun e => e.2⟩
theorem vecFit_l0 (l : List Int) (hl : l.length ≤ 1000000) (m : List Int) : ∀ (k i : Nat), l.drop i = m → m.length < k →
  bN.l0 k l (i : Int) = some (decide ((∀ n ∈ m, fitN 4 n) ∧ l.length ≤ 5)) := by
 induction m with
 | nil =>
  intro k i h hk
  obtain ⟨k, rfl⟩ : ∃ j, k = j + 1 := ⟨k - 1, by omega⟩
  have := cG h
  simp only [bN.l0]
  rw [if_neg z2_]
  congr 1; rw [decide_eq_decide]; constructor
  ·
   intro e; exact ⟨fun n hn => (by cases hn), by omega⟩
  ·
   intro e; have := e.2; omega
 | cons v m ih =>
  intro k i h hk
  obtain ⟨k, rfl⟩ : ∃ j, k = j + 1 := ⟨k - 1, by omega⟩
  have hi := dC h
  simp only [List.length_cons] at hk
  have a4 := iH v 4 z4_ z4_
  simp only [bN.l0]
  rw [if_pos z2_, if_pos z2_, gC h]
  refine (congrArg (fun q => Option.bind q _) a4).trans ?_
  rw [Option.bind_some]
  by_cases ho : fitN 4 v
  rotate_left
  ·
   rw [decide_eq_false ho, if_neg z4_, decide_eq_false (fun e => ho (e.1 v List.mem_cons_self))]
  rw [decide_eq_true ho, if_pos rfl, w64 z2_ z2_]
  refine (ih k (i + 1) (bY h) z2_).trans ?_
  congr 1; rw [decide_eq_decide]
  exact ⟨fun e => ⟨fun n hn => by rcases List.mem_cons.1 hn with rfl | hn; exact ho; exact e.1 n hn, e.2⟩, fun e => ⟨fun n hn => e.1 n (List.mem_cons_of_mem _ hn), e.2⟩⟩
theorem vecFit_eq (k : Nat) (l : List Int) (hl : l.length ≤ 1000000) (hk : l.length < k) : bN.f k l = some (decide (numsFit l)) := by
 have := vecFit_l0 l hl l k 0 rfl hk
 unfold bN.f
 refine this.trans ?_
 congr 1; rw [decide_eq_decide]; exact ⟨fun e => ⟨e.2, e.1⟩, fun e => ⟨e.2, e.1⟩⟩
end Go.Proofs.Ytcbfliajgopdaaa.Ops
end
section
namespace Go.Proofs.Ytcbfliajgopdaaa.Ops
open Go.RowKit PAll Ops Plain PrintWords PrintLast PrintMore ZipT PrintWords.Kd PrintMore.Kd
set_option linter.unusedVariables false
set_option linter.unusedSimpArgs false
def dotsOk (l : List Dt) : Bool := decide (∀ d ∈ l, dotFit d)
theorem dots_step {l : List Dt} {i : Nat} (h : i < l.length) : dotsOk (l.drop i) = (decide (dotFit (cL l (i : Int))) && dotsOk (l.drop (i + 1))) := by
 have e1 := List.drop_eq_getElem_cons h
 rw [iV e1, e1]
 unfold dotsOk
 rw [← Bool.decide_and]
 exact decide_eq_decide.2 List.forall_mem_cons
set_option maxHeartbeats 40000000 in
theorem fits_calls (x : Ox) (A2 : Option Addr) (c2 : Nat) (A10 : Option Addr) (c10 : Nat) (A11 : Option Addr) (c11 : Nat) (w : World) (hr2 : Kd.C (Kd.int .i64) w A2 x.f1.length x.f1) (hc2 : x.f1.length ≤ c2) (hr10 : Kd.C k89 w A10 x.f7.length x.f7) (hc10 : x.f7.length ≤ c10) (hr11 : Kd.C k50 w A11 x.f8.length x.f8) (hc11 : x.f8.length ≤ c11)
  (hx : opSmall x) :
  Calls Try.prog 16 #[.agg #[.int .i64 x.f0.f0, .int .i64 x.f0.f1, .slice A2 x.f1.length c2, .int .i64 x.f2.f0, .int .i64 x.f2.f1, .int .i64 x.f2.f2, .int .i64 x.f3, .int .i64 x.f4, .string x.f5, .int .i64 x.f6, .slice A10 x.f7.length c10, .slice A11 x.f8.length c11]] w fun e w' => e = .returned (.bool (decide (opFit x))) ∧ Below w.heap.size w w' := by
 have hu1 := Try.underlying54
 have hu2 := Try.underlying50
 have hu3 := Try.underlying26
 obtain ⟨b3, e3⟩ : ∃ b, decide (fitN 1 x.f3) = b := ⟨_, rfl⟩
 obtain ⟨b0, e0⟩ : ∃ b, decide (dotFit x.f0) = b := ⟨_, rfl⟩
 obtain ⟨b1, e1⟩ : ∃ b, decide (numsFit x.f1) = b := ⟨_, rfl⟩
 obtain ⟨b2, e2⟩ : ∃ b, decide (stampFit x.f2) = b := ⟨_, rfl⟩
 obtain ⟨b4, e4⟩ : ∃ b, decide (fitN 1 x.f4) = b := ⟨_, rfl⟩
 obtain ⟨b5, e5⟩ : ∃ b, decide (24 < x.f5.size) = b := ⟨_, rfl⟩
 obtain ⟨b6, e6⟩ : ∃ b, decide (fitN 1 x.f6) = b := ⟨_, rfl⟩
 obtain ⟨b7, e7⟩ : ∃ b, decide (rowE x.f7 = 0) = b := ⟨_, rfl⟩
 obtain ⟨b8, e8⟩ : ∃ b, decide (64 < x.f8.length) = b := ⟨_, rfl⟩
 obtain ⟨ok, hok⟩ : ∃ b, (b3 && b0 && b1 && b2 && b4 && !b5 && b6 && b7 && !b8) = b := ⟨_, rfl⟩
 obtain ⟨res, hres⟩ : ∃ r, decide (opFit x) = r := ⟨_, rfl⟩
 rw [hres]
 have HR0 := mk_ (show res = (ok && dotsOk x.f8) from by
  rw [← hres, ← hok, ← e3, ← e0, ← e1, ← e2, ← e4, ← e5, ← e6, ← e7, ← e8]
  unfold opFit dotsFit dotsOk
  rw [show (!decide (24 < x.f5.size)) = decide (x.f5.size ≤ 24) from by rw [← decide_not]; exact decide_eq_decide.2 Nat.not_lt, show (!decide (64 < x.f8.length)) = decide (x.f8.length ≤ 64) from by rw [← decide_not]; exact decide_eq_decide.2 Nat.not_lt]
  simp only [← Bool.decide_and]
  exact decide_eq_decide.2 (by simp only [and_assoc]))
 have HX := mk_ hok.symm
 have H3 := mk_ (show bM.f x.f3 1 = some b3 from (iH x.f3 1 z4_ z4_).trans (by rw [e3]))
 have H0 := mk_ (show cI.f x.f0.f0 x.f0.f1 = some b0 by rw [dotFit_eq, e0])
 have H1 := mk_ (show bN.f 2000 x.f1 = some b1 by rw [vecFit_eq _ _ (by have := hx.1; omega) (by have := hx.1; omega), e1])
 have H2 := mk_ (show cP.f x.f2.f0 x.f2.f1 x.f2.f2 = some b2 by rw [stampFit_eq, e2])
 have H4 := mk_ (show bM.f x.f4 1 = some b4 from (iH x.f4 1 z4_ z4_).trans (by rw [e4]))
 have H6 := mk_ (show bM.f x.f6 1 = some b6 from (iH x.f6 1 z4_ z4_).trans (by rw [e6]))
 have H7 := mk_ (refRow_eq 2000 x.f7 (by have := hx.2.1; omega) (by have := hx.2.1; omega))
 have f5 : decide ((24 : Int) < (x.f5.size : Int)) = b5 := by rw [← e5]; exact decide_eq_decide.2 z2_
 have f8 : decide ((64 : Int) < (x.f8.length : Int)) = b8 := by rw [← e8]; exact decide_eq_decide.2 z2_
 have f7 : (rowE x.f7 == 0) = b7 := by rw [← e7]; exact (Bool.beq_eq_decide_eq _ _)
 have f7' : (rowE x.f7 != 0) = !b7 := by rw [← f7]; rfl
 have HR2 := mk_ hr2
 have HC2 := mk_ hc2
 have HR10 := mk_ hr10
 have HC10 := mk_ hc10
 have HR11 := mk_ hr11
 have HN := mk_ hx
 clear e3 e0 e1 e2 e4 e6 hres hok hr2 hc2 hr10 hc10 hr11 hc11 hx
 have HB := mk_ (Below.refl w.heap.size w)
 go_enter Try.func16, Try.ntmps16
 go_upto_region 1 with (first | ((with_reducible refine bP (N := 1) rfl ?_); (try (refine fP (by rfl) ?_; dsimp only)); refine bL ?hg (N := 1) ?hd (cs := #[.int .i64 x.f0.f0, .int .i64 x.f0.f1, .slice A2 x.f1.length c2, .int .i64 x.f2.f0, .int .i64 x.f2.f1, .int .i64 x.f2.f2, .int .i64 x.f3, .int .i64 x.f4, .string x.f5, .int .i64 x.f6, .slice A10 x.f7.length c10, .slice A11 x.f8.length c11]) (t := 54) ?hr ?_; (case hd => rfl); (case hg => rfl); (case hr => first | (go_simp; done) | (go_simp; rfl)); intro gb hg w5 hbox hb; have n0_ := mk_ (aI HB.out hb); have n1_ := mk_ (hbox); clear HB; revert n0_ n1_; intro HB BK; clear hb hbox hg))
 (try simp only [Act.put, List.setIfInBounds_toArray, List.set_cons_zero, List.set_cons_succ])
 go_cut [55] (fun v55 wc => ∃ b : Bool, v55 = .bool b ∧ Aside0 (b = !ok) ∧ Aside0 (wc.heap[gb]? = some (.cells #[.int .i64 x.f0.f0, .int .i64 x.f0.f1, .slice A2 x.f1.length c2, .int .i64 x.f2.f0, .int .i64 x.f2.f1, .int .i64 x.f2.f2, .int .i64 x.f3, .int .i64 x.f4, .string x.f5, .int .i64 x.f6, .slice A10 x.f7.length c10, .slice A11 x.f8.length c11] 54 (0, 0))) ∧ Aside0 (Below w.heap.size w wc))
 case first =>
  have kb := aC BK.out
  cases b3
  rotate_left
  cases b0
  rotate_left
  cases b1
  rotate_left
  cases b2
  rotate_left
  cases b4
  rotate_left
  cases b5
  cases b6
  rotate_left
  cases b7
  rotate_left
  cases b8
  all_goals
   go_wp2_with (first | ((with_reducible refine aT (f := 53) rfl ?_); refine Go.Proofs.Ytcbfliajgopdaaa.Short.gL (some 6) Try.func53 #[.int .i64 x.f3, .int .i64 1] (h := ?_); refine (bM.calls x.f3 1 _ _ H3.out).mono ?_; rintro e V0 ⟨rfl, hq⟩; refine ⟨_, rfl, ?_⟩; have n0_ := mk_ (dB BK.out hq.below); have n1_ := mk_ (aI HB.out hq.below); clear BK HB hq; revert n0_ n1_; intro BK HB; have kb := aC BK.out) | (go_at_call 54; (with_reducible show Calls _ _ #[_] _ _); refine (cI.calls x.f0.f0 x.f0.f1 _ _ H0.out).mono ?_; rintro e V0 ⟨rfl, hq⟩; have n0_ := mk_ (dB BK.out hq); have n1_ := mk_ (aI HB.out hq); clear BK HB hq; revert n0_ n1_; intro BK HB; have kb := aC BK.out) | (go_at_call 55; (with_reducible show Calls _ _ #[_] _ _); refine (bN.calls 2000 A2 c2 x.f1 _ _ (aV HR2.out HB.out) HC2.out H1.out).mono ?_; rintro e V0 ⟨rfl, hq⟩; have n0_ := mk_ (dB BK.out hq.below); have n1_ := mk_ (aI HB.out hq.below); clear BK HB hq; revert n0_ n1_; intro BK HB; have kb := aC BK.out) | (go_at_call 56; (with_reducible show Calls _ _ #[_] _ _); refine (cP.calls x.f2.f0 x.f2.f1 x.f2.f2 _ _ H2.out).mono ?_; rintro e V0 ⟨rfl, hq⟩; have n0_ := mk_ (dB BK.out hq); have n1_ := mk_ (aI HB.out hq); clear BK HB hq; revert n0_ n1_; intro BK HB; have kb := aC BK.out) | (go_at_call 53; (with_reducible show Calls _ _ #[.int .i64 x.f4, _] _ _); refine (bM.calls x.f4 1 _ _ H4.out).mono ?_; rintro e V0 ⟨rfl, hq⟩; have n0_ := mk_ (dB BK.out hq.below); have n1_ := mk_ (aI HB.out hq.below); clear BK HB hq; revert n0_ n1_; intro BK HB; have kb := aC BK.out) | (go_at_call 53; (with_reducible show Calls _ _ #[.int .i64 x.f6, _] _ _); refine (bM.calls x.f6 1 _ _ H6.out).mono ?_; rintro e V0 ⟨rfl, hq⟩; have n0_ := mk_ (dB BK.out hq.below); have n1_ := mk_ (aI HB.out hq.below); clear BK HB hq; revert n0_ n1_; intro BK HB; have kb := aC BK.out) | (go_at_call 57; (with_reducible show Calls _ _ #[_] _ _); refine (cM.calls 2000 A10 c10 x.f7 _ _ (aV HR10.out HB.out) HC10.out H7.out).mono ?_; rintro e V0 ⟨rfl, hq⟩; have n0_ := mk_ (dB BK.out hq); have n1_ := mk_ (aI HB.out hq); clear BK HB hq; revert n0_ n1_; intro BK HB; have kb := aC BK.out))
   go_meet
   case rel => exact ⟨_, rfl, ⟨by rw [HX.out]; rfl⟩, ⟨BK.out⟩, ⟨HB.out⟩⟩
 case rest => as_aux_lemma =>
 obtain ⟨b, rfl, HA, BK, HB⟩ := hcut
 clear f5 f8 f7 f7' e5 e7 e8
 cases b with
 | true =>
  have ht : ok = false := by
   have := HA.out
   cases ok
   ·
    rfl
   ·
    cases this
  go_wp2
  go_ret
  rw [show res = false from by rw [HR0.out, ht]; rfl]
  exact ⟨rfl, HB.out⟩
 | false =>
  have ht : ok = true := by
   have := HA.out
   cases ok
   ·
    cases this
   ·
    rfl
  have HQ0 := mk_ (show res = dotsOk (x.f8.drop 0) from by rw [HR0.out, ht]; rfl)
  clear HR0 HA ht HX
  have kb := aC BK.out
  go_wp2
  go_loopg [3] (x.f8.length + 1) (fun kq v3 W' => ∃ (i : Nat) (z : Int), v3 = .int .i64 z ∧ Aside0 (z = (i : Int) ∧ kq + i = x.f8.length + 1 ∧ i ≤ x.f8.length) ∧ Aside0 (res = dotsOk (x.f8.drop i)) ∧ Aside0 (W'.heap[gb]? = some (.cells #[.int .i64 x.f0.f0, .int .i64 x.f0.f1, .slice A2 x.f1.length c2, .int .i64 x.f2.f0, .int .i64 x.f2.f1, .int .i64 x.f2.f2, .int .i64 x.f3, .int .i64 x.f4, .string x.f5, .int .i64 x.f6, .slice A10 x.f7.length c10, .slice A11 x.f8.length c11] 54 (0, 0))) ∧ Aside0 (Below w.heap.size w W'))
  case atStart => exact ⟨0, 0, rfl, ⟨by omega⟩, ⟨HQ0.out⟩, ⟨BK.out⟩, ⟨HB.out⟩⟩
  case round =>
   clear HQ0 BK HB kb
   obtain ⟨i, z, rfl, HK, HQ, BK, HB⟩ := hrel
   have hz := HK.out.1
   obtain ⟨kk, rfl⟩ : ∃ kk, gk = kk + 1 := ⟨gk - 1, by have := HK.out; omega⟩
   have kb := aC BK.out
   by_cases hi : z < (x.f8.length : Int)
   rotate_left
   ·
    have hi0 : decide (z < (x.f8.length : Int)) = false := decide_eq_false hi
    have hr : res = true := by rw [HQ.out, List.drop_eq_nil_of_le (show x.f8.length ≤ i by omega)]; rfl
    clear hi HQ hz
    go_wp2
    go_ret
    rw [hr]
    exact ⟨rfl, HB.out⟩
   have hst := dots_step (l := x.f8) (i := i) z2_
   rw [← hz] at hst
   obtain ⟨ad, hea, hv0, hv1⟩ := gQ HR11.out z z2_ hi
   subst hea
   replace hv0 := up_ HB hv0
   replace hv1 := up_ HB hv1
   have p0 : (0 ≤ z) = True := eq_true z2_
   have p1 : decide (0 ≤ z) = true := decide_eq_true z2_
   have q0 := eq_true hi
   have q1 : decide (z < (x.f8.length : Int)) = true := decide_eq_true hi
   have HI := mk_ hi
   obtain ⟨b9, e9⟩ : ∃ b, decide (dotFit (cL x.f8 z)) = b := ⟨_, rfl⟩
   have HF := mk_ (show cI.f (cL x.f8 z).f0 (cL x.f8 z).f1 = some b9 by rw [dotFit_eq, e9])
   rw [e9] at hst
   have HST := mk_ hst
   clear hst e9 hi hz
   cases b9
   ·
    go_wp2_with (((with_reducible refine aT (f := 54) rfl ?_); refine Go.Proofs.Ytcbfliajgopdaaa.Short.gL (some 68) Try.func54 #[.agg #[.int .i64 (cL x.f8 z).f0, .int .i64 (cL x.f8 z).f1]] (h := ?_); refine (cI.calls _ _ _ _ HF.out).mono ?_; rintro e V0 ⟨rfl, hq⟩; refine ⟨_, rfl, ?_⟩; have n0_ := mk_ (dB BK.out hq); have n1_ := mk_ (aI HB.out hq); clear BK HB hq; revert n0_ n1_; intro BK HB; have kb := aC BK.out))
    go_ret
    rw [show res = false from by rw [HQ.out, HST.out]; rfl]
    exact ⟨rfl, HB.out⟩
   go_wp2_with (((with_reducible refine aT (f := 54) rfl ?_); refine Go.Proofs.Ytcbfliajgopdaaa.Short.gL (some 68) Try.func54 #[.agg #[.int .i64 (cL x.f8 z).f0, .int .i64 (cL x.f8 z).f1]] (h := ?_); refine (cI.calls _ _ _ _ HF.out).mono ?_; rintro e V0 ⟨rfl, hq⟩; refine ⟨_, rfl, ?_⟩; have n0_ := mk_ (dB BK.out hq); have n1_ := mk_ (aI HB.out hq); clear BK HB hq; revert n0_ n1_; intro BK HB; have kb := aC BK.out))
   go_roundg kk
   case measure => exact Nat.lt_succ_self _
   case rel => exact ⟨i + 1, _, rfl, ⟨by have := HK.out; have := HI.out; have := HN.out.2.2; rw [w64 z2_ z2_]; omega⟩, ⟨by rw [HQ.out, HST.out]; rfl⟩, ⟨BK.out⟩, ⟨HB.out⟩⟩
end Go.Proofs.Ytcbfliajgopdaaa.Ops
namespace Go.Proofs.Ytcbfliajgopdaaa.PAll
open Go.RowKit PAll Ops Plain PrintWords PrintLast PrintMore ZipT PrintWords.Kd PrintMore.Kd
def dK.f (a0_0 : Int) (a0_1 : Int) (l0_2 : List Int) (a0_3 : Int) (a0_4 : Int) (a0_5 : Int) (a0_6 : Int) (a0_7 : Int) (a0_8 : ByteArray) (a0_9 : Int) (l0_10 : List V) (l0_11 : List Dt) : Option Bool := if opSmall (⟨⟨a0_0, a0_1⟩, l0_2, ⟨a0_3, a0_4, a0_5⟩, a0_6, a0_7, a0_8, a0_9, l0_10, l0_11⟩ : Ox) then some (decide (opFit (⟨⟨a0_0, a0_1⟩, l0_2, ⟨a0_3, a0_4, a0_5⟩, a0_6, a0_7, a0_8, a0_9, l0_10, l0_11⟩ : Ox))) else none
theorem dK.calls (a0_0 : Int) (a0_1 : Int) (A0_2 : Option Addr) (c0_2 : Nat) (l0_2 : List Int) (a0_3 : Int) (a0_4 : Int) (a0_5 : Int) (a0_6 : Int) (a0_7 : Int) (a0_8 : ByteArray) (a0_9 : Int) (A0_10 : Option Addr) (c0_10 : Nat) (l0_10 : List V) (A0_11 : Option Addr) (c0_11 : Nat) (l0_11 : List Dt) (r : Bool) (w : World) (hr0_2 : Kd.C (Kd.int .i64) w A0_2 l0_2.length l0_2) (hc0_2 : l0_2.length ≤ c0_2) (hr0_10 : Kd.C k89 w A0_10 l0_10.length l0_10) (hc0_10 : l0_10.length ≤ c0_10) (hr0_11 : Kd.C k50 w A0_11 l0_11.length l0_11) (hc0_11 : l0_11.length ≤ c0_11) (h : dK.f a0_0 a0_1 l0_2 a0_3 a0_4 a0_5 a0_6 a0_7 a0_8 a0_9 l0_10 l0_11 = some r) :
  Calls Try.prog 16 #[.agg #[.int .i64 a0_0, .int .i64 a0_1, .slice A0_2 l0_2.length c0_2, .int .i64 a0_3, .int .i64 a0_4, .int .i64 a0_5, .int .i64 a0_6, .int .i64 a0_7, .string a0_8, .int .i64 a0_9, .slice A0_10 l0_10.length c0_10, .slice A0_11 l0_11.length c0_11]] w fun e w' => e = .returned (.bool r) ∧ Below w.heap.size w w' := by
 unfold dK.f at h
 split at h
 ·
  rename_i hs
  obtain rfl := Option.some.inj h
  exact fits_calls (⟨⟨a0_0, a0_1⟩, l0_2, ⟨a0_3, a0_4, a0_5⟩, a0_6, a0_7, a0_8, a0_9, l0_10, l0_11⟩ : Ox) A0_2 c0_2 A0_10 c0_10 A0_11 c0_11 w hr0_2 hc0_2 hr0_10 hc0_10 hr0_11 hc0_11 hs
 ·
  cases h
end Go.Proofs.Ytcbfliajgopdaaa.PAll
namespace Go.Proofs.Ytcbfliajgopdaaa.Ops
open Go.RowKit PAll Plain ZipT PrintWords.Kd PrintMore.Kd
theorem opFits_eq (x : Ox) (hx : opSmall x) : dK.f x.f0.f0 x.f0.f1 x.f1 x.f2.f0 x.f2.f1 x.f2.f2 x.f3 x.f4 x.f5 x.f6 x.f7 x.f8 = some (decide (opFit x)) := by
 unfold dK.f
 exact if_pos hx
end Go.Proofs.Ytcbfliajgopdaaa.Ops
end
