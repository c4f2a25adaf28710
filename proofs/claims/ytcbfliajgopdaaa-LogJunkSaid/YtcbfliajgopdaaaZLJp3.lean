-- Put together by a program of this session (wip/slice2.py) out of the seat's texts.
import Derived.Test.YtcbfliajgopdaaaZLJp2

section
namespace Go.Proofs.Ytcbfliajgopdaaa.Plain
open Go.RowKit Go.Proofs.Ytcbfliajgopdaaa.PAll Go.Proofs.YtcbfliajgopdaaaW.PrintWords Go.Proofs.YtcbfliajgopdaaaW.PrintLast Go.Proofs.YtcbfliajgopdaaaW.PrintMore Go.Proofs.Ytcbfliajgopdaaa.ZipT Go.Proofs.YtcbfliajgopdaaaW.PrintWords.Kd Go.Proofs.YtcbfliajgopdaaaW.PrintMore.Kd
set_option linter.unusedVariables false
set_option linter.unusedSimpArgs false
theorem pow256 (s : Nat) : (2 : Int) ^ (8 * s) = 256 ^ s := by rw [Int.pow_mul]; rfl
theorem pow256_le {s : Nat} (h : s ≤ 7) : (256 : Int) ^ s ≤ 72057594037927936 := by
 have : s = 0 ∨ s = 1 ∨ s = 2 ∨ s = 3 ∨ s = 4 ∨ s = 5 ∨ s = 6 ∨ s = 7 := by omega
 rcases this with rfl | rfl | rfl | rfl | rfl | rfl | rfl | rfl <;> decide
theorem shr_bytes (n : Int) (i : Nat) (hi : i ≤ 8) : shr .i64 n (8 * i) = n / 256 ^ i := by
 unfold shr
 have h1 : (8 * (i : Int)).toNat = 8 * i := by omega
 rw [h1, Nat.min_eq_left (by simp [IntKind.bits]; omega), pow256]
theorem shl_bytes (i : Nat) (hi : i ≤ 7) : shl .i64 1 (8 * i) = 256 ^ i := by
 unfold shl
 have h1 : (8 * (i : Int)).toNat = 8 * i := by omega
 have h2 := pow256_le hi
 have h3 := pow_pos i
 rw [h1, Nat.min_eq_left (by simp [IntKind.bits]; omega), pow256, wi64, Int.one_mul, w64 z2_ z2_]
theorem clone_eq (l : List Int) (hl : l.length ≤ 1000000) : slices_Clone_byte_byte.f l = some l := by
 unfold slices_Clone_byte_byte.f
 simp only [Option.bind_some, List.length_nil, List.nil_append]
 rw [if_pos z2_]
theorem big_l0 (n : Int) (i : Nat) : ∀ (k : Nat) (out : List Int), i ≤ 8 → out.length + i ≤ 1000000 → i < k → wire_big.l0 k n out ((i : Int) - 1) = some (out ++ big n i) := by
 induction i with
 | zero =>
  intro k out _ _ hk
  obtain ⟨k, rfl⟩ : ∃ m, k = m + 1 := ⟨k - 1, by omega⟩
  simp only [wire_big.l0]
  rw [if_neg z2_]
  simp [big]
 | succ i ih =>
  intro k out hi ho hk
  obtain ⟨k, rfl⟩ : ∃ m, k = m + 1 := ⟨k - 1, by omega⟩
  simp only [wire_big.l0]
  have e : (((i + 1 : Nat) : Int) - 1) = (i : Int) := by omega
  rw [e, if_pos z2_, w64 z2_ z2_, if_pos z2_, if_pos z2_, shr_bytes n i z2_, w64 z2_ z2_, ih k _ z2_ (by simp; omega) z2_]
  simp [big]
theorem big_eq (k : Nat) (l : List Int) (n size : Int) (h0 : 0 ≤ size) (h1 : size ≤ 8) (hl : l.length ≤ 900000) (hk : 10 ≤ k) : wire_big.f k l n size = some (l ++ big n size.toNat) := by
 obtain ⟨s, rfl⟩ := Int.eq_ofNat_of_zero_le h0
 unfold wire_big.f
 rw [clone_eq l z2_, Option.bind_some, w64 z2_ z2_, Int.toNat_natCast]
 exact big_l0 n s k l z2_ z2_ z2_
def sPut (l : List Int) (n size : Int) : List Int × Int := if 1 ≤ size ∧ size ≤ 7 ∧ 0 ≤ n ∧ n < 256 ^ size.toNat then (l ++ big n size.toNat, 0) else ([], 1)
theorem put_eq (k : Nat) (l : List Int) (n size : Int) (hl : l.length ≤ 900000) (hk : 10 ≤ k) : wire_Put.f k l n size = some (sPut l n size) := by
 unfold wire_Put.f sPut
 by_cases h1 : size < 1
 ·
  rw [if_pos h1, if_neg z2_]
 ·
  rw [if_neg h1]
  by_cases h2 : size > 7
  ·
   rw [if_pos h2, if_neg z2_]
  ·
   rw [if_neg h2]
   by_cases h3 : n < 0
   ·
    rw [if_pos h3, if_neg z2_]
   ·
    obtain ⟨s, rfl⟩ := Int.eq_ofNat_of_zero_le (show 0 ≤ size by omega)
    rw [if_neg h3, w64 z2_ z2_, if_pos z2_, shl_bytes s z2_, Int.toNat_natCast]
    by_cases h4 : n ≥ 256 ^ s
    ·
     rw [if_pos h4, if_neg z2_]
    ·
     rw [if_neg h4, big_eq k l n s z2_ z2_ hl hk, Option.bind_some, Int.toNat_natCast, if_pos z2_]
def intB (n : Int) : List Int := if n < 0 then 1 :: big (-n) 8 else 0 :: big n 8
def sPutInt (l : List Int) (n : Int) : List Int × Int := if -1152921504606846976 ≤ n ∧ n ≤ 1152921504606846976 then (l ++ intB n, 0) else ([], 1)
theorem putInt_eq (k : Nat) (l : List Int) (n : Int) (hl : l.length ≤ 800000) (hk : 20 ≤ k) : wire_PutInt.f k l n = some (sPutInt l n) := by
 obtain ⟨k, rfl⟩ : ∃ m, k = m + 1 := ⟨k - 1, by omega⟩
 unfold wire_PutInt.f sPutInt
 by_cases h1 : n < -1152921504606846976
 ·
  rw [if_pos h1, if_neg z2_]
  simp [wire_PutInt.j0]
 ·
  rw [if_neg h1]
  by_cases h2 : n > 1152921504606846976
  ·
   rw [if_neg z2_]
   simp [wire_PutInt.j0, h2]
  ·
   rw [if_pos z2_]
   simp only [wire_PutInt.j0, h2, decide_false]
   rw [if_neg (by simp)]
   unfold intB
   by_cases h3 : n < 0
   ·
    rw [if_pos h3, if_pos h3, clone_eq l z2_, Option.bind_some, if_pos z2_, w64 z2_ z2_, big_eq k _ _ 8 z2_ z2_ (by simp; omega) z2_]
    simp
   ·
    rw [if_neg h3, if_neg h3, clone_eq l z2_, Option.bind_some, if_pos z2_, big_eq k _ _ 8 z2_ z2_ (by simp; omega) z2_]
    simp
def sPutText (l : List Int) (s : ByteArray) : List Int × Int := if s.size ≤ 24 then (l ++ (s.size : Int) :: bytesOf s, 0) else ([], 2)
theorem putText_eq (l : List Int) (s : ByteArray) (hl : l.length ≤ 800000) : wire_PutText.f l s = some (sPutText l s) := by
 unfold wire_PutText.f sPutText
 by_cases h1 : (s.size : Int) > 24
 ·
  rw [if_pos h1, if_neg z2_]
 ·
  rw [if_neg h1, if_pos z2_, clone_eq l z2_, Option.bind_some, if_pos z2_]
  simp only [Option.bind_some]
  rw [if_pos (by simp; omega), show ((s.size : Int) % 256) = s.size from by omega]
  simp
theorem val_nonneg (l : List Int) : ∀ a : Int, 0 ≤ a → Bytes l → 0 ≤ val a l := by
 induction l with
 | nil => intro a h _; exact h
 | cons b l ih =>
  intro a h hb
  have := hb.head
  exact ih _ (by unfold Byte at this; omega) hb.tail
theorem val_lt (l : List Int) : ∀ a : Int, 0 ≤ a → Bytes l → val a l < (a + 1) * 256 ^ l.length := by
 induction l with
 | nil => intro a h _; simp [val]; omega
 | cons b l ih =>
  intro a h hb
  have h1 := hb.head
  unfold Byte at h1
  have h2 := ih (a * 256 + b) z2_ hb.tail
  have h3 := pow_pos l.length
  rw [val]
  refine Int.lt_of_lt_of_le h2 ?_
  rw [List.length_cons, Int.pow_succ, Int.mul_comm ((256 : Int) ^ l.length), ← Int.mul_assoc]
  exact Int.mul_le_mul_of_nonneg_right z2_ z2_
theorem or_u64 (a b : Int) (h0 : 0 ≤ a) (h1 : a * 256 < 18446744073709551616) (hb : Byte b) : Go.bits .or .u64 (IntKind.u64.wrap (a * 256)) (IntKind.u64.wrap b) = a * 256 + b := by
 unfold Byte at hb
 rw [wu64 z2_ h1, wu64 z2_ z2_]
 exact bits_join .u64 64 z5_ (fun n h h' => wu64 h z2_) 8 _ _ z2_ z2_ z2_ z2_ z2_ z2_
theorem rd_drop {l : List Int} {i : Nat} {b : Int} {m : List Int} (h : l.drop i = b :: m) : rd l i = b := by
 have hi : i < l.length := by
  rcases Nat.lt_or_ge i l.length with h1 | h1
  ·
   exact h1
  ·
   rw [List.drop_eq_nil_of_le h1] at h; cases h
 show l.getD (i : Int).toNat 0 = b
 rw [List.getD_eq_getElem?_getD, Int.toNat_natCast, List.getElem?_eq_getElem hi]
 have := List.drop_eq_getElem_cons hi
 rw [this] at h
 injection h
theorem drop_tail {l : List Int} {i : Nat} {b : Int} {m : List Int} (h : l.drop i = b :: m) : l.drop (i + 1) = m := by
 have := congrArg List.tail h
 rwa [List.tail_drop] at this
theorem drop_lt {l : List Int} {i : Nat} {b : Int} {m : List Int} (h : l.drop i = b :: m) : i < l.length := by
 rcases Nat.lt_or_ge i l.length with h1 | h1
 ·
  exact h1
 ·
  rw [List.drop_eq_nil_of_le h1] at h; cases h
theorem drop_end {l : List Int} {i : Nat} (h : l.drop i = []) : l.length ≤ i := by
 rcases Nat.lt_or_ge i l.length with h1 | h1
 ·
  have := List.drop_eq_getElem_cons h1; rw [this] at h; cases h
 ·
  exact h1
theorem num_l0 (l : List Int) (hb : Bytes l) (m : List Int) : ∀ (k i : Nat) (a : Int), l.drop i = m → 0 ≤ a → (a + 1) * 256 ^ m.length ≤ 18446744073709551616 → i + m.length ≤ 1000 → m.length < k →
  wire_num.l0 k a l (l.length : Int) i = some (val a m) := by
 induction m with
 | nil =>
  intro k i a h h0 h1 hi hk
  obtain ⟨k, rfl⟩ : ∃ m, k = m + 1 := ⟨k - 1, by omega⟩
  have := drop_end h
  simp only [wire_num.l0]
  rw [if_neg z2_]
  rfl
 | cons b m ih =>
  intro k i a h h0 h1 hi hk
  obtain ⟨k, rfl⟩ : ∃ m, k = m + 1 := ⟨k - 1, by omega⟩
  have hlt := drop_lt h
  have hbb : Byte b := by have := hb.rd i; rw [rd_drop h] at this; exact this
  have hbb' := hbb
  unfold Byte at hbb'
  simp only [List.length_cons] at hi hk h1
  have hp := pow_pos m.length
  have h2 : (a * 256 + b + 1) * 256 ^ m.length ≤ 18446744073709551616 := by
   refine Int.le_trans ?_ h1
   rw [Int.pow_succ, Int.mul_comm ((256 : Int) ^ m.length), ← Int.mul_assoc]
   exact Int.mul_le_mul_of_nonneg_right z2_ z2_
  have h3 : (a * 256 + b + 1) * 1 ≤ (a * 256 + b + 1) * 256 ^ m.length := Int.mul_le_mul_of_nonneg_left z2_ z2_
  simp only [wire_num.l0]
  rw [if_pos z2_, if_pos z2_, if_pos z2_, rd_drop h, or_u64 a b h0 z2_ hbb, w64 z2_ z2_]
  exact ih k (i + 1) _ (drop_tail h) z2_ h2 z2_ z2_
theorem num_eq (k : Nat) (l : List Int) (hb : Bytes l) (hl : l.length ≤ 8) (hk : 10 ≤ k) : wire_num.f k l = some (val 0 l) := by
 unfold wire_num.f
 refine num_l0 l hb l k 0 0 rfl z2_ ?_ z2_ z2_
 have : l.length = 8 ∨ l.length ≤ 7 := by omega
 rcases this with h | h
 ·
  rw [h]; decide
 ·
  have := pow256_le h; omega
def sub (l : List Int) (a b : Nat) : List Int := (l.take b).drop a
theorem sub_length {l : List Int} {a b : Nat} (h : b ≤ l.length) : (sub l a b).length = b - a := by simp [sub]; omega
theorem sub_bytes {l : List Int} (h : Bytes l) (a b : Nat) : Bytes (sub l a b) := (h.take b).drop a
def sGet (l : List Int) (at_ size : Int) : Int × Int × Int :=
 if 1 ≤ size ∧ size ≤ 7 ∧ 0 ≤ at_ ∧ at_ ≤ l.length then (if l.length - at_ < size then (0, 0, 3) else (val 0 (sub l at_.toNat (at_ + size).toNat), at_ + size, 0)) else (0, 0, 1)
theorem val7 {l : List Int} (hb : Bytes l) (h : l.length ≤ 7) : 0 ≤ val 0 l ∧ val 0 l < 72057594037927936 := by
 have h1 := val_lt l 0 z2_ hb
 have h2 := pow256_le h
 exact ⟨val_nonneg l 0 z2_ hb, by omega⟩
theorem get_eq (k : Nat) (l : List Int) (at_ size : Int) (hb : Bytes l) (hl : l.length ≤ 1000000) (ha : at_ ≤ 9223372036854775807) (hk : 20 ≤ k) : wire_Get.f k l at_ size = some (sGet l at_ size) := by
 obtain ⟨k, rfl⟩ : ∃ m, k = m + 1 := ⟨k - 1, by omega⟩
 unfold wire_Get.f sGet
 by_cases h1 : size < 1
 ·
  rw [if_pos h1, if_neg z2_]; simp [wire_Get.j0]
 ·
  rw [if_neg h1]
  by_cases h2 : size > 7
  ·
   rw [if_pos h2, if_neg z2_]; simp [wire_Get.j0]
  ·
   rw [if_neg h2]
   by_cases h3 : at_ < 0
   ·
    rw [if_pos h3, if_neg z2_]; simp [wire_Get.j0]
   ·
    rw [if_neg h3]
    by_cases h4 : at_ > (l.length : Int)
    ·
     rw [if_neg z2_]; simp [wire_Get.j0, h4]
    ·
     rw [if_pos z2_]
     simp only [wire_Get.j0, h4, decide_false]
     rw [if_neg (by simp), w64 z2_ z2_]
     by_cases h5 : (l.length : Int) - at_ < size
     ·
      rw [if_pos h5, if_pos h5]
     ·
      have hs : (sub l at_.toNat (at_ + size).toNat).length ≤ 7 := by rw [sub_length z2_]; omega
      have hv := val7 (sub_bytes hb at_.toNat (at_ + size).toNat) hs
      rw [if_neg h5, if_neg h5, w64 z2_ z2_, if_pos z2_, if_pos z2_, if_pos z2_]
      have := num_eq k (sub l at_.toNat (at_ + size).toNat) (sub_bytes hb _ _) z2_ z2_
      unfold sub at this
      rw [this, Option.bind_some, ]
      unfold sub at hv
      rw [w64 z2_ z2_]
      rfl
def sGetInt (l : List Int) (at_ : Int) : Int × Int × Int :=
  if 0 ≤ at_ ∧ at_ ≤ l.length then
    (if l.length - at_ < 9 ∨ rd l at_ > 1 ∨ val 0 (sub l (at_ + 1).toNat (at_ + 9).toNat) > 1152921504606846976 ∨ (rd l at_ = 1 ∧ val 0 (sub l (at_ + 1).toNat (at_ + 9).toNat) = 0) then (0, 0, 3)
     else if rd l at_ = 1 then (-(val 0 (sub l (at_ + 1).toNat (at_ + 9).toNat)), at_ + 9, 0) else (val 0 (sub l (at_ + 1).toNat (at_ + 9).toNat), at_ + 9, 0))
  else (0, 0, 1)
theorem getInt_eq (k : Nat) (l : List Int) (at_ : Int) (hb : Bytes l) (hl : l.length ≤ 1000000) (ha : at_ ≤ 9223372036854775807) (hk : 20 ≤ k) : wire_GetInt.f k l at_ = some (sGetInt l at_) := by
 obtain ⟨k, rfl⟩ : ∃ m, k = m + 3 := ⟨k - 3, by omega⟩
 unfold wire_GetInt.f sGetInt
 by_cases h1 : at_ < 0
 ·
  rw [if_pos h1, if_neg z2_]; simp [wire_GetInt.j0]
 ·
  rw [if_neg h1]
  by_cases h2 : at_ > (l.length : Int)
  ·
   rw [if_neg z2_]; simp [wire_GetInt.j0, h2]
  ·
   rw [if_pos z2_]
   simp only [wire_GetInt.j0, h2, decide_false]
   rw [if_neg (by simp), w64 z2_ z2_]
   by_cases h3 : (l.length : Int) - at_ < 9
   ·
    rw [if_pos h3, if_pos (Or.inl h3)]; simp [wire_GetInt.j1]
   ·
    rw [if_neg h3, if_pos z2_, if_pos z2_]
    by_cases h4 : rd l at_ > 1
    ·
     rw [if_pos (Or.inr (Or.inl h4))]; simp [wire_GetInt.j1, h4]
    ·
     have hs : (sub l (at_ + 1).toNat (at_ + 9).toNat).length = 8 := by rw [sub_length z2_]; omega
     have hn := fun k' (hk' : 10 ≤ k') => num_eq k' (sub l (at_ + 1).toNat (at_ + 9).toNat) (sub_bytes hb _ _) z2_ hk'
     have hv := val_nonneg (sub l (at_ + 1).toNat (at_ + 9).toNat) 0 z2_ (sub_bytes hb _ _)
     have hr := hb.rd at_
     unfold Byte at hr
     simp only [wire_GetInt.j1, h4, decide_false]
     rw [if_neg (by simp), w64 z2_ z2_, w64 z2_ z2_, if_pos z2_, if_pos z2_, if_pos z2_]
     generalize hV : val 0 (sub l (at_ + 1).toNat (at_ + 9).toNat) = V at *
     unfold sub at hn
     rw [hn _ z2_, Option.bind_some]
     by_cases h5 : V > 1152921504606846976
     ·
      rw [if_pos h5, if_pos z2_]; simp [wire_GetInt.j2]
     ·
      rw [if_neg h5, if_pos z2_, if_pos z2_]
      by_cases h6 : rd l at_ = 1
      ·
       rw [if_pos h6]
       by_cases h7 : V = 0
       ·
        rw [if_pos z2_]; simp [wire_GetInt.j2, h7]
       ·
        have h7' : (V == 0) = false := by simpa using h7
        rw [if_neg (by simp; omega), if_pos h6]
        simp only [wire_GetInt.j2, h7']
        rw [if_neg (by simp), if_pos z2_, if_pos z2_, if_pos h6, w64 (x := V) z2_ z2_, w64 (x := -V) z2_ z2_, w64 (x := at_ + 9) z2_ z2_]
      ·
       rw [if_neg h6, if_neg (by simp; omega), if_neg h6]
       simp only [wire_GetInt.j2]
       rw [if_neg (by simp), if_pos z2_, if_pos z2_, if_neg h6, w64 (x := V) z2_ z2_, w64 (x := at_ + 9) z2_ z2_]
def sGetText (l : List Int) (at_ : Int) : ByteArray × Int × Int :=
  if 0 ≤ at_ ∧ at_ ≤ l.length then
    (if at_ = l.length ∨ rd l at_ > 24 ∨ l.length - at_ - 1 < rd l at_ then (⟨#[]⟩, 0, 3)
     else (strOfNums (sub l (at_ + 1).toNat (at_ + 1 + rd l at_).toNat), at_ + 1 + rd l at_, 0))
  else (⟨#[]⟩, 0, 1)
theorem getText_eq (k : Nat) (l : List Int) (at_ : Int) (hb : Bytes l) (hl : l.length ≤ 1000000) (ha : at_ ≤ 9223372036854775807) (hk : 20 ≤ k) : wire_GetText.f k l at_ = some (sGetText l at_) := by
 obtain ⟨k, rfl⟩ : ∃ m, k = m + 1 := ⟨k - 1, by omega⟩
 unfold wire_GetText.f sGetText
 by_cases h1 : at_ < 0
 ·
  rw [if_pos h1, if_neg z2_]; simp [wire_GetText.j0]
 ·
  rw [if_neg h1]
  by_cases h2 : at_ > (l.length : Int)
  ·
   rw [if_neg z2_]; simp [wire_GetText.j0, h2]
  ·
   rw [if_pos z2_]
   simp only [wire_GetText.j0, h2, decide_false]
   rw [if_neg (by simp)]
   by_cases h3 : at_ = (l.length : Int)
   ·
    rw [if_pos h3, if_pos (Or.inl h3)]
   ·
    have hr := hb.rd at_
    unfold Byte at hr
    rw [if_neg h3, if_pos z2_, if_pos z2_, w64 z2_ z2_]
    by_cases h4 : rd l at_ > 24
    ·
     rw [if_pos h4, if_pos (Or.inr (Or.inl h4))]
    ·
     rw [if_neg h4, w64 (x := (l.length : Int) - at_) z2_ z2_, w64 z2_ z2_]
     by_cases h5 : (l.length : Int) - at_ - 1 < rd l at_
     ·
      rw [if_pos h5, if_pos (Or.inr (Or.inr h5))]
     ·
      rw [if_neg h5, w64 (x := at_ + 1) z2_ z2_, w64 (x := at_ + 1 + rd l at_) z2_ z2_, if_pos z2_, if_pos z2_, if_pos z2_, if_neg z2_]
      rfl
end Go.Proofs.Ytcbfliajgopdaaa.Plain
end
section
namespace Go.Proofs.Ytcbfliajgopdaaa.Plain
open Go.RowKit Go.Proofs.Ytcbfliajgopdaaa.PAll Go.Proofs.YtcbfliajgopdaaaW.PrintWords Go.Proofs.YtcbfliajgopdaaaW.PrintLast Go.Proofs.YtcbfliajgopdaaaW.PrintMore Go.Proofs.Ytcbfliajgopdaaa.ZipT Go.Proofs.YtcbfliajgopdaaaW.PrintWords.Kd Go.Proofs.YtcbfliajgopdaaaW.PrintMore.Kd
set_option linter.unusedVariables false
set_option linter.unusedSimpArgs false
theorem strOfNums_bytesOf (s : ByteArray) : strOfNums (bytesOf s) = s := by
 unfold strOfNums bytesOf
 rw [List.map_map]
 have : (fun n : Int => UInt8.ofNat n.toNat) ∘ (fun b : UInt8 => (b.toNat : Int)) = id := by
  funext b; simp
 rw [this, List.map_id]
theorem bytesOf_bytes (s : ByteArray) : Bytes (bytesOf s) := by
 intro b hb
 unfold bytesOf at hb
 obtain ⟨c, _, rfl⟩ := List.mem_map.1 hb
 have := c.toNat_lt
 exact ⟨by omega, by omega⟩
theorem bytesOf_strOfNums {l : List Int} (h : Bytes l) : bytesOf (strOfNums l) = l := by
 unfold strOfNums bytesOf
 simp only [List.map_map]
 induction l with
 | nil => rfl
 | cons b l ih =>
  have hb := h.head
  unfold Byte at hb
  rw [List.map_cons, ih h.tail]
  congr 1
  simp
  omega
theorem strOfNums_size (l : List Int) : (strOfNums l).size = l.length := by
 unfold strOfNums; simp [ByteArray.size]
theorem intB_length (n : Int) : (intB n).length = 9 := by unfold intB; split <;> simp [big_length]
theorem intB_bytes (n : Int) : Bytes (intB n) := by
 unfold intB
 split
 ·
  exact Bytes.cons ⟨by decide, by decide⟩ (big_bytes _ _)
 ·
  exact Bytes.cons ⟨by decide, by decide⟩ (big_bytes _ _)
theorem sub_mid (a b c : List Int) {i j : Nat} (hi : i = a.length) (hj : j = a.length + b.length) : sub (a ++ b ++ c) i j = b := by
 subst hi hj
 unfold sub
 rw [List.take_append_of_le_length (by simp), ← List.length_append, List.take_length, List.drop_left]
theorem rd_mid (a : List Int) (b : Int) (c : List Int) {i : Int} (hi : i = a.length) : rd (a ++ b :: c) i = b := by
 subst hi
 exact rd_drop (m := c) (by rw [List.drop_left])
theorem pow8 : (256 : Int) ^ 8 = 18446744073709551616 := by decide
theorem val_big8 {n : Int} (h0 : 0 ≤ n) (h1 : n < 18446744073709551616) : val 0 (big n 8) = n := by
 rw [val_big, pow8]; omega
theorem getInt_put (a c : List Int) (n : Int) (h0 : -1152921504606846976 ≤ n) (h1 : n ≤ 1152921504606846976) :
  sGetInt (a ++ intB n ++ c) a.length = (n, (a.length : Int) + 9, 0) := by
 unfold sGetInt
 have hl : (a ++ intB n ++ c).length = a.length + 9 + c.length := by simp [intB_length]; omega
 rw [if_pos z2_]
 by_cases h : n < 0
 ·
  have e : a ++ intB n ++ c = a ++ 1 :: (big (-n) 8 ++ c) := by unfold intB; rw [if_pos h]; simp
  have e2 : a ++ intB n ++ c = (a ++ [1]) ++ big (-n) 8 ++ c := by unfold intB; rw [if_pos h]; simp
  have hs : sub (a ++ intB n ++ c) ((a.length : Int) + 1).toNat ((a.length : Int) + 9).toNat = big (-n) 8 := by
   rw [e2]; exact sub_mid _ _ _ (by simp <;> omega) (by simp [big_length] <;> omega)
  have hr : rd (a ++ intB n ++ c) (a.length : Int) = 1 := by rw [e]; exact rd_mid _ _ _ rfl
  rw [hs, val_big8 z2_ z2_, hr, if_neg z2_, if_pos rfl]
  simp
 ·
  have e : a ++ intB n ++ c = a ++ 0 :: (big n 8 ++ c) := by unfold intB; rw [if_neg h]; simp
  have e2 : a ++ intB n ++ c = (a ++ [0]) ++ big n 8 ++ c := by unfold intB; rw [if_neg h]; simp
  have hs : sub (a ++ intB n ++ c) ((a.length : Int) + 1).toNat ((a.length : Int) + 9).toNat = big n 8 := by
   rw [e2]; exact sub_mid _ _ _ (by simp <;> omega) (by simp [big_length] <;> omega)
  have hr : rd (a ++ intB n ++ c) (a.length : Int) = 0 := by rw [e]; exact rd_mid _ _ _ rfl
  rw [hs, val_big8 z2_ z2_, hr, if_neg z2_, if_neg z5_]
theorem get_put (a c : List Int) (n : Int) (s : Nat) (hs0 : 1 ≤ s) (hs : s ≤ 7) (h0 : 0 ≤ n) (h1 : n < 256 ^ s) :
  sGet (a ++ big n s ++ c) a.length s = (n, (a.length : Int) + s, 0) := by
 unfold sGet
 have hl : (a ++ big n s ++ c).length = a.length + s + c.length := by simp [big_length]; omega
 rw [if_pos z2_, if_neg z2_, sub_mid _ _ _ z2_ (by simp [big_length]; omega), val_big]
 simp
 exact Int.emod_eq_of_lt h0 h1
theorem getText_put (a c : List Int) (s : ByteArray) (h : s.size ≤ 24) :
  sGetText (a ++ (s.size : Int) :: bytesOf s ++ c) a.length = (s, (a.length : Int) + 1 + s.size, 0) := by
 unfold sGetText
 have hl : (a ++ (s.size : Int) :: bytesOf s ++ c).length = a.length + 1 + s.size + c.length := by simp [bytesOf_length]; omega
 have e : a ++ (s.size : Int) :: bytesOf s ++ c = a ++ (s.size : Int) :: (bytesOf s ++ c) := by simp
 have e2 : a ++ (s.size : Int) :: bytesOf s ++ c = (a ++ [(s.size : Int)]) ++ bytesOf s ++ c := by simp
 have hr : rd (a ++ (s.size : Int) :: bytesOf s ++ c) (a.length : Int) = s.size := by rw [e]; exact rd_mid _ _ _ rfl
 have hs : sub (a ++ (s.size : Int) :: bytesOf s ++ c) ((a.length : Int) + 1).toNat ((a.length : Int) + 1 + s.size).toNat = bytesOf s := by
  rw [e2]; exact sub_mid _ _ _ (by simp <;> omega) (by simp [bytesOf_length] <;> omega)
 rw [if_pos z2_, hr, if_neg z2_, hs, strOfNums_bytesOf]
end Go.Proofs.Ytcbfliajgopdaaa.Plain
end
