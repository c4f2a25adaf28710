/-
  wire: what the statements' helpers and the reference's functions come to.
-/
import Derived.Test.YteicflbjhcddoaaWireMore
import Derived.Laws.Strings
import Derived.Test.YteicflbjhcddoaaPAllx5
import Derived.Test.YteicflbjhcddoaaPAllx8
namespace Go.Proofs.Yteicflbjhcddoaa.Plain
open Go.RowKit Go.Proofs.Yteicflbjhcddoaa.PAll Go.Proofs.YteicflbjhcddoaaW.PrintWords Go.Proofs.YteicflbjhcddoaaW.PrintLast Go.Proofs.YteicflbjhcddoaaW.PrintMore
set_option linter.unusedVariables false
set_option linter.unusedSimpArgs false

/-! ### raddlekeep.Bytes, Twin, SpoilBytes -/
theorem same_l0 (a b : List Int) (hl : a.length = b.length) (m : List Int) : ∀ (k i : Nat), a.drop i = m → i + m.length ≤ 1000000 → m.length < k →
    raddlekeep_Bytes.l0 k a b i = some (decide (m = b.drop i)) := by
  induction m with
  | nil =>
    intro k i h hi hk
    obtain ⟨k, rfl⟩ : ∃ m, k = m + 1 := ⟨k - 1, by omega⟩
    have := drop_end h
    simp only [raddlekeep_Bytes.l0]
    rw [if_neg (by omega), List.drop_eq_nil_of_le (by omega)]
    simp
  | cons x m ih =>
    intro k i h hi hk
    obtain ⟨k, rfl⟩ : ∃ m, k = m + 1 := ⟨k - 1, by omega⟩
    have hlt := drop_lt h
    have hltb : i < b.length := by omega
    simp only [List.length_cons] at hi hk
    have hb : b.drop i = b[i] :: b.drop (i + 1) := List.drop_eq_getElem_cons hltb
    simp only [raddlekeep_Bytes.l0]
    rw [if_pos (by omega), if_pos (by omega), if_pos (by omega), rd_drop h, rd_drop hb, hb]
    by_cases e : x = b[i]
    · rw [if_pos e, w64 (by omega) (by omega)]
      have := ih k (i + 1) (drop_tail h) (by omega) (by omega)
      rw [show ((i : Int) + 1) = ((i + 1 : Nat) : Int) from rfl, this, e]
      simp only [List.cons.injEq, true_and]
    · rw [if_neg e]
      simp only [List.cons.injEq, e, false_and, decide_false]
theorem same_eq (k : Nat) (a b : List Int) (ha : a.length ≤ 900000) (hk : a.length + 2 ≤ k) : raddlekeep_Bytes.f k a b = some (decide (a = b)) := by
  unfold raddlekeep_Bytes.f
  by_cases hl : a.length = b.length
  · rw [if_pos (by omega)]
    have := same_l0 a b hl a k 0 rfl (by omega) (by omega)
    simpa using this
  · rw [if_neg (by omega)]
    have : a ≠ b := fun e => hl (by rw [e])
    simp [this]
theorem twin_eq (l : List Int) (hl : l.length ≤ 1000000) : raddlekeep_Twin.f l = some l := by
  unfold raddlekeep_Twin.f
  simp only [List.length_nil, List.nil_append]
  rw [if_pos (by omega)]

theorem val_ge (l : List Int) : ∀ a : Int, 0 ≤ a → Bytes l → a * 256 ^ l.length ≤ val a l := by
  induction l with
  | nil => intro a h _; simp [val]
  | cons b l ih =>
    intro a h hb
    have h1 := hb.head
    unfold Byte at h1
    have h2 := ih (a * 256 + b) (by omega) hb.tail
    have h3 := pow_pos l.length
    rw [val]
    refine Int.le_trans ?_ h2
    rw [List.length_cons, Int.pow_succ, Int.mul_comm ((256 : Int) ^ l.length), ← Int.mul_assoc]
    exact Int.mul_le_mul_of_nonneg_right (by omega) (by omega)

/-! ### order -/
theorem toList_data (b : ByteArray) : b.toList = b.data.toList := Go.ByteArray.toList_eq b
theorem bytes_u8 (l : List Int) : (strOfNums l).toList = l.map fun n => UInt8.ofNat n.toNat := by
  rw [toList_data]; unfold strOfNums; simp
theorem ofNat_lt {a b : Int} (ha : Byte a) (hb : Byte b) : (UInt8.ofNat a.toNat < UInt8.ofNat b.toNat) ↔ a < b := by
  unfold Byte at ha hb
  rw [UInt8.lt_iff_toNat_lt]
  simp
  omega
theorem ofNat_eq {a b : Int} (ha : Byte a) (hb : Byte b) : (UInt8.ofNat a.toNat = UInt8.ofNat b.toNat) ↔ a = b := by
  unfold Byte at ha hb
  rw [← UInt8.toNat_inj]
  simp
  omega
/-- Of as many bytes: the order of bytes is that of the numbers. -/
theorem less_val (l : List Int) : ∀ (m : List Int) (a : Int), l.length = m.length → Bytes l → Bytes m → 0 ≤ a →
    (Op.bytesLess (l.map fun n => UInt8.ofNat n.toNat) (m.map fun n => UInt8.ofNat n.toNat) = true ↔ val a l < val a m) := by
  induction l with
  | nil =>
    intro m a h _ _ _
    cases m with
    | nil => simp [Op.bytesLess]
    | cons _ _ => simp at h
  | cons x l ih =>
    intro m a h hl hm ha
    cases m with
    | nil => simp at h
    | cons y m =>
      have hx := hl.head
      have hy := hm.head
      have e1 := ofNat_lt hx hy
      have e2 := ofNat_eq hx hy
      unfold Byte at hx hy
      have hlen : l.length = m.length := by simpa using h
      have hp := pow_pos m.length
      have i1 := ih m (a * 256 + x) hlen hl.tail hm.tail (by omega)
      have v1 := val_lt l (a * 256 + x) (by omega) hl.tail
      have v2 := val_ge m (a * 256 + y) (by omega) hm.tail
      have v3 := val_lt m (a * 256 + y) (by omega) hm.tail
      have v4 := val_ge l (a * 256 + x) (by omega) hl.tail
      rw [hlen] at v1 v4
      simp only [List.map_cons, Op.bytesLess, Bool.or_eq_true, Bool.and_eq_true, decide_eq_true_eq, beq_iff_eq, val, e1, e2]
      rcases Int.lt_trichotomy x y with hlt | heq | hgt
      · have h3 : (a * 256 + x + 1) * 256 ^ m.length ≤ (a * 256 + y) * 256 ^ m.length := Int.mul_le_mul_of_nonneg_right (by omega) (by omega)
        exact ⟨fun _ => by omega, fun _ => .inl hlt⟩
      · subst heq
        rw [← i1]
        constructor
        · rintro (h | h)
          · omega
          · exact h.2
        · exact fun h => .inr ⟨rfl, h⟩
      · have h3 : (a * 256 + y + 1) * 256 ^ m.length ≤ (a * 256 + x) * 256 ^ m.length := Int.mul_le_mul_of_nonneg_right (by omega) (by omega)
        constructor
        · rintro (h | h)
          · omega
          · omega
        · intro h; omega
theorem big_inj {m n : Int} {s : Nat} (h0 : 0 ≤ m) (h1 : m < 256 ^ s) (h2 : 0 ≤ n) (h3 : n < 256 ^ s) : big m s = big n s ↔ m = n := by
  constructor
  · intro h
    have := congrArg (val 0) h
    rw [val_big, val_big, Int.emod_eq_of_lt h0 h1, Int.emod_eq_of_lt h2 h3] at this
    omega
  · rintro rfl; rfl
theorem intB_inj {m n : Int} (h0 : -1152921504606846976 ≤ m) (h1 : m ≤ 1152921504606846976) (h2 : -1152921504606846976 ≤ n) (h3 : n ≤ 1152921504606846976) : intB m = intB n ↔ m = n := by
  have hp := pow8
  constructor
  · intro h
    unfold intB at h
    split at h <;> split at h
    · injection h with _ h; have := (big_inj (s := 8) (by omega) (by omega) (by omega) (by omega)).1 h; omega
    · injection h with h _; omega
    · injection h with h _; omega
    · injection h with _ h; exact (big_inj (s := 8) (by omega) (by omega) (by omega) (by omega)).1 h
  · rintro rfl; rfl

/-! ### a size from whatever number, a mask -/
theorem size7 (n : Int) (hn : -9223372036854775808 ≤ n ∧ n ≤ 9223372036854775807) : ∃ s : Nat, 1 ≤ s ∧ s ≤ 7 ∧ wrap64 (1 + wrap64 (Int.tmod (IntKind.u64.wrap n) 7)) = s := by
  rw [u64_mod, Int.tmod_eq_emod_of_nonneg (by omega), w64 (x := _ % 7) (by omega) (by omega), w64 (by omega) (by omega)]
  exact ⟨(1 + n % 18446744073709551616 % 7).toNat, by omega, by omega, by omega⟩
theorem mask_and (a : Int) (s : Nat) (h1 : 1 ≤ s) (h : s ≤ 7) : Go.bits .and .i64 a (256 ^ s - 1) = a % 256 ^ s := by
  have hp := pow_pos s
  have hl := pow256_le h
  unfold Go.bits
  have e : (256 : Int) ^ s - 1 = ((2 ^ (8 * s) - 1 : Nat) : Int) := by
    rw [Int.natCast_sub (Nat.two_pow_pos _)]
    simp [← pow256]
  have hs : 2 ^ (8 * s) ≤ 2 ^ 56 := Nat.pow_le_pow_right (by decide) (by omega)
  have e64 : (2 : Nat) ^ (8 * s) - 1 < 2 ^ IntKind.i64.bits := by
    have : (2 : Nat) ^ IntKind.i64.bits = 18446744073709551616 := by decide
    omega
  simp only
  rw [e, wi64, BitVec.toNat_and, BitVec.ofInt_natCast, BitVec.toNat_ofNat, Nat.mod_eq_of_lt e64, Nat.and_two_pow_sub_one_eq_mod, BitVec.toNat_ofInt]
  have e3 : (((a % ((2 ^ IntKind.i64.bits : Nat) : Int)).toNat % 2 ^ (8 * s) : Nat) : Int) = a % 256 ^ s := by
    have hb : ((2 ^ IntKind.i64.bits : Nat) : Int) = 18446744073709551616 := by decide
    rw [hb, Int.natCast_emod, Int.toNat_of_nonneg (by omega), ← pow256]
    have hd : (2 : Int) ^ (8 * s) ∣ 18446744073709551616 := by
      have : (18446744073709551616 : Int) = 2 ^ (8 * s) * 2 ^ (64 - 8 * s) := by rw [← Int.pow_add]; rw [show 8 * s + (64 - 8 * s) = 64 from by omega]; decide
      exact ⟨_, this⟩
    simp only [Int.natCast_pow]
    exact Int.emod_emod_of_dvd a hd
  rw [e3]
  have := Int.emod_nonneg a (show (256 : Int) ^ s ≠ 0 by omega)
  have := Int.emod_lt_of_pos a hp
  exact w64 (by omega) (by omega)
end Go.Proofs.Yteicflbjhcddoaa.Plain
