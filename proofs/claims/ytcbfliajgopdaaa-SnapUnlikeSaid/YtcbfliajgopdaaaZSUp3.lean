-- Put together by a program of this session (wip/slice2.py) out of the seat's texts.
import Derived.Test.YtcbfliajgopdaaaZSUp2
import Derived.Laws.Strings
set_option maxHeartbeats 8000000
set_option maxRecDepth 100000
open Go.Proofs.YtcbfliajgopdaaaW Go.Proofs.Ytcbfliajgopdaaa
section
namespace Go.Proofs.Ytcbfliajgopdaaa.Plain
open Go.RowKit PAll PrintWords PrintLast PrintMore ZipT PrintWords.Kd PrintMore.Kd
set_option linter.unusedVariables false
set_option linter.unusedSimpArgs false
theorem same_l0 (a b : List Int) (hl : a.length = b.length) (m : List Int) : ∀ (k i : Nat), a.drop i = m → i + m.length ≤ 1000000 → m.length < k →
  bT.l0 k a b i = some (decide (m = b.drop i)) := by
 induction m with
 | nil =>
  intro k i h hi hk
  obtain ⟨k, rfl⟩ : ∃ m, k = m + 1 := ⟨k - 1, by omega⟩
  have := kB h
  simp only [bT.l0]
  rw [if_neg z2_, List.drop_eq_nil_of_le z2_]
  simp
 | cons x m ih =>
  intro k i h hi hk
  obtain ⟨k, rfl⟩ : ∃ m, k = m + 1 := ⟨k - 1, by omega⟩
  have hlt := drop_lt h
  have hltb : i < b.length := by omega
  simp only [List.length_cons] at hi hk
  have hb : b.drop i = b[i] :: b.drop (i + 1) := List.drop_eq_getElem_cons hltb
  simp only [bT.l0]
  rw [if_pos z2_, if_pos z2_, if_pos z2_, gC h, gC hb, hb]
  by_cases e : x = b[i]
  rotate_left
  ·
   rw [if_neg e]
   simp only [List.cons.injEq, e, false_and, decide_false]
  rw [if_pos e, w64 z2_ z2_]
  have := ih k (i + 1) (jJ h) z2_ z2_
  rw [show ((i : Int) + 1) = ((i + 1 : Nat) : Int) from rfl, this, e]
  simp only [List.cons.injEq, true_and]
theorem same_eq (k : Nat) (a b : List Int) (ha : a.length ≤ 900000) (hk : a.length + 2 ≤ k) : bT.f k a b = some (decide (a = b)) := by
 unfold bT.f
 by_cases hl : a.length = b.length
 ·
  rw [if_pos z2_]
  have := same_l0 a b hl a k 0 rfl z2_ z2_
  simpa using this
 rw [if_neg z2_]
 have : a ≠ b := fun e => hl (by rw [e])
 simp [this]
theorem twin_eq (l : List Int) (hl : l.length ≤ 1000000) : dM.f l = some l := by
 unfold dM.f
 simp only [List.length_nil, List.nil_append]
 rw [if_pos z2_]
theorem val_ge (l : List Int) : ∀ a : Int, 0 ≤ a → Bytes l → a * 256 ^ l.length ≤ val a l := by
 induction l with
 | nil => intro a h _; simp [val]
 | cons b l ih =>
  intro a h hb
  have h1 := hb.head
  unfold Byte at h1
  have h2 := ih (a * 256 + b) z2_ hb.tail
  have h3 := pow_pos l.length
  rw [val]
  refine Int.le_trans ?_ h2
  rw [List.length_cons, Int.pow_succ, Int.mul_comm ((256 : Int) ^ l.length), ← Int.mul_assoc]
  exact Int.mul_le_mul_of_nonneg_right z2_ z2_
theorem iW (b : ByteArray) : b.toList = b.data.toList := Go.ByteArray.toList_eq b
theorem ofNat_lt {a b : Int} (ha : Byte a) (hb : Byte b) : (UInt8.ofNat a.toNat < UInt8.ofNat b.toNat) ↔ a < b := by
 unfold Byte at ha hb
 rw [UInt8.lt_iff_toNat_lt]
 simp
 omega
end Go.Proofs.Ytcbfliajgopdaaa.Plain
end
section
namespace Go.Proofs.Ytcbfliajgopdaaa.Plain
open Go.RowKit PAll PrintWords PrintLast PrintMore ZipT PrintWords.Kd PrintMore.Kd
set_option linter.unusedVariables false
set_option linter.unusedSimpArgs false
theorem rin_eq (a b c : Int) : dO.f a b c = some (decide (b ≤ a ∧ a ≤ c)) := by
 unfold dO.f
 by_cases h : a ≥ b
 ·
  rw [if_pos h]; simp [h]
 rw [if_neg h]; simp [h] <;> omega
theorem iA {l : List Int} {i j : Nat} (hij : i < j) (hj : j ≤ l.length) : sub l i j = rd l (i : Int) :: sub l (i + 1) j := by
 unfold sub
 have hi : i < (l.take j).length := by simp; omega
 rw [List.drop_eq_getElem_cons hi]
 congr 1
 show _ = l.getD ((i : Int).toNat) 0
 rw [Int.toNat_natCast, List.getElem_take, List.getD_eq_getElem?_getD, List.getElem?_eq_getElem z2_]
 rfl
end Go.Proofs.Ytcbfliajgopdaaa.Plain
end
