-- Put together by a program of this session (wip/slice2.py) out of the seat's texts.
import Derived.Test.YtjnjfogfpmeacaaZOUp3
import Derived.Laws.Strings
set_option maxHeartbeats 8000000
set_option maxRecDepth 100000
open Go.Proofs.YtjnjfogfpmeacaaW Go.Proofs.Ytjnjfogfpmeacaa
section
namespace Go.Proofs.Ytjnjfogfpmeacaa.Plain
open Go.RowKit PAll PrintWords PrintLast PrintMore ZipT PrintWords.Kd PrintMore.Kd
set_option linter.unusedVariables false
set_option linter.unusedSimpArgs false
theorem same_l0 (a b : List Int) (hl : a.length = b.length) (m : List Int) : ∀ (k i : Nat), a.drop i = m → i + m.length ≤ 1000000 → m.length < k →
  raddlekeep_Bytes.l0 k a b i = some (decide (m = b.drop i)) := by
 induction m with
 | nil =>
  intro k i h hi hk
  obtain ⟨k, rfl⟩ : ∃ m, k = m + 1 := ⟨k - 1, by omega⟩
  have := drop_end h
  simp only [raddlekeep_Bytes.l0]
  rw [if_neg z4_, List.drop_eq_nil_of_le z4_]
  simp
 | cons x m ih =>
  intro k i h hi hk
  obtain ⟨k, rfl⟩ : ∃ m, k = m + 1 := ⟨k - 1, by omega⟩
  have hlt := drop_lt h
  have hltb : i < b.length := by omega
  simp only [List.length_cons] at hi hk
  have hb : b.drop i = b[i] :: b.drop (i + 1) := List.drop_eq_getElem_cons hltb
  simp only [raddlekeep_Bytes.l0]
  rw [if_pos z4_, if_pos z4_, if_pos z4_, rd_drop h, rd_drop hb, hb]
  by_cases e : x = b[i]
  rotate_left
  ·
   rw [if_neg e]
   simp only [List.cons.injEq, e, false_and, decide_false]
  rw [if_pos e, w64 z4_ z4_]
  have := ih k (i + 1) (drop_tail h) z4_ z4_
  rw [show ((i : Int) + 1) = ((i + 1 : Nat) : Int) from rfl, this, e]
  simp only [List.cons.injEq, true_and]
theorem same_eq (k : Nat) (a b : List Int) (ha : a.length ≤ 900000) (hk : a.length + 2 ≤ k) : raddlekeep_Bytes.f k a b = some (decide (a = b)) := by
 unfold raddlekeep_Bytes.f
 by_cases hl : a.length = b.length
 ·
  rw [if_pos z4_]
  have := same_l0 a b hl a k 0 rfl z4_ z4_
  simpa using this
 rw [if_neg z4_]
 have : a ≠ b := fun e => hl (by rw [e])
 simp [this]
theorem val_ge (l : List Int) : ∀ a : Int, 0 ≤ a → Bytes l → a * 256 ^ l.length ≤ val a l := by
 induction l with
 | nil => intro a h _; simp [val]
 | cons b l ih =>
  intro a h hb
  have h1 := hb.head
  unfold Byte at h1
  have h2 := ih (a * 256 + b) z4_ hb.tail
  have h3 := pow_pos l.length
  rw [val]
  refine Int.le_trans ?_ h2
  rw [List.length_cons, Int.pow_succ, Int.mul_comm ((256 : Int) ^ l.length), ← Int.mul_assoc]
  exact Int.mul_le_mul_of_nonneg_right z4_ z4_
theorem toList_data (b : ByteArray) : b.toList = b.data.toList := Go.ByteArray.toList_eq b
end Go.Proofs.Ytjnjfogfpmeacaa.Plain
end
section
namespace Go.Proofs.Ytjnjfogfpmeacaa.Plain
open Go.RowKit PAll PrintWords PrintLast PrintMore ZipT PrintWords.Kd PrintMore.Kd
set_option linter.unusedVariables false
set_option linter.unusedSimpArgs false
theorem sub_cons {l : List Int} {i j : Nat} (hij : i < j) (hj : j ≤ l.length) : sub l i j = rd l (i : Int) :: sub l (i + 1) j := by
 unfold sub
 have hi : i < (l.take j).length := by simp; omega
 rw [List.drop_eq_getElem_cons hi]
 congr 1
 show _ = l.getD ((i : Int).toNat) 0
 rw [Int.toNat_natCast, List.getElem_take, List.getD_eq_getElem?_getD, List.getElem?_eq_getElem z4_]
 rfl
end Go.Proofs.Ytjnjfogfpmeacaa.Plain
end
