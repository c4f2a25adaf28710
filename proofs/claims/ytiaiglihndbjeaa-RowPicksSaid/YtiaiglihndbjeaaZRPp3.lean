-- Put together by a program of this session (wip/slice2.py) out of the seat's texts.
import Derived.Test.YtiaiglihndbjeaaZRPp2
import Derived.Laws.Strings
section
namespace Go.Proofs.Ytiaiglihndbjeaa.Plain
open Go.RowKit Go.Proofs.Ytiaiglihndbjeaa.PAll Go.Proofs.YtiaiglihndbjeaaW.PrintWords Go.Proofs.YtiaiglihndbjeaaW.PrintLast Go.Proofs.YtiaiglihndbjeaaW.PrintMore Go.Proofs.Ytiaiglihndbjeaa.ZipT Go.Proofs.YtiaiglihndbjeaaW.PrintWords.Kd Go.Proofs.YtiaiglihndbjeaaW.PrintMore.Kd
set_option linter.unusedVariables false
set_option linter.unusedSimpArgs false
theorem val_ge (l : List Int) : ∀ a : Int, 0 ≤ a → Bytes l → a * 256 ^ l.length ≤ val a l := by
 induction l with
 | nil => intro a h _; simp [val]
 | cons b l ih =>
  intro a h hb
  have h1 := hb.head
  unfold Byte at h1
  have h2 := ih (a * 256 + b) z2_ hb.tail
  have h3 := pow_pos l.length
  rw [val]
  refine Int.le_trans ?_ h2
  rw [List.length_cons, Int.pow_succ, Int.mul_comm ((256 : Int) ^ l.length), ← Int.mul_assoc]
  exact Int.mul_le_mul_of_nonneg_right z2_ z2_
theorem toList_data (b : ByteArray) : b.toList = b.data.toList := Go.ByteArray.toList_eq b
theorem ofNat_lt {a b : Int} (ha : Byte a) (hb : Byte b) : (UInt8.ofNat a.toNat < UInt8.ofNat b.toNat) ↔ a < b := by
 unfold Byte at ha hb
 rw [UInt8.lt_iff_toNat_lt]
 simp
 omega
end Go.Proofs.Ytiaiglihndbjeaa.Plain
end
section
namespace Go.Proofs.Ytiaiglihndbjeaa.Plain
open Go.RowKit Go.Proofs.Ytiaiglihndbjeaa.PAll Go.Proofs.YtiaiglihndbjeaaW.PrintWords Go.Proofs.YtiaiglihndbjeaaW.PrintLast Go.Proofs.YtiaiglihndbjeaaW.PrintMore Go.Proofs.Ytiaiglihndbjeaa.ZipT Go.Proofs.YtiaiglihndbjeaaW.PrintWords.Kd Go.Proofs.YtiaiglihndbjeaaW.PrintMore.Kd
set_option linter.unusedVariables false
set_option linter.unusedSimpArgs false
theorem sub_cons {l : List Int} {i j : Nat} (hij : i < j) (hj : j ≤ l.length) : sub l i j = rd l (i : Int) :: sub l (i + 1) j := by
 unfold sub
 have hi : i < (l.take j).length := by simp; omega
 rw [List.drop_eq_getElem_cons hi]
 congr 1
 show _ = l.getD ((i : Int).toNat) 0
 rw [Int.toNat_natCast, List.getElem_take, List.getD_eq_getElem?_getD, List.getElem?_eq_getElem z2_]
 rfl
end Go.Proofs.Ytiaiglihndbjeaa.Plain
end
