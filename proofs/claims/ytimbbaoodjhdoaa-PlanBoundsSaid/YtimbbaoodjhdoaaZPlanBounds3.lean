-- wip/slice2.py
import Derived.Test.YtimbbaoodjhdoaaZPlanBounds2

section
namespace Go.Proofs.Ytimbbaoodjhdoaa.Plan
open Go.RowKit Go.Proofs.Ytimbbaoodjhdoaa.PAll Go.Proofs.Ytimbbaoodjhdoaa.Plain Go.Proofs.YtimbbaoodjhdoaaW.PrintWords Go.Proofs.Ytimbbaoodjhdoaa.ZipT Go.Proofs.YtimbbaoodjhdoaaW.PrintWords.Kd Go.Proofs.YtimbbaoodjhdoaaW.PrintMore.Kd
set_option linter.unusedVariables false
set_option linter.unusedSimpArgs false
theorem walkN_err {f : List Tb} : ∀ (l : List No) (done : List Nd), (walkN f l done).2 ≠ 0 → (walkN f l done).1 = []
 | [], _, h => absurd rfl h
 | x :: r, done, h => by
  unfold walkN at h ⊢
  split at h
  ·
   rename_i he; rw [if_pos he]; exact walkN_err r _ h
  ·
   rename_i he; rw [if_neg he]
theorem planN_err {l : List No} {f : List Tb} (h : (planN l f).2 ≠ 0) : (planN l f).1 = [] := by
 unfold planN at h ⊢
 split at h
 ·
  rename_i c; rw [if_pos c]
 ·
  rename_i c; rw [if_neg c]
  split at h
  ·
   rename_i c2; rw [if_pos c2]
  ·
   rename_i c2; rw [if_neg c2]; exact walkN_err l [] h
end Go.Proofs.Ytimbbaoodjhdoaa.Plan
end
section
namespace Go.Proofs.Ytimbbaoodjhdoaa.Plain
open Go.RowKit Go.Proofs.Ytimbbaoodjhdoaa.PAll Go.Proofs.YtimbbaoodjhdoaaW.PrintWords Go.Proofs.YtimbbaoodjhdoaaW.PrintLast Go.Proofs.YtimbbaoodjhdoaaW.PrintMore Go.Proofs.Ytimbbaoodjhdoaa.ZipT Go.Proofs.YtimbbaoodjhdoaaW.PrintWords.Kd Go.Proofs.YtimbbaoodjhdoaaW.PrintMore.Kd
set_option linter.unusedVariables false
set_option linter.unusedSimpArgs false
def isLong (v : S29) : Bool := decide ((v.f2.size : Int) > 300)
theorem long_l0 (l : List S29) (hl : l.length ≤ 1000000) (m : List S29) : ∀ (k i : Nat), l.drop i = m → m.length < k → raddlelaw03_Long.l0 k l (i : Int) = some (m.any isLong) := by
 induction m with
 | nil =>
  intro k i h hk
  obtain ⟨k, rfl⟩ : ∃ j, k = j + 1 := ⟨k - 1, by simp at hk; omega⟩
  have := List.drop_eq_nil_iff.1 h
  simp only [raddlelaw03_Long.l0]
  rw [if_neg z5]; rfl
 | cons v m ih =>
  intro k i h hk
  obtain ⟨k, rfl⟩ : ∃ j, k = j + 1 := ⟨k - 1, by simp at hk; omega⟩
  have hi : i < l.length := by
   rcases Nat.lt_or_ge i l.length with h1 | h1
   ·
    exact h1
   ·
    rw [List.drop_eq_nil_iff.2 h1] at h; cases h
  have hr : rd_T29 l (i : Int) = v := by
   show l.getD ((i : Int).toNat) _ = v
   rw [Int.toNat_natCast, List.getD_eq_getElem?_getD]
   have : l[i]? = (l.drop i)[0]? := by rw [List.getElem?_drop]; simp
   rw [this, h]; rfl
  have ht : l.drop (i + 1) = m := by rw [← List.drop_drop, h]; rfl
  have := ih k (i + 1) ht (by simp at hk; omega)
  simp only [raddlelaw03_Long.l0]
  rw [if_pos z5, if_pos z5, hr, w64 z5 z5, show ((i : Int) + 1) = ((i + 1 : Nat) : Int) from rfl, this]
  by_cases hv : (v.f2.size : Int) > 300
  ·
   rw [if_pos hv]; simp [isLong, hv]
  ·
   rw [if_neg hv]; simp [isLong, hv]
theorem long_eq (k : Nat) (l : List S29) (hl : l.length ≤ 1000000) (hk : l.length + 1 ≤ k) : raddlelaw03_Long.f k l = some (l.any isLong) := by
 unfold raddlelaw03_Long.f
 have := long_l0 l hl l k 0 rfl z5
 simpa using this
end Go.Proofs.Ytimbbaoodjhdoaa.Plain
end
