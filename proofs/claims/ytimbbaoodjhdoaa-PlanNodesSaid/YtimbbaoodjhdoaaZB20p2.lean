-- Put together by a program of this session (wip/slice2.py) out of the seat's texts.
import Derived.Test.YtimbbaoodjhdoaaZB20p1
import Derived.Sort.Walk0
section
namespace Go.Proofs.Ytimbbaoodjhdoaa.Plain
open Go.RowKit Go.Proofs.Ytimbbaoodjhdoaa.PAll Go.Proofs.YtimbbaoodjhdoaaW.PrintWords Go.Proofs.YtimbbaoodjhdoaaW.PrintLast Go.Proofs.YtimbbaoodjhdoaaW.PrintMore Go.Proofs.Ytimbbaoodjhdoaa.ZipT Go.Proofs.YtimbbaoodjhdoaaW.PrintWords.Kd Go.Proofs.YtimbbaoodjhdoaaW.PrintMore.Kd
set_option linter.unusedVariables false
set_option linter.unusedSimpArgs false
theorem toList_nil (s : ByteArray) : s.toList = ([] : List UInt8) ↔ s.size = 0 := by
 rw [toList_data, show s.size = s.data.toList.length from by rw [Array.length_toList]; rfl]
 exact List.length_eq_zero_iff.symm
def vOk (k i : Int) (s : ByteArray) : Prop :=
 (k = 1 ∧ i = 0 ∧ s.size = 0) ∨ (k = 2 ∧ (i = 0 ∨ i = 1) ∧ s.size = 0) ∨ (k = 3 ∧ (-1152921504606846976 ≤ i ∧ i ≤ 1152921504606846976) ∧ s.size = 0) ∨ (k = 4 ∧ i = 0 ∧ s.size ≤ 24)
instance (k i : Int) (s : ByteArray) : Decidable (vOk k i s) := by unfold vOk; infer_instance
theorem within_v (n m : Int) (h0 : 0 ≤ m) (h1 : m ≤ 9223372036854775807) : value_within.f n m = some (decide (-m ≤ n ∧ n ≤ m)) := by
 unfold value_within.f
 rw [w64 (x := -m) z5 z5]
 by_cases h : n ≥ -m
 ·
  rw [if_pos h]; congr 1; simp; omega
 ·
  rw [if_neg h]; congr 1; simp; omega
theorem check_eq (k i : Int) (s : ByteArray) : value_Check.f k i s = some (if vOk k i s then 0 else 1) := by
 unfold value_Check.f
 rw [within_v i 1152921504606846976 z5 z5]
 simp only [toList_nil, Option.bind_some, decide_eq_true_eq]
 by_cases ho : vOk k i s
 ·
  rw [if_pos ho]; unfold vOk at ho; repeat' split
  all_goals first | rfl | (exfalso; omega)
 ·
  rw [if_neg ho]; unfold vOk at ho; repeat' split
  all_goals first | rfl | (exfalso; omega)
theorem rvalue_eq (k i : Int) (s : ByteArray) : raddleref01_Value.f k i s = some (decide (vOk k i s)) := by
 unfold raddleref01_Value.f
 simp only [rin_eq, Option.bind_some, decide_eq_true_eq]
 have hn : (s.toList == ([] : List UInt8)) = decide (s.size = 0) := by
  by_cases h : s.size = 0
  ·
   rw [(toList_nil s).2 h, decide_eq_true h]; rfl
  ·
   rw [decide_eq_false h, beq_eq_false_iff_ne]; exact fun e => h ((toList_nil s).1 e)
 rw [hn]
 by_cases ho : vOk k i s
 ·
  rw [decide_eq_true ho]; unfold vOk at ho; repeat' split
  all_goals first | rfl | (exfalso; omega) | (congr 1; rw [decide_eq_true_eq]; omega)
 ·
  rw [decide_eq_false ho]; unfold vOk at ho; repeat' split
  all_goals first | rfl | (exfalso; omega) | (congr 1; rw [decide_eq_false_iff_not]; omega)
def vFits (k i : Int) (s : ByteArray) (t : Int) : Prop := (2 ≤ t ∧ t ≤ 4) ∧ vOk k i s ∧ (k = t ∨ k = 1)
instance (k i : Int) (s : ByteArray) (t : Int) : Decidable (vFits k i s t) := by unfold vFits; infer_instance
theorem beq_one (k : Int) : (k == 1) = decide (k = 1) := by by_cases h : k = 1 <;> simp [h]
theorem fits_eq (k i : Int) (s : ByteArray) (t : Int) : value_Fits.f k i s t = some (decide (vFits k i s t)) := by
 unfold value_Fits.f vFits
 simp only [check_eq, Option.bind_some, beq_one]
 by_cases ho : vOk k i s
 ·
  simp only [ho, if_true, true_and]
  repeat' split
  all_goals first | rfl | (exfalso; omega) | (congr 1; rw [decide_eq_decide]; omega) | (congr 1; rw [eq_comm, decide_eq_true_eq]; omega) | (congr 1; rw [eq_comm, decide_eq_false_iff_not]; omega)
 ·
  simp only [ho, if_false, false_and, and_false]
  repeat' split
  all_goals first | rfl | (exfalso; omega) | (congr 1; rw [decide_eq_decide]; omega) | (congr 1; rw [eq_comm, decide_eq_true_eq]; omega) | (congr 1; rw [eq_comm, decide_eq_false_iff_not]; omega)
theorem rfits_eq (k i : Int) (s : ByteArray) (t : Int) : raddleref01_Fits.f k i s t = some (decide (vFits k i s t)) := by
 unfold raddleref01_Fits.f raddleref01_Type.f vFits
 simp only [rvalue_eq, rin_eq, Option.bind_some, beq_one, decide_eq_true_eq]
 by_cases ho : vOk k i s
 ·
  simp only [ho, if_true, true_and]
  repeat' split
  all_goals first | rfl | (exfalso; omega) | (congr 1; rw [decide_eq_decide]; omega) | (congr 1; rw [eq_comm, decide_eq_true_eq]; omega) | (congr 1; rw [eq_comm, decide_eq_false_iff_not]; omega)
 ·
  simp only [ho, if_false, false_and, and_false]
  repeat' split
  all_goals first | rfl | (exfalso; omega) | (congr 1; rw [decide_eq_decide]; omega) | (congr 1; rw [eq_comm, decide_eq_true_eq]; omega) | (congr 1; rw [eq_comm, decide_eq_false_iff_not]; omega)
def vSmall (k i : Int) (s : ByteArray) : Prop := vOk k i s ∧ (k = 3 → -2147483648 ≤ i ∧ i ≤ 2147483648)
instance (k i : Int) (s : ByteArray) : Decidable (vSmall k i s) := by unfold vSmall; infer_instance
end Go.Proofs.Ytimbbaoodjhdoaa.Plain
end
section
namespace Go.Proofs.Ytimbbaoodjhdoaa.Plan
open Go.RowKit Go.Proofs.Ytimbbaoodjhdoaa.PAll Go.Proofs.Ytimbbaoodjhdoaa.Plain Go.Proofs.YtimbbaoodjhdoaaW.PrintWords Go.Proofs.Ytimbbaoodjhdoaa.ZipT Go.Proofs.YtimbbaoodjhdoaaW.PrintWords.Kd Go.Proofs.YtimbbaoodjhdoaaW.PrintMore.Kd
set_option linter.unusedVariables false
set_option linter.unusedSimpArgs false
abbrev Tb := S54
abbrev No := S34
abbrev Pr := S31
abbrev Nd := List Int × Int × Int
def zN : Nd := ([], 0, 0)
def places (l : List Int) (m : Nat) : Bool := l.all fun c => decide (0 ≤ c ∧ c < (m : Int))
def pick (t cols : List Int) : List Int := cols.map fun c => rd t c
def ahead (done : List Nd) (k : Int) : Bool := decide (0 ≤ k ∧ k < (done.length : Int))
def nth (done : List Nd) (k : Int) : Nd := done.getD k.toNat zN
def given (p : Pr) : Prop := p.f0 = 1 ∨ p.f0 = 2
instance (p : Pr) : Decidable (given p) := by unfold given; infer_instance
def other (p : Pr) : Prop := p.f0 = 3 ∨ p.f0 = 4
instance (p : Pr) : Decidable (other p) := by unfold other; infer_instance
def inn (c : Int) (m : Nat) : Prop := 0 ≤ c ∧ c < (m : Int)
instance (c : Int) (m : Nat) : Decidable (inn c m) := by unfold inn; infer_instance
def pbad (p : Pr) (t : List Int) : Prop := p.f0 < 1 ∨ p.f0 > 6 ∨ ¬ inn p.f1 t.length ∨ (other p ∧ ¬ inn p.f2 t.length) ∨ (given p ∧ ¬ vOk p.f3.f0 p.f3.f1 p.f3.f2)
instance (p : Pr) (t : List Int) : Decidable (pbad p t) := by unfold pbad; infer_instance
def pmis (p : Pr) (t : List Int) : Prop := (given p ∧ ¬ vFits p.f3.f0 p.f3.f1 p.f3.f2 (rd t p.f1)) ∨ (other p ∧ ¬ rd t p.f2 = rd t p.f1)
instance (p : Pr) (t : List Int) : Decidable (pmis p t) := by unfold pmis; infer_instance
def predE (p : Pr) (t : List Int) : Int := if pbad p t then 1 else if pmis p t then 10 else 0
theorem predE_bad {p : Pr} {t : List Int} (h : pbad p t) : predE p t = 1 := if_pos h
theorem predE_mis {p : Pr} {t : List Int} (h : ¬ pbad p t) (g : pmis p t) : predE p t = 10 := by unfold predE; rw [if_neg h, if_pos g]
theorem predE_ok {p : Pr} {t : List Int} (h : ¬ pbad p t) (g : ¬ pmis p t) : predE p t = 0 := by unfold predE; rw [if_neg h, if_neg g]
def scanN (f : List Tb) (x : No) : Nd × Int := if x.f3 < 0 ∨ x.f3 ≥ (f.length : Int) then (zN, 1) else ((4 :: (rd_T54 f x.f3).f0, 1024, 2147483648), 0)
def filterN (done : List Nd) (x : No) : Nd × Int := if ahead done x.f1 = true then (nth done x.f1, predE x.f4 (nth done x.f1).1) else (zN, 1)
def projectN (done : List Nd) (x : No) : Nd × Int :=
 if ahead done x.f1 = true ∧ places x.f5 (nth done x.f1).1.length = true then (if x.f5.length > 12 then (zN, 2) else ((pick (nth done x.f1).1 x.f5, (nth done x.f1).2), 0)) else (zN, 1)
def joinN (done : List Nd) (x : No) : Nd × Int :=
 if ahead done x.f1 = true ∧ ahead done x.f2 = true then
  (if places x.f5 (nth done x.f1).1.length = true ∧ places x.f6 (nth done x.f2).1.length = true then
   (if x.f5.length ≠ x.f6.length ∨ (nth done x.f1).1.length + (nth done x.f2).1.length > 12 then (zN, 2)
   else if pick (nth done x.f1).1 x.f5 = pick (nth done x.f2).1 x.f6 then
    (if (nth done x.f1).2.1 * (nth done x.f2).2.1 ≤ 1125899906842624 then (((nth done x.f1).1 ++ (nth done x.f2).1, (nth done x.f1).2.1 * (nth done x.f2).2.1, max (nth done x.f1).2.2 (nth done x.f2).2.2), 0) else (zN, 11))
   else (zN, 10))
  else (zN, 1))
 else (zN, 1)
def bothN (done : List Nd) (x : No) : Nd × Int :=
 if ahead done x.f1 = true ∧ ahead done x.f2 = true then
  (if (nth done x.f1).1 = (nth done x.f2).1 then
   (if (nth done x.f1).2.1 + (nth done x.f2).2.1 ≤ 1125899906842624 then (((nth done x.f1).1, (nth done x.f1).2.1 + (nth done x.f2).2.1, max (nth done x.f1).2.2 (nth done x.f2).2.2), 0) else (zN, 11))
  else (zN, 10))
 else (zN, 1)
def distinctN (done : List Nd) (x : No) : Nd × Int := if ahead done x.f1 = true then (nth done x.f1, 0) else (zN, 1)
def groupN (done : List Nd) (x : No) : Nd × Int :=
 if ahead done x.f1 = true ∧ 1 ≤ x.f7 ∧ x.f7 ≤ 4 then
  (if places x.f5 (nth done x.f1).1.length = true ∧ (x.f7 = 1 ∨ inn x.f8 (nth done x.f1).1.length) then
   (if x.f5.length ≥ 12 then (zN, 2)
   else if x.f7 = 2 ∧ rd (nth done x.f1).1 x.f8 ≠ 3 then (zN, 10)
   else if x.f7 = 1 then ((pick (nth done x.f1).1 x.f5 ++ [3], (nth done x.f1).2.1, max (nth done x.f1).2.2 (nth done x.f1).2.1), 0)
   else if x.f7 = 2 then (if (nth done x.f1).2.2 * (nth done x.f1).2.1 ≤ 1152921504606846976 then ((pick (nth done x.f1).1 x.f5 ++ [3], (nth done x.f1).2.1, max (nth done x.f1).2.2 ((nth done x.f1).2.2 * (nth done x.f1).2.1)), 0) else (zN, 11))
   else ((pick (nth done x.f1).1 x.f5 ++ [rd (nth done x.f1).1 x.f8], (nth done x.f1).2), 0))
  else (zN, 1))
 else (zN, 1)
def look (f : List Tb) (done : List Nd) (x : No) : Nd × Int :=
 if x.f0 = 1 then scanN f x else if x.f0 = 2 then filterN done x else if x.f0 = 3 then projectN done x else if x.f0 = 4 then joinN done x
 else if x.f0 = 5 ∨ x.f0 = 6 then bothN done x else if x.f0 = 7 then distinctN done x else if x.f0 = 8 then groupN done x else (zN, 1)
def walkN (f : List Tb) : List No → List Nd → List Nd × Int
 | [], done => (done, 0)
 | x :: r, done => if (look f done x).2 = 0 then walkN f r (done ++ [(look f done x).1]) else ([], (look f done x).2)
def formsE (f : List Tb) : Int :=
 if f.length < 1 ∨ f.length > 3 then 2 else if (f.any fun t => decide (t.f0.length < 1 ∨ t.f0.length > 4)) = true then 2
 else if (f.any fun t => t.f0.any fun c => decide (c < 2 ∨ c > 4)) = true then 10 else 0
def planN (l : List No) (f : List Tb) : List Nd × Int :=
 if formsE f ≠ 0 then ([], formsE f) else if l.length < 1 ∨ l.length > 12 then ([], 2) else walkN f l []
def lastN (l : List No) (f : List Tb) : Nd := (planN l f).1.getD (l.length - 1) zN
structure NdOk (d : Nd) : Prop where
 len : d.1.length ≤ 12
 w1 : 1 ≤ d.2.1
 w2 : d.2.1 ≤ 1125899906842624
 v1 : 1 ≤ d.2.2
 v2 : d.2.2 ≤ 1152921504606846976
def FOk (f : List Tb) : Prop := formsE f = 0
theorem FOk.forms {f : List Tb} (h : FOk f) : 1 ≤ f.length ∧ f.length ≤ 3 ∧ ∀ t ∈ f, 1 ≤ t.f0.length ∧ t.f0.length ≤ 4 ∧ ∀ c ∈ t.f0, 2 ≤ c ∧ c ≤ 4 := by
 unfold FOk formsE at h
 split at h
 ·
  omega
 ·
  rename_i h1
  split at h
  ·
   omega
  ·
   rename_i h2
   split at h
   ·
    omega
   ·
    rename_i h3
    simp only [List.any_eq_true, decide_eq_true_eq, not_exists, not_and] at h2 h3
    exact ⟨by omega, by omega, fun t ht => ⟨by have := h2 t ht; omega, by have := h2 t ht; omega, fun c hc => by have := h3 t ht c hc; omega⟩⟩
theorem nth_ok {done : List Nd} (h : ∀ d ∈ done, NdOk d) {k : Int} (ha : ahead done k = true) : NdOk (nth done k) := by
 unfold ahead at ha
 have ha := of_decide_eq_true ha
 unfold nth
 rw [List.getD_eq_getElem?_getD, List.getElem?_eq_getElem z5]
 exact h _ (List.getElem_mem _)
theorem pick_length (t c : List Int) : (pick t c).length = c.length := by simp [pick]
theorem getD_mem {α : Type} {l : List α} {i : Nat} {z : α} (h : i < l.length) : l.getD i z ∈ l := by
 rw [List.getD_eq_getElem?_getD, List.getElem?_eq_getElem h]; exact List.getElem_mem _
theorem look_ok {f : List Tb} (hf : FOk f) {done : List Nd} (h : ∀ d ∈ done, NdOk d) (x : No) (he : (look f done x).2 = 0) : NdOk (look f done x).1 := by
 unfold look at he ⊢
 split at he <;> rename_i c1
 ·
  rw [if_pos c1]
  unfold scanN at he ⊢
  split at he
  ·
   simp at he
  ·
   rename_i c
   rw [if_neg c]
   have := (hf.forms.2.2 (rd_T54 f x.f3) (getD_mem z5))
   exact ⟨by show (4 :: _ : List Int).length ≤ 12; rw [List.length_cons]; omega, by show (1 : Int) ≤ 1024; decide, by show (1024 : Int) ≤ _; decide, by show (1 : Int) ≤ 2147483648; decide, by show (2147483648 : Int) ≤ _; decide⟩
 rw [if_neg c1]
 split at he <;> rename_i c2
 ·
  rw [if_pos c2]
  unfold filterN at he ⊢
  split at he
  ·
   rename_i c; rw [if_pos c]; exact nth_ok h c
  ·
   simp at he
 rw [if_neg c2]
 split at he <;> rename_i c3
 ·
  rw [if_pos c3]
  unfold projectN at he ⊢
  split at he
  ·
   rename_i c; rw [if_pos c]
   split at he
   ·
    simp at he
   ·
    rename_i c'; rw [if_neg c']
    have := nth_ok h c.1
    exact ⟨by rw [pick_length]; omega, this.w1, this.w2, this.v1, this.v2⟩
  ·
   simp at he
 rw [if_neg c3]
 split at he <;> rename_i c4
 ·
  rw [if_pos c4]
  unfold joinN at he ⊢
  split at he
  ·
   rename_i c; rw [if_pos c]
   split at he
   ·
    rename_i c'; rw [if_pos c']
    split at he
    ·
     simp at he
    ·
     rename_i c5; rw [if_neg c5]
     split at he
     ·
      rename_i c6; rw [if_pos c6]
      split at he
      ·
       rename_i c7; rw [if_pos c7]
       have h1 := nth_ok h c.1
       have h2 := nth_ok h c.2
       refine ⟨by rw [List.length_append]; omega, ?_, c7, ?_, ?_⟩
       ·
        have := Int.mul_le_mul h1.w1 h2.w1 z5 (by have := h1.w1; omega)
        simpa using this
       ·
        have := h1.v1; show 1 ≤ max _ _; omega
       ·
        have := h1.v2; have := h2.v2; show max _ _ ≤ _; omega
      ·
       simp at he
     ·
      simp at he
   ·
    simp at he
  ·
   simp at he
 rw [if_neg c4]
 split at he <;> rename_i c5
 ·
  rw [if_pos c5]
  unfold bothN at he ⊢
  split at he
  ·
   rename_i c; rw [if_pos c]
   split at he
   ·
    rename_i c'; rw [if_pos c']
    split at he
    ·
     rename_i c7; rw [if_pos c7]
     have h1 := nth_ok h c.1
     have h2 := nth_ok h c.2
     refine ⟨h1.len, ?_, c7, ?_, ?_⟩
     ·
      have := h1.w1; have := h2.w1; show 1 ≤ _ + _; omega
     ·
      have := h1.v1; show 1 ≤ max _ _; omega
     ·
      have := h1.v2; have := h2.v2; show max _ _ ≤ _; omega
    ·
     simp at he
   ·
    simp at he
  ·
   simp at he
 rw [if_neg c5]
 split at he <;> rename_i c6
 ·
  rw [if_pos c6]
  unfold distinctN at he ⊢
  split at he
  ·
   rename_i c; rw [if_pos c]; exact nth_ok h c
  ·
   simp at he
 rw [if_neg c6]
 split at he <;> rename_i c7
 ·
  rw [if_pos c7]
  unfold groupN at he ⊢
  split at he
  ·
   rename_i c; rw [if_pos c]
   have h1 := nth_ok h c.1
   split at he
   ·
    rename_i c'; rw [if_pos c']
    split at he
    ·
     simp at he
    ·
     rename_i d1; rw [if_neg d1]
     split at he
     ·
      simp at he
     ·
      rename_i d2; rw [if_neg d2]
      have hl : ∀ t : Int, (pick (nth done x.f1).1 x.f5 ++ [t]).length ≤ 12 := fun t => by rw [List.length_append, pick_length]; simp; omega
      have := h1.v1; have := h1.v2; have := h1.w1; have := h1.w2
      split at he
      ·
       rename_i d3; rw [if_pos d3]
       exact ⟨hl _, h1.w1, h1.w2, by show 1 ≤ max _ _; omega, by show max _ _ ≤ _; omega⟩
      ·
       rename_i d3; rw [if_neg d3]
       split at he
       ·
        rename_i d4; rw [if_pos d4]
        split at he
        ·
         rename_i d5; rw [if_pos d5]
         exact ⟨hl _, h1.w1, h1.w2, by show 1 ≤ max _ _; omega, by show max _ _ ≤ _; omega⟩
        ·
         simp at he
       ·
        rename_i d4; rw [if_neg d4]
        exact ⟨hl _, h1.w1, h1.w2, h1.v1, h1.v2⟩
   ·
    simp at he
  ·
   simp at he
 ·
  simp at he
theorem walkN_ok {f : List Tb} (hf : FOk f) : ∀ (l : List No) (done : List Nd), (∀ d ∈ done, NdOk d) → ∀ d ∈ (walkN f l done).1, NdOk d
 | [], _, h => h
 | x :: r, done, h => by
  unfold walkN
  split
  ·
   rename_i he
   exact walkN_ok hf r _ (fun d hd => (List.mem_append.1 hd).elim (h d) (fun e => by rw [List.mem_singleton.1 e]; exact look_ok hf h x he))
  ·
   intro d hd; cases hd
theorem walkN_len {f : List Tb} : ∀ (l : List No) (done : List Nd), (walkN f l done).2 = 0 → (walkN f l done).1.length = done.length + l.length
 | [], _, _ => rfl
 | x :: r, done, h => by
  unfold walkN at h ⊢
  split at h
  ·
   rename_i he; rw [if_pos he, walkN_len r _ h]; simp; omega
  ·
   rename_i he; exact absurd h he
theorem planN_ok {l : List No} {f : List Tb} : ∀ d ∈ (planN l f).1, NdOk d := by
 unfold planN
 split
 ·
  intro d hd; cases hd
 ·
  rename_i h
  split
  ·
   intro d hd; cases hd
  ·
   exact walkN_ok (f := f) (by unfold FOk; omega) l [] (fun d hd => by cases hd)
theorem planN_len {l : List No} {f : List Tb} (h : (planN l f).2 = 0) : (planN l f).1.length = l.length ∧ 1 ≤ l.length ∧ l.length ≤ 12 ∧ FOk f := by
 unfold planN at h ⊢
 split at h
 ·
  rename_i c; exact absurd h c
 ·
  rename_i c
  rw [if_neg c]
  split at h
  ·
   simp at h
  ·
   rename_i c2; rw [if_neg c2]
   refine ⟨by rw [walkN_len l [] h]; simp, by omega, by omega, by unfold FOk; omega⟩
theorem planN_go {l : List No} {f : List Tb} (hf : FOk f) (h1 : 1 ≤ l.length) (h2 : l.length ≤ 12) : planN l f = walkN f l [] := by
 unfold planN; rw [if_neg (by unfold FOk at hf; omega), if_neg z5]
theorem walkN_append {f : List Tb} : ∀ (l m : List No) (done : List Nd), (walkN f l done).2 = 0 → walkN f (l ++ m) done = walkN f m (walkN f l done).1
 | [], _, _, _ => rfl
 | x :: r, m, done, h => by
  rw [List.cons_append]
  unfold walkN at h
  rw [show walkN f (x :: r) done = if (look f done x).2 = 0 then walkN f r (done ++ [(look f done x).1]) else ([], (look f done x).2) from rfl]
  rw [show walkN f (x :: (r ++ m)) done = if (look f done x).2 = 0 then walkN f (r ++ m) (done ++ [(look f done x).1]) else ([], (look f done x).2) from rfl]
  split at h
  ·
   rename_i he; rw [if_pos he, if_pos he]; exact walkN_append r m _ h
  ·
   rename_i he; exact absurd h he
end Go.Proofs.Ytimbbaoodjhdoaa.Plan
end
section
namespace Go.Proofs.Ytimbbaoodjhdoaa.Plan
open Go.RowKit Go.Proofs.Ytimbbaoodjhdoaa.PAll Go.Proofs.Ytimbbaoodjhdoaa.Plain Go.Proofs.YtimbbaoodjhdoaaW.PrintWords Go.Proofs.YtimbbaoodjhdoaaW.PrintLast Go.Proofs.YtimbbaoodjhdoaaW.PrintMore Go.Proofs.Ytimbbaoodjhdoaa.ZipT Go.Proofs.YtimbbaoodjhdoaaW.PrintWords.Kd Go.Proofs.YtimbbaoodjhdoaaW.PrintMore.Kd
set_option linter.unusedVariables false
set_option linter.unusedSimpArgs false
set_option maxHeartbeats 8000000 in
set_option maxRecDepth 100000 in
theorem plan_places_1.calls (c : Int) (m : Int) (gb : Nat) (w : World) (hg : w.heap[gb]? = some (.cells #[.int .i64 m] 3 (0, 0))) :
  Calls Try.prog 70 #[.int .i64 c, .pointer (some ⟨gb, 0, none⟩)] w fun e w' => e = .returned (.bool (decide (c < 0 ∨ c ≥ m))) ∧ Drawn0 w w' := by
 have hcz : w.cell? ⟨gb, 0, none⟩ = some (.int .i64 m) := (blk_cell hg 0).trans rfl
 have hfz := blk_frozen hg 0
 by_cases h1 : c < 0
 ·
  have h1b : decide (c < 0) = true := decide_eq_true h1
  go_enter Try.func70, Try.ntmps70
  go_wp2
  go_ret
  exact ⟨by simp [h1], by repeat (first | exact Drawn0.refl _ | apply Drawn0.step)⟩
 ·
  have h1b : decide (c < 0) = false := decide_eq_false h1
  go_enter Try.func70, Try.ntmps70
  go_wp2
  go_ret
  exact ⟨by simp [h1], by repeat (first | exact Drawn0.refl _ | apply Drawn0.step)⟩
def slices_IndexFunc_at_plan_places_1.l0 : Nat → List Int → Int → Int → Int → Option (Int)
 | 0, _, _, _, _ => none
 | k + 1, x0, m, x7, x8 => if x8 < x7 then (if 0 ≤ x8 then (if x8 < (x0.length : Int) then (if decide (rd x0 x8 < 0 ∨ rd x0 x8 ≥ m) = true then (some x8) else (slices_IndexFunc_at_plan_places_1.l0 k x0 m x7 (wrap64 (x8 + 1)))) else (none)) else (none)) else (some (-1))
set_option maxHeartbeats 8000000 in
set_option maxRecDepth 100000 in
theorem slices_IndexFunc_at_plan_places_1.calls (k : Nat) (A0 : Option Addr) (c0 : Nat) (l0 : List Int) (m : Int) (gb : Nat) (r : Int) (w : World) (hr0 : Kd.C (Kd.int .i64) w A0 l0.length l0) (hc0 : l0.length ≤ c0)
  (hg : w.heap[gb]? = some (.cells #[.int .i64 m] 3 (0, 0))) (h : slices_IndexFunc_at_plan_places_1.l0 k l0 m (l0.length : Int) 0 = some r) :
  Calls Try.prog 57 #[.slice A0 l0.length c0, .func (.func 70) #[] #[.pointer (some ⟨gb, 0, none⟩)]] w fun e w' => e = .returned (.int .i64 r) ∧ Drawn0 w w' := by
 have HR0 := mk_ hr0
 have HC0 := mk_ hc0
 have HG := mk_ hg
 clear hr0 hc0 hg
 have H' := mk_ h
 clear h
 go_enter Try.func57, Try.ntmps57
 go_wp2
 go_loopg [8] k (fun kq v8 w' => ∃ (x8_1 : Int), v8 = .int .i64 x8_1 ∧ Aside0 (slices_IndexFunc_at_plan_places_1.l0 kq l0 m (l0.length : Int) x8_1 = some r) ∧ Aside0 (kq ≤ k) ∧ Drawn0 w w')
 case atStart => exact ⟨(0), z9, H', ⟨Nat.le_refl _⟩, by repeat (first | exact Drawn0.refl _ | apply Drawn0.step)⟩
 case round =>
  clear H'
  try clear p2
  obtain ⟨x8_1, rfl, HA, HK1, ⟨m1, rfl⟩⟩ := hrel
  cases gk with
  | zero => exact absurd HA.out (by simp [slices_IndexFunc_at_plan_places_1.l0])
  | succ k1 =>
   have H := HA.out
   clear HA
   simp only [slices_IndexFunc_at_plan_places_1.l0] at H
   by_cases c3 : x8_1 < (l0.length : Int)
   ·
    rw [if_pos c3] at H
    have c3b0 : decide (x8_1 < (l0.length : Int)) = true := decide_eq_true c3
    by_cases c4 : 0 ≤ x8_1
    ·
     rw [if_pos c4, if_pos c3] at H
     have c4b0 : decide (0 ≤ x8_1) = true := decide_eq_true c4
     clear c3 c4
     have p261 : 0 ≤ (x8_1 : Int) := of_decide_eq_true z4
     have q261 : x8_1 < (l0.length : Int) := of_decide_eq_true z4
     obtain ⟨ad261, e261, hx261_0⟩ := Kd.at_int HR0.out x8_1 p261 q261
     cases e261
     replace p261 := eq_true p261
     replace q261 := eq_true q261
     by_cases c7 : decide (rd l0 x8_1 < 0 ∨ rd l0 x8_1 ≥ m) = true
     ·
      rw [if_pos c7] at H
      obtain rfl := Option.some.inj H
      go_wp2_with (first | ((with_reducible refine Steps.gate_any rfl ?_); refine Steps.goesV_ (some 16) rfl rfl Try.func70 z1 rfl #[.int .i64 (rd l0 x8_1), .pointer (some ⟨gb, 0, none⟩)] rfl (cap := #[.pointer (some ⟨gb, 0, none⟩)]) (by first | rfl | go_simp) (by first | rfl | (go_simp; done)) ?_; (refine (plan_places_1.calls (rd l0 x8_1) m gb _ ?hg).mono ?_); (case hg => (with_reducible repeat (first | refine blk_drewN ?_ _ | refine blk_drew ?_ | refine blk_alloc ?_ _)); exact HG.out); rw [c7]; rintro e w' ⟨rfl, ⟨nd, rfl⟩⟩; refine ⟨_, rfl, ?_⟩))
      go_ret
      exact ⟨z9, by repeat (first | exact Drawn0.refl _ | apply Drawn0.step)⟩
     ·
      rw [if_neg c7] at H
      have c7' := Bool.eq_false_iff.mpr c7
      have H' := mk_ H
      clear H
      go_wp2_with (first | ((with_reducible refine Steps.gate_any rfl ?_); refine Steps.goesV_ (some 16) rfl rfl Try.func70 z1 rfl #[.int .i64 (rd l0 x8_1), .pointer (some ⟨gb, 0, none⟩)] rfl (cap := #[.pointer (some ⟨gb, 0, none⟩)]) (by first | rfl | go_simp) (by first | rfl | (go_simp; done)) ?_; (refine (plan_places_1.calls (rd l0 x8_1) m gb _ ?hg).mono ?_); (case hg => (with_reducible repeat (first | refine blk_drewN ?_ _ | refine blk_drew ?_ | refine blk_alloc ?_ _)); exact HG.out); rw [c7']; rintro e w' ⟨rfl, ⟨nd, rfl⟩⟩; refine ⟨_, rfl, ?_⟩))
      go_roundg k1
      case measure => have := HK1.out; omega
      case rel => exact ⟨(wrap64 (x8_1 + 1)), z9, H', ⟨by have := HK1.out; omega⟩, by repeat (first | exact Drawn0.refl _ | apply Drawn0.step)⟩
    ·
     rw [if_neg c4] at H
     exact absurd H (by simp)
   ·
    rw [if_neg c3] at H
    have c3b0 : decide (x8_1 < (l0.length : Int)) = false := decide_eq_false c3
    clear c3
    obtain rfl := Option.some.inj H
    go_wp2
    go_ret
    exact ⟨z9, by repeat (first | exact Drawn0.refl _ | apply Drawn0.step)⟩
theorem slices_IndexFunc_at_plan_places_1.ends (l0 : List Int) (m : Int) (hl : l0.length ≤ 9000000000000000000) : ∀ (j i : Nat), i + j = l0.length →
  ∃ r, (∀ k, j < k → slices_IndexFunc_at_plan_places_1.l0 k l0 m (l0.length : Int) (i : Int) = some r) ∧ (r ≥ 0 ↔ (l0.drop i).any (fun c => decide (c < 0 ∨ c ≥ m)) = true) := by
 intro j
 induction j with
 | zero =>
  intro i hi
  refine ⟨-1, fun k hk => ?_, ?_⟩
  ·
   obtain ⟨k, rfl⟩ : ∃ q, k = q + 1 := ⟨k - 1, by omega⟩
   simp only [slices_IndexFunc_at_plan_places_1.l0]
   rw [if_neg z5]
  ·
   rw [List.drop_eq_nil_iff.2 z5]; simp
 | succ j ih =>
  intro i hi
  obtain ⟨r, h1, h2⟩ := ih (i + 1) z5
  have hd : l0.drop i = rd l0 (i : Int) :: l0.drop (i + 1) := by
   rw [List.drop_eq_getElem_cons z5]
   congr 1
   show _ = l0.getD ((i : Int).toNat) 0
   rw [Int.toNat_natCast, List.getD_eq_getElem?_getD, List.getElem?_eq_getElem z5]; rfl
  have hw : wrap64 ((i : Int) + 1) = ((i + 1 : Nat) : Int) := by unfold wrap64; omega
  by_cases hc : decide (rd l0 (i : Int) < 0 ∨ rd l0 (i : Int) ≥ m) = true
  ·
   refine ⟨i, fun k hk => ?_, ?_⟩
   ·
    obtain ⟨k, rfl⟩ : ∃ q, k = q + 1 := ⟨k - 1, by omega⟩
    simp only [slices_IndexFunc_at_plan_places_1.l0]
    rw [if_pos z5, if_pos z5, if_pos z5, if_pos hc]
   ·
    rw [hd, List.any_cons, hc]; simp
  ·
   refine ⟨r, fun k hk => ?_, ?_⟩
   ·
    obtain ⟨k, rfl⟩ : ∃ q, k = q + 1 := ⟨k - 1, by omega⟩
    simp only [slices_IndexFunc_at_plan_places_1.l0]
    rw [if_pos z5, if_pos z5, if_pos z5, if_neg hc, hw]
    exact h1 k z5
   ·
    rw [hd, List.any_cons, Bool.eq_false_iff.mpr hc, Bool.false_or]; exact h2
set_option maxHeartbeats 8000000 in
set_option maxRecDepth 100000 in
theorem contains_places_calls (A0 : Option Addr) (c0 : Nat) (l0 : List Int) (m : Int) (w : World) {gb : Nat} (hr0 : Kd.C (Kd.int .i64) w A0 l0.length l0) (hc0 : l0.length ≤ c0) (hl : l0.length ≤ 9000000000000000000)
  (hg : w.heap[gb]? = some (.cells #[.int .i64 m] 3 (0, 0))) :
  Calls Try.prog 47 #[.slice A0 l0.length c0, .func (.func 70) #[] #[.pointer (some ⟨gb, 0, none⟩)]] w fun e w' => e = .returned (.bool (l0.any fun c => decide (c < 0 ∨ c ≥ m))) ∧ Drawn0 w w' := by
 obtain ⟨x, h1, h2⟩ := slices_IndexFunc_at_plan_places_1.ends l0 m hl l0.length 0 z5
 have A3 := mk_ (h1 (l0.length + 1) z5)
 have hb : (decide (x ≥ 0)) = (l0.any fun c => decide (c < 0 ∨ c ≥ m)) := by
  rw [List.drop_zero] at h2
  cases hz : (l0.any fun c => decide (c < 0 ∨ c ≥ m))
  ·
   rw [hz] at h2; simpa using h2
  ·
   rw [hz] at h2; simpa using h2
 rw [← hb]
 clear h1 h2 hb
 have HR0 := mk_ hr0
 have HC0 := mk_ hc0
 have HG := mk_ hg
 clear hr0 hc0 hg
 go_enter Try.func47, Try.ntmps47
 go_wp2_with (first | ((with_reducible refine gate_callee (f := 57) rfl ?_); refine goesL_ (some 7) rfl rfl Try.func57 z1 rfl #[.slice A0 l0.length c0, .func (.func 70) #[] #[.pointer (some ⟨gb, 0, none⟩)]] rfl (by first | rfl | (go_simp; done)) ?_; (refine (slices_IndexFunc_at_plan_places_1.calls (l0.length + 1) _ _ l0 m gb x _ ?side1 ?side2 ?side3 A3.out).mono ?_); (case side1 => repeat (first | exact HR0.out | (with_reducible refine C_drewN ?_ _) | (with_reducible refine C_drew ?_))); (case side2 => exact HC0.out); (case side3 => (with_reducible repeat (first | refine blk_drewN ?_ _ | refine blk_drew ?_)); exact HG.out); rintro e w' ⟨rfl, ⟨nd, rfl⟩⟩; refine ⟨_, rfl, ?_⟩))
 go_ret
 exact ⟨z9, by repeat (first | exact Drawn0.refl _ | apply Drawn0.step)⟩
theorem places_any (l : List Int) (m : Nat) : (!(l.any fun c => decide (c < 0 ∨ c ≥ (m : Int)))) = places l m := by
 unfold places
 induction l with
 | nil => rfl
 | cons x l ih =>
  rw [List.any_cons, List.all_cons, Bool.not_or, ih]
  congr 1
  by_cases h : x < 0 ∨ x ≥ (m : Int)
  ·
   rw [decide_eq_true h, decide_eq_false z5]; rfl
  ·
   rw [decide_eq_false h, decide_eq_true z5]; rfl
set_option maxHeartbeats 8000000 in
set_option maxRecDepth 100000 in
theorem places_calls (A0 : Option Addr) (c0 : Nat) (l0 : List Int) (m : Nat) (w : World) (hr0 : Kd.C (Kd.int .i64) w A0 l0.length l0) (hc0 : l0.length ≤ c0) (hl : l0.length ≤ 9000000000000000000) :
  Calls Try.prog 60 #[.slice A0 l0.length c0, .int .i64 (m : Int)] w fun e w' => e = .returned (.bool (places l0 m)) ∧ Below w.heap.size w w' := by
 rw [← places_any l0 m]
 obtain ⟨b, hb⟩ : ∃ b, (l0.any fun c => decide (c < 0 ∨ c ≥ (m : Int))) = b := ⟨_, rfl⟩
 rw [hb]
 have HB0 := mk_ hb
 clear hb
 have HR0 := mk_ hr0
 have HC0 := mk_ hc0
 clear hr0 hc0
 go_enter Try.func60, Try.ntmps60
 go_wp2_with (go_at_call 47; refine (contains_places_calls A0 c0 l0 (m : Int) _ (gb := w.heap.size) (C_below HR0.out (below_alloc (Below.refl _ _) _)) HC0.out hl (blk_new w _)).mono ?_; rw [HB0.out]; rintro e w' ⟨rfl, ⟨nd, rfl⟩⟩)
 go_ret
 exact ⟨rfl, pw_below_drewN (below_alloc (Below.refl _ _) _) _⟩
end Go.Proofs.Ytimbbaoodjhdoaa.Plan
end
section
namespace Go.Proofs.Ytimbbaoodjhdoaa.PAll
open Go.RowKit Go.Proofs.YtimbbaoodjhdoaaW.PrintWords Go.Proofs.YtimbbaoodjhdoaaW.PrintLast Go.Proofs.YtimbbaoodjhdoaaW.PrintMore Go.Proofs.Ytimbbaoodjhdoaa.ZipT Go.Proofs.YtimbbaoodjhdoaaW.PrintWords.Kd Go.Proofs.YtimbbaoodjhdoaaW.PrintMore.Kd
attribute [local go_sem] max2_int min2_int max_two min_two max_three min_three max_four min_four   -- for this text's walks alone
set_option linter.unusedVariables false
set_option linter.unusedSimpArgs false
def plan_pick.l0 : Nat → List Int → List Int → List Int → Int → Int → Option (List Int)
 | 0, _, _, _, _, _ => none
 | k + 1, x0, x5, x8, x9, x10 => if x10 < x9 then (if 0 ≤ x10 then (if x10 < (x8.length : Int) then (if 0 ≤ (rd x8 x10) then (if (rd x8 x10) < (x0.length : Int) then (if x5.length < 17592186044416 then (plan_pick.l0 k x0 (x5 ++ [rd x0 (rd x8 x10)]) x8 x9 (wrap64 (x10 + 1))) else (none)) else (none)) else (none)) else (none)) else (none)) else (some x5)
def plan_pick.f (k : Nat) (l0 : List Int) (l1 : List Int) : Option (List Int) := plan_pick.l0 k l0 ([] : List Int) l1 (l1.length : Int) 0
set_option maxHeartbeats 8000000 in
set_option maxRecDepth 100000 in
theorem plan_pick.calls (k : Nat) (A0 : Option Addr) (c0 : Nat) (l0 : List Int) (A1 : Option Addr) (c1 : Nat) (l1 : List Int) (r : List Int) (w : World) (hr0 : Kd.C (Kd.int .i64) w A0 l0.length l0) (hc0 : l0.length ≤ c0) (hr1 : Kd.C (Kd.int .i64) w A1 l1.length l1) (hc1 : l1.length ≤ c1) (h : plan_pick.f k l0 l1 = some r) :
  Calls Try.prog 61 #[.slice A0 l0.length c0, .slice A1 l1.length c1] w fun e w' => ∃ v0_ : Value, e = .returned (v0_) ∧ Kd.R (Kd.int .i64) 3 w' w.heap.size (fun _ => True) v0_ r ∧ Below w.heap.size w w' := by
 have HR0 := mk_ hr0
 have HC0 := mk_ hc0
 clear hr0 hc0
 have HR1 := mk_ hr1
 have HC1 := mk_ hc1
 clear hr1 hc1
 have HB := mk_ (Below.refl w.heap.size w)
 have H : (plan_pick.l0 k l0 ([] : List Int) l1 (l1.length : Int) 0) = some r := h
 clear h
 have H' := mk_ H
 clear H
 go_enter Try.func61, Try.ntmps61
 go_wp2
 go_loopg [5, 10] k (fun kq v5 v10 w' => ∃ (x5_1 : List Int) (x10_1 : Int), v10 = .int .i64 x10_1 ∧ Aside0 (plan_pick.l0 kq l0 x5_1 l1 (l1.length : Int) x10_1 = some r) ∧ Aside0 (kq ≤ k) ∧ Aside0 (Kd.R (Kd.int .i64) 3 w' w.heap.size (fun _ => True) v5 x5_1) ∧ Aside0 (Below w.heap.size w w'))
 case atStart => exact ⟨(([] : List Int)), (0), z9, H', ⟨Nat.le_refl _⟩, ⟨by first | exact R_nil _ _ _ _ _ | exact N_nil _ _ _ _ _ | exact V_nil _ _ _ _ _ | exact Q_nil _ _ _ _ _ | exact S_nil _ _ _ _ _⟩, ⟨Short.hB HB⟩⟩
 case round =>
  clear H'
  try clear c1
  try clear p2
  obtain ⟨x5_1, x10_1, rfl, HA, HK1, HO_5, HB⟩ := hrel
  cases gk with
  | zero => exact absurd HA.out (by simp [plan_pick.l0])
  | succ k1 =>
   have H := HA.out
   clear HA
   simp only [plan_pick.l0] at H
   by_cases c3 : x10_1 < (l1.length : Int)
   ·
    rw [if_pos c3] at H
    have c3b0 : decide (x10_1 < (l1.length : Int)) = true := decide_eq_true c3
    clear c3
    by_cases c4 : 0 ≤ x10_1
    ·
     rw [if_pos c4] at H
     have c4b0 : decide (0 ≤ x10_1) = true := decide_eq_true c4
     clear c4
     by_cases c5 : x10_1 < (l1.length : Int)
     ·
      rw [if_pos c5] at H
      have c5b0 : decide (x10_1 < (l1.length : Int)) = true := decide_eq_true c5
      clear c5
      by_cases c6 : 0 ≤ (rd l1 x10_1)
      ·
       rw [if_pos c6] at H
       have c6b0 : decide (0 ≤ (rd l1 x10_1)) = true := decide_eq_true c6
       clear c6
       by_cases c7 : (rd l1 x10_1) < (l0.length : Int)
       ·
        rw [if_pos c7] at H
        have c7b0 : decide ((rd l1 x10_1) < (l0.length : Int)) = true := decide_eq_true c7
        clear c7
        by_cases c8 : x5_1.length < 17592186044416
        ·
         rw [if_pos c8] at H
         have LMc8 := mk_ c8
         clear c8
         obtain ⟨y259, hy259⟩ : ∃ y_ : List Int, y_ = (x5_1 ++ [rd l0 (rd l1 x10_1)]) := ⟨_, rfl⟩
         replace H : (plan_pick.l0 k1 l0 y259 l1 (l1.length : Int) (wrap64 (x10_1 + 1))) = some r := by first | (rw [hy259]; with_reducible exact H) | (have H2_ := (Option.bind_some _ _).symm.trans H; rw [hy259]; with_reducible exact H2_) | (have H2_ := (Option.bind_some _ _).symm.trans H; with_reducible exact H2_) | with_reducible exact H | (rw [hy259]; exact H) | exact H
         have Ny259 := mk_ hy259
         clear hy259
         have H' := mk_ H
         clear H
         have p257 : 0 ≤ (x10_1 : Int) := of_decide_eq_true z4
         have q257 : x10_1 < (l1.length : Int) := of_decide_eq_true z4
         obtain ⟨ad257, e257, hx257_0⟩ := Kd.at_int HR1.out x10_1 p257 q257
         cases e257
         replace hx257_0 := (HB.out.cell (World.block_lt_of_cell? w _ hx257_0)).trans hx257_0
         replace p257 := eq_true p257
         replace q257 := eq_true q257
         have p258 : 0 ≤ ((rd l1 x10_1) : Int) := of_decide_eq_true z4
         have q258 : (rd l1 x10_1) < (l0.length : Int) := of_decide_eq_true z4
         obtain ⟨ad258, e258, hx258_0⟩ := Kd.at_int HR0.out (rd l1 x10_1) p258 q258
         cases e258
         replace hx258_0 := (HB.out.cell (World.block_lt_of_cell? w _ hx258_0)).trans hx258_0
         replace p258 := eq_true p258
         replace q258 := eq_true q258
         go_wp2_with (first | ((with_reducible refine gate_builtin (b := .append) (xs := #[.tmp 14, .tmp 19]) rfl ?_); at_builtin; refine R_append (Kd.int .i64) (w0 := w) w.heap.size rfl (.tmp 14) (.tmp 19) 32 3 (.int .i64 0) 8 rfl Try.underlying32 info3 rfl z10 z5 u5 x5_1 (rd l0 (rd l1 x10_1)) [.int .i64 (rd l0 (rd l1 x10_1))] (fun _ => True) (fun _ => False) rfl rfl ?aP (fun _ hk => hk.elim) ?aF ?aO ?aB ?aS ?aL ?_; (case aP => exact rfl); (case aB => exact (Short.hB HB)); (case aF => exact (fun _ _ => trivial)); (case aO => exact (ZKR HO_5)); (case aS => exact (below_size (Short.hB HB))); (case aL => have := LMc8.out; omega); intro v260 w9 ho hb hg hat; rw [← Ny259.out] at ho; have n0_ := mk_ (hb); have n1_ := mk_ (ho); clear HB HO_5; revert n0_ n1_; intro HB HO261; clear ho hb hg hat))
         go_roundg k1
         case measure => have := HK1.out; omega
         case rel => exact ⟨(y259), (wrap64 (x10_1 + 1)), z9, H', ⟨by have := HK1.out; omega⟩, ⟨by (with_reducible repeat (first | apply R_alloc | apply R_drewN | apply R_drew)); exact HO261.out⟩, ⟨Short.hB HB⟩⟩
        ·
         rw [if_neg c8] at H
         exact absurd H (by simp)
       ·
        rw [if_neg c7] at H
        exact absurd H (by simp)
      ·
       rw [if_neg c6] at H
       exact absurd H (by simp)
     ·
      rw [if_neg c5] at H
      exact absurd H (by simp)
    ·
     rw [if_neg c4] at H
     exact absurd H (by simp)
   ·
    rw [if_neg c3] at H
    have c3b0 : decide (x10_1 < (l1.length : Int)) = false := decide_eq_false c3
    clear c3
    obtain rfl := Option.some.inj H
    go_wp2
    go_ret
    exact ⟨_, by first | rfl | (simp [errW_none, errW_some] <;> rfl) | (simp [*, errW_none, errW_some] <;> rfl), by (with_reducible repeat (first | apply R_alloc | apply R_drewN | apply R_drew)); exact HO_5.out, Short.hB HB⟩
def slices_Equal_int_int.l0 : Nat → List Int → List Int → Int → Int → Option (Bool)
 | 0, _, _, _, _ => none
 | k + 1, x0, x1, x12, x13 => if x13 < x12 then (if 0 ≤ x13 then (if x13 < (x0.length : Int) then (if x13 < (x1.length : Int) then (if (rd x0 x13) = (rd x1 x13) then (slices_Equal_int_int.l0 k x0 x1 x12 (wrap64 (x13 + 1))) else (some false)) else (none)) else (none)) else (none)) else (some true)
def slices_Equal_int_int.f (k : Nat) (l0 : List Int) (l1 : List Int) : Option (Bool) := if (l0.length : Int) = (l1.length : Int) then (slices_Equal_int_int.l0 k l0 l1 (l0.length : Int) 0) else (some false)
set_option maxHeartbeats 8000000 in
set_option maxRecDepth 100000 in
theorem slices_Equal_int_int.calls (k : Nat) (A0 : Option Addr) (c0 : Nat) (l0 : List Int) (A1 : Option Addr) (c1 : Nat) (l1 : List Int) (r : Bool) (w : World) (hr0 : Kd.C (Kd.int .i64) w A0 l0.length l0) (hc0 : l0.length ≤ c0) (hr1 : Kd.C (Kd.int .i64) w A1 l1.length l1) (hc1 : l1.length ≤ c1) (h : slices_Equal_int_int.f k l0 l1 = some r) :
  Calls Try.prog 62 #[.slice A0 l0.length c0, .slice A1 l1.length c1] w fun e w' => e = .returned (.bool r) ∧ Drawn0 w w' := by
 have HR0 := mk_ hr0
 have HC0 := mk_ hc0
 clear hr0 hc0
 have HR1 := mk_ hr1
 have HC1 := mk_ hc1
 clear hr1 hc1
 have H : (if (l0.length : Int) = (l1.length : Int) then (slices_Equal_int_int.l0 k l0 l1 (l0.length : Int) 0) else (some false)) = some r := h
 clear h
 by_cases c3 : (l0.length : Int) = (l1.length : Int)
 ·
  rw [if_pos c3] at H
  have c3b0 : ((l0.length : Int) == (l1.length : Int)) = true := beq_iff_eq.mpr c3
  have c3b1 : ((l0.length : Int) != (l1.length : Int)) = false := bne_eq_false_iff_eq.mpr c3
  have c3b2 : (l0.length == l1.length) = true := by first | simpa using c3 | (simp at c3 ⊢; omega)
  clear c3
  have H' := mk_ H
  clear H
  go_enter Try.func62, Try.ntmps62
  go_wp2
  repeat (go_quiet (fail); try go_wp2)
  go_loopg [13] k (fun kq v13 w' => ∃ (x13_1 : Int), v13 = .int .i64 x13_1 ∧ Aside0 (slices_Equal_int_int.l0 kq l0 l1 (l0.length : Int) x13_1 = some r) ∧ Aside0 (kq ≤ k) ∧ Drawn0 w w')
  case atStart => exact ⟨(0), z9, H', ⟨Nat.le_refl _⟩, by repeat (first | exact Drawn0.refl _ | apply Drawn0.step)⟩
  case round =>
   clear H'
   try clear c1
   try clear p2
   try clear c3
   try clear c3b0
   try clear c3b1
   try clear c3b2
   obtain ⟨x13_1, rfl, HA, HK1, ⟨m1, rfl⟩⟩ := hrel
   cases gk with
   | zero => exact absurd HA.out (by simp [slices_Equal_int_int.l0])
   | succ k1 =>
    have H := HA.out
    clear HA
    simp only [slices_Equal_int_int.l0] at H
    by_cases c4 : x13_1 < (l0.length : Int)
    ·
     rw [if_pos c4] at H
     have c4b0 : decide (x13_1 < (l0.length : Int)) = true := decide_eq_true c4
     clear c4
     by_cases c5 : 0 ≤ x13_1
     ·
      rw [if_pos c5] at H
      have c5b0 : decide (0 ≤ x13_1) = true := decide_eq_true c5
      clear c5
      by_cases c6 : x13_1 < (l0.length : Int)
      ·
       rw [if_pos c6] at H
       have c6b0 : decide (x13_1 < (l0.length : Int)) = true := decide_eq_true c6
       clear c6
       by_cases c7 : x13_1 < (l1.length : Int)
       ·
        rw [if_pos c7] at H
        have c7b0 : decide (x13_1 < (l1.length : Int)) = true := decide_eq_true c7
        clear c7
        by_cases c8 : (rd l0 x13_1) = (rd l1 x13_1)
        ·
         rw [if_pos c8] at H
         have c8b0 : ((rd l0 x13_1) == (rd l1 x13_1)) = true := beq_iff_eq.mpr c8
         have c8b1 : ((rd l0 x13_1) != (rd l1 x13_1)) = false := bne_eq_false_iff_eq.mpr c8
         clear c8
         have H' := mk_ H
         clear H
         have p266 : 0 ≤ (x13_1 : Int) := of_decide_eq_true z4
         have q266 : x13_1 < (l0.length : Int) := of_decide_eq_true z4
         obtain ⟨ad266, e266, hx266_0⟩ := Kd.at_int HR0.out x13_1 p266 q266
         cases e266
         replace p266 := eq_true p266
         replace q266 := eq_true q266
         have p267 : 0 ≤ (x13_1 : Int) := of_decide_eq_true z4
         have q267 : x13_1 < (l1.length : Int) := of_decide_eq_true z4
         obtain ⟨ad267, e267, hx267_0⟩ := Kd.at_int HR1.out x13_1 p267 q267
         cases e267
         replace p267 := eq_true p267
         replace q267 := eq_true q267
         go_wp2
         repeat (go_quiet (fail); try go_wp2)
         go_roundg k1
         case measure => have := HK1.out; omega
         case rel => exact ⟨(wrap64 (x13_1 + 1)), z9, H', ⟨by have := HK1.out; omega⟩, by repeat (first | exact Drawn0.refl _ | apply Drawn0.step)⟩
        ·
         rw [if_neg c8] at H
         have c8b0 : ((rd l0 x13_1) == (rd l1 x13_1)) = false := beq_eq_false_iff_ne.mpr c8
         have c8b1 : ((rd l0 x13_1) != (rd l1 x13_1)) = true := bne_iff_ne.mpr c8
         obtain rfl := Option.some.inj H
         have p266 : 0 ≤ (x13_1 : Int) := of_decide_eq_true z4
         have q266 : x13_1 < (l0.length : Int) := of_decide_eq_true z4
         obtain ⟨ad266, e266, hx266_0⟩ := Kd.at_int HR0.out x13_1 p266 q266
         cases e266
         replace p266 := eq_true p266
         replace q266 := eq_true q266
         have p267 : 0 ≤ (x13_1 : Int) := of_decide_eq_true z4
         have q267 : x13_1 < (l1.length : Int) := of_decide_eq_true z4
         obtain ⟨ad267, e267, hx267_0⟩ := Kd.at_int HR1.out x13_1 p267 q267
         cases e267
         replace p267 := eq_true p267
         replace q267 := eq_true q267
         go_wp2
         repeat (go_quiet (fail); try go_wp2)
         go_ret
         exact ⟨z9, by repeat (first | exact Drawn0.refl _ | apply Drawn0.step)⟩
       ·
        rw [if_neg c7] at H
        exact absurd H (by simp)
      ·
       rw [if_neg c6] at H
       exact absurd H (by simp)
     ·
      rw [if_neg c5] at H
      exact absurd H (by simp)
    ·
     rw [if_neg c4] at H
     have c4b0 : decide (x13_1 < (l0.length : Int)) = false := decide_eq_false c4
     clear c4
     obtain rfl := Option.some.inj H
     go_wp2
     repeat (go_quiet (fail); try go_wp2)
     go_ret
     exact ⟨z9, by repeat (first | exact Drawn0.refl _ | apply Drawn0.step)⟩
 ·
  rw [if_neg c3] at H
  have c3b0 : ((l0.length : Int) == (l1.length : Int)) = false := beq_eq_false_iff_ne.mpr c3
  have c3b1 : ((l0.length : Int) != (l1.length : Int)) = true := bne_iff_ne.mpr c3
  have c3b2 : (l0.length == l1.length) = false := by first | simpa using c3 | (simp at c3 ⊢; omega)
  obtain rfl := Option.some.inj H
  go_enter Try.func62, Try.ntmps62
  go_wp2
  repeat (go_quiet (fail); try go_wp2)
  go_ret
  exact ⟨z9, by repeat (first | exact Drawn0.refl _ | apply Drawn0.step)⟩
def bits_Mul64.f (a0 : Int) (a1 : Int) : Option (Int × Int) := some (IntKind.u64.wrap ((IntKind.u64.wrap ((IntKind.u64.wrap ((a0 / 4294967296) * (a1 / 4294967296))) + ((IntKind.u64.wrap ((IntKind.u64.wrap ((a0 / 4294967296) * (Go.bits .and .u64 a1 4294967295))) + ((IntKind.u64.wrap ((Go.bits .and .u64 a0 4294967295) * (Go.bits .and .u64 a1 4294967295))) / 4294967296))) / 4294967296))) + ((IntKind.u64.wrap ((Go.bits .and .u64 (IntKind.u64.wrap ((IntKind.u64.wrap ((a0 / 4294967296) * (Go.bits .and .u64 a1 4294967295))) + ((IntKind.u64.wrap ((Go.bits .and .u64 a0 4294967295) * (Go.bits .and .u64 a1 4294967295))) / 4294967296))) 4294967295) + (IntKind.u64.wrap ((Go.bits .and .u64 a0 4294967295) * (a1 / 4294967296))))) / 4294967296)), IntKind.u64.wrap (a0 * a1))
set_option maxHeartbeats 8000000 in
set_option maxRecDepth 100000 in
theorem bits_Mul64.calls (a0 : Int) (a1 : Int) (r1 : Int) (r2 : Int) (w : World) (h : bits_Mul64.f a0 a1 = some (r1, r2)) :
  Calls Try.prog 71 #[.int .u64 a0, .int .u64 a1] w fun e w' => e = .returned (.tuple #[.int .u64 r1, .int .u64 r2]) ∧ Drawn0 w w' := by
 have H : (some (IntKind.u64.wrap ((IntKind.u64.wrap ((IntKind.u64.wrap ((a0 / 4294967296) * (a1 / 4294967296))) + ((IntKind.u64.wrap ((IntKind.u64.wrap ((a0 / 4294967296) * (Go.bits .and .u64 a1 4294967295))) + ((IntKind.u64.wrap ((Go.bits .and .u64 a0 4294967295) * (Go.bits .and .u64 a1 4294967295))) / 4294967296))) / 4294967296))) + ((IntKind.u64.wrap ((Go.bits .and .u64 (IntKind.u64.wrap ((IntKind.u64.wrap ((a0 / 4294967296) * (Go.bits .and .u64 a1 4294967295))) + ((IntKind.u64.wrap ((Go.bits .and .u64 a0 4294967295) * (Go.bits .and .u64 a1 4294967295))) / 4294967296))) 4294967295) + (IntKind.u64.wrap ((Go.bits .and .u64 a0 4294967295) * (a1 / 4294967296))))) / 4294967296)), IntKind.u64.wrap (a0 * a1))) = some (r1, r2) := h
 clear h
 simp only [Option.some.injEq, Prod.mk.injEq] at H
 obtain ⟨rfl, rfl⟩ := H
 go_enter Try.func71, Try.ntmps71
 go_wp2
 go_ret2
 exact ⟨z9, by repeat (first | exact Drawn0.refl _ | apply Drawn0.step)⟩
def plan_times.f (a0 : Int) (a1 : Int) (a2 : Int) : Option (Int × Bool) := (bits_Mul64.f (IntKind.u64.wrap (a0)) (IntKind.u64.wrap (a1))).bind fun bt268 => (if bt268.1 > 0 then (some (0, false)) else (if bt268.2 > (IntKind.u64.wrap (a2)) then (some (0, false)) else (some (wrap64 (bt268.2), true))))
set_option maxHeartbeats 8000000 in
set_option maxRecDepth 100000 in
theorem plan_times.calls (a0 : Int) (a1 : Int) (a2 : Int) (r1 : Int) (r2 : Bool) (w : World) (h : plan_times.f a0 a1 a2 = some (r1, r2)) :
  Calls Try.prog 63 #[.int .i64 a0, .int .i64 a1, .int .i64 a2] w fun e w' => e = .returned (.tuple #[.int .i64 r1, .bool r2]) ∧ Drawn0 w w' := by
 have H : ((bits_Mul64.f (IntKind.u64.wrap (a0)) (IntKind.u64.wrap (a1))).bind fun bt268 => (if bt268.1 > 0 then (some (0, false)) else (if bt268.2 > (IntKind.u64.wrap (a2)) then (some (0, false)) else (some (wrap64 (bt268.2), true))))) = some (r1, r2) := h
 clear h
 replace H := Option.bind_eq_some_iff.mp H
 obtain ⟨⟨t268, t269⟩, A40, H⟩ := H
 replace H : (if t268 > 0 then (some (0, false)) else (if t269 > (IntKind.u64.wrap (a2)) then (some (0, false)) else (some (wrap64 (t269), true)))) = some (r1, r2) := H
 have A4 := mk_ A40
 clear A40
 by_cases c5 : t268 > 0
 ·
  rw [if_pos c5] at H
  have c5b0 : decide (0 < t268) = true := decide_eq_true c5
  clear c5
  simp only [Option.some.injEq, Prod.mk.injEq] at H
  obtain ⟨rfl, rfl⟩ := H
  go_enter Try.func63, Try.ntmps63
  go_wp2_with (first | ((with_reducible refine gate_callee (f := 71) rfl ?_); refine Short.gL (some 15) Try.func71 #[.int .u64 (IntKind.u64.wrap (a0)), .int .u64 (IntKind.u64.wrap (a1))] (h := ?_); (with_reducible refine (bits_Mul64.calls (IntKind.u64.wrap (a0)) (IntKind.u64.wrap (a1)) t268 t269 _ A4.out).mono ?_); rintro e w' ⟨rfl, ⟨nd, rfl⟩⟩; refine ⟨_, rfl, ?_⟩))
  go_ret2
  exact ⟨z9, by repeat (first | exact Drawn0.refl _ | apply Drawn0.step)⟩
 ·
  rw [if_neg c5] at H
  have c5b0 : decide (0 < t268) = false := decide_eq_false c5
  clear c5
  by_cases c6 : t269 > (IntKind.u64.wrap (a2))
  ·
   rw [if_pos c6] at H
   have c6b0 : decide ((IntKind.u64.wrap (a2)) < t269) = true := decide_eq_true c6
   clear c6
   simp only [Option.some.injEq, Prod.mk.injEq] at H
   obtain ⟨rfl, rfl⟩ := H
   go_enter Try.func63, Try.ntmps63
   go_wp2_with (first | ((with_reducible refine gate_callee (f := 71) rfl ?_); refine Short.gL (some 15) Try.func71 #[.int .u64 (IntKind.u64.wrap (a0)), .int .u64 (IntKind.u64.wrap (a1))] (h := ?_); (with_reducible refine (bits_Mul64.calls (IntKind.u64.wrap (a0)) (IntKind.u64.wrap (a1)) t268 t269 _ A4.out).mono ?_); rintro e w' ⟨rfl, ⟨nd, rfl⟩⟩; refine ⟨_, rfl, ?_⟩))
   go_ret2
   exact ⟨z9, by repeat (first | exact Drawn0.refl _ | apply Drawn0.step)⟩
  ·
   rw [if_neg c6] at H
   have c6b0 : decide ((IntKind.u64.wrap (a2)) < t269) = false := decide_eq_false c6
   clear c6
   simp only [Option.some.injEq, Prod.mk.injEq] at H
   obtain ⟨rfl, rfl⟩ := H
   go_enter Try.func63, Try.ntmps63
   go_wp2_with (first | ((with_reducible refine gate_callee (f := 71) rfl ?_); refine Short.gL (some 15) Try.func71 #[.int .u64 (IntKind.u64.wrap (a0)), .int .u64 (IntKind.u64.wrap (a1))] (h := ?_); (with_reducible refine (bits_Mul64.calls (IntKind.u64.wrap (a0)) (IntKind.u64.wrap (a1)) t268 t269 _ A4.out).mono ?_); rintro e w' ⟨rfl, ⟨nd, rfl⟩⟩; refine ⟨_, rfl, ?_⟩))
   go_ret2
   exact ⟨z9, by repeat (first | exact Drawn0.refl _ | apply Drawn0.step)⟩
def slices_Clone_int_int.f (l0 : List Int) : Option (List Int) := (some (([] : List Int) : List Int)).bind fun y304 => (if y304.length + l0.length < 17592186044416 then (some (y304 ++ l0)) else (none))
set_option maxHeartbeats 8000000 in
set_option maxRecDepth 100000 in
theorem slices_Clone_int_int.calls (A0 : Option Addr) (c0 : Nat) (l0 : List Int) (r : List Int) (w : World) (hr0 : Kd.C (Kd.int .i64) w A0 l0.length l0) (hc0 : l0.length ≤ c0) (h : slices_Clone_int_int.f l0 = some r) :
  Calls Try.prog 29 #[.slice A0 l0.length c0] w fun e w' => ∃ v0_ : Value, e = .returned (v0_) ∧ Kd.R (Kd.int .i64) 3 w' w.heap.size (fun _ => True) v0_ r ∧ Below w.heap.size w w' := by
 have HR0 := mk_ hr0
 have HC0 := mk_ hc0
 clear hr0 hc0
 cases A0 with
 | none =>
  have hl_ : l0 = [] := by
   rcases l0 with _ | ⟨x_, xs_⟩
   ·
    rfl
   ·
    obtain ⟨ad_, e_, _⟩ := HR0.out.2.2 (by simp)
    exact absurd e_ (by simp)
  subst hl_
  have hr_ : r = [] := by simpa [slices_Clone_int_int.f] using h.symm
  subst hr_
  have hnil_ := fun W : World => Lib.run_eql_slice_nil (P := Try.prog) W 32 3 none 0 c0 0 0 Try.underlying32
  go_enter Try.func29, Try.ntmps29
  go_wp2
  go_ret
  exact ⟨_, rfl, R_nil _ _ _ _ _, Below.refl _ _⟩
 | some a0_ =>
 have hnil_ := fun W : World => Lib.run_eql_slice_nil (P := Try.prog) W 32 3 (some a0_) l0.length c0 0 0 Try.underlying32
 have HB := mk_ (Below.refl w.heap.size w)
 have H : ((some (([] : List Int) : List Int)).bind fun y304 => (if y304.length + l0.length < 17592186044416 then (some (y304 ++ l0)) else (none))) = some r := h
 clear h
 obtain ⟨y304, hy304⟩ : ∃ y_ : List Int, y_ = (([] : List Int)) := ⟨_, rfl⟩
 replace H : (if y304.length + l0.length < 17592186044416 then (some (y304 ++ l0)) else (none)) = some r := by first | (rw [hy304]; with_reducible exact H) | (have H2_ := (Option.bind_some _ _).symm.trans H; rw [hy304]; with_reducible exact H2_) | (have H2_ := (Option.bind_some _ _).symm.trans H; with_reducible exact H2_) | with_reducible exact H | (rw [hy304]; exact H) | exact H
 have Ny304 := mk_ hy304
 clear hy304
 by_cases c2 : y304.length + l0.length < 17592186044416
 ·
  rw [if_pos c2] at H
  have LMc2 := mk_ c2
  clear c2
  obtain ⟨y307, hy307⟩ : ∃ y_ : List Int, y_ = (y304 ++ l0) := ⟨_, rfl⟩
  replace H : (some y307) = some r := by first | (rw [hy307]; with_reducible exact H) | (have H2_ := (Option.bind_some _ _).symm.trans H; rw [hy307]; with_reducible exact H2_) | (have H2_ := (Option.bind_some _ _).symm.trans H; with_reducible exact H2_) | with_reducible exact H | (rw [hy307]; exact H) | exact H
  have Ny307 := mk_ hy307
  clear hy307
  obtain rfl := Option.some.inj H
  go_enter Try.func29, Try.ntmps29
  go_wp2_with (first | ((with_reducible refine gate_dst (N := 5) rfl ?_); refine R_lit (Kd.int .i64) _ 3 ?hg (N := 5) ?hd (xs := ([] : List Int)) (inner := []) (ok := fun _ => True) (okp := fun _ => True) ?hr ?hp (fun _ hk => hk) trivial (Below.refl _ _) (Nat.le_refl _) (by simp) ?_; (case hd => rfl); (case hg => rfl); (case hr => first | (go_simp; done) | (go_simp; rfl)); (case hp => exact (Reps.none _ _)); intro v305 w3 ho4 hb hg_ hnew_; clear hg_ hnew_; (first | rw [← Ny304.out] at ho4 | (simp only [Int.reduceToNat] at ho4; rw [← Ny304.out] at ho4)); have n0_ := mk_ (R_lower ho4 (below_size (Short.hB HB))); have n1_ := mk_ (below_step (Short.hB HB) hb); clear HB; revert n0_ n1_; intro HO306 HB; clear hb ho4) | ((with_reducible refine gate_builtin (b := .append) (xs := #[.tmp 5, .tmp 6]) rfl ?_); at_builtin; refine R_append_rows (Kd.int .i64) (w0 := w) w.heap.size rfl (.tmp 5) (.tmp 6) 32 3 (.int .i64 0) 8 rfl Try.underlying32 info3 rfl z10 z5 v305 y304 l0 _ _ _ (fun _ => True) (fun _ => False) rfl rfl ?aO ?aR (fun _ _ h => h) (fun _ h => h.elim) ?aF ?aB ?aS ?aL ?_; (case aR => exact cX_ (C_below HR0.out HB.out)); (case aB => exact (Short.hB HB)); (case aF => exact (fun _ _ => trivial)); (case aO => exact (ZKR HO306)); (case aS => exact (below_size (Short.hB HB))); (case aL => have := LMc2.out; omega); intro v308 w5 ho hb hg hat; rw [← Ny307.out] at ho; have n0_ := mk_ (hb); have n1_ := mk_ (ho); clear HB HO306; revert n0_ n1_; intro HB HO309; clear ho hb hg hat))
  go_ret
  exact ⟨_, by first | rfl | (simp [errW_none, errW_some] <;> rfl) | (simp [*, errW_none, errW_some] <;> rfl), by (with_reducible repeat (first | apply R_alloc | apply R_drewN | apply R_drew)); exact HO309.out, Short.hB HB⟩
 ·
  rw [if_neg c2] at H
  exact absurd H (by simp)
end Go.Proofs.Ytimbbaoodjhdoaa.PAll
end
section
namespace Go.Proofs.Ytimbbaoodjhdoaa.Plain
open Go.RowKit Go.Proofs.Ytimbbaoodjhdoaa.PAll Go.Proofs.YtimbbaoodjhdoaaW.PrintWords Go.Proofs.YtimbbaoodjhdoaaW.PrintLast Go.Proofs.YtimbbaoodjhdoaaW.PrintMore Go.Proofs.Ytimbbaoodjhdoaa.ZipT Go.Proofs.YtimbbaoodjhdoaaW.PrintWords.Kd Go.Proofs.YtimbbaoodjhdoaaW.PrintMore.Kd
set_option linter.unusedVariables false
set_option linter.unusedSimpArgs false
abbrev V := S29
theorem dropL_lt {α : Type} {l : List α} {i : Nat} {v : α} {m : List α} (h : l.drop i = v :: m) : i < l.length := by
 rcases Nat.lt_or_ge i l.length with h1 | h1
 ·
  exact h1
 ·
  rw [List.drop_eq_nil_iff.2 h1] at h; cases h
theorem dropL_tail {α : Type} {l : List α} {i : Nat} {v : α} {m : List α} (h : l.drop i = v :: m) : l.drop (i + 1) = m := by
 rw [← List.drop_drop, h]; rfl
theorem dropL_end {α : Type} {l : List α} {i : Nat} (h : l.drop i = []) : l.length ≤ i := List.drop_eq_nil_iff.1 h
theorem rdT_drop {l : List V} {i : Nat} {v : V} {m : List V} (h : l.drop i = v :: m) : rd_T29 l (i : Int) = v := by
 show l.getD ((i : Int).toNat) _ = v
 rw [Int.toNat_natCast, List.getD_eq_getElem?_getD]
 have : l[i]? = (l.drop i)[0]? := by rw [List.getElem?_drop]; simp
 rw [this, h]; rfl
theorem rdI_drop {l : List Int} {i : Nat} {v : Int} {m : List Int} (h : l.drop i = v :: m) : rd l (i : Int) = v := rd_drop h
theorem V_ext {a b : V} (h0 : a.f0 = b.f0) (h1 : a.f1 = b.f1) (h2 : a.f2 = b.f2) : a = b := by cases a; cases b; simp_all
instance : DecidableEq V := fun a b => decidable_of_iff (a.f0 = b.f0 ∧ a.f1 = b.f1 ∧ a.f2 = b.f2) ⟨fun ⟨h0, h1, h2⟩ => V_ext h0 h1 h2, fun h => by subst h; exact ⟨rfl, rfl, rfl⟩⟩
def okV (v : V) : Prop := vOk v.f0 v.f1 v.f2
instance (v : V) : Decidable (okV v) := by unfold okV; infer_instance
end Go.Proofs.Ytimbbaoodjhdoaa.Plain
end
section
namespace Go.Proofs.Ytimbbaoodjhdoaa.Plain
open Go.RowKit Go.Proofs.Ytimbbaoodjhdoaa.PAll Go.Proofs.YtimbbaoodjhdoaaW.PrintWords Go.Proofs.YtimbbaoodjhdoaaW.PrintLast Go.Proofs.YtimbbaoodjhdoaaW.PrintMore Go.Proofs.Ytimbbaoodjhdoaa.ZipT Go.Proofs.YtimbbaoodjhdoaaW.PrintWords.Kd Go.Proofs.YtimbbaoodjhdoaaW.PrintMore.Kd
set_option linter.unusedVariables false
set_option linter.unusedSimpArgs false
theorem keepInts_l0 (a b : List Int) (ha : a.length ≤ 1000000) (hl : a.length = b.length) (m : List Int) : ∀ (k i : Nat), a.drop i = m → m.length < k →
  raddlekeep_Ints.l0 k a b (i : Int) = some (decide (m = b.drop i)) := by
 induction m with
 | nil =>
  intro k i h hk
  obtain ⟨k, rfl⟩ : ∃ j, k = j + 1 := ⟨k - 1, by omega⟩
  have h1 := dropL_end h
  simp only [raddlekeep_Ints.l0]
  rw [if_neg z5, List.drop_eq_nil_iff.2 z5]; simp
 | cons v m ih =>
  intro k i h hk
  obtain ⟨k, rfl⟩ : ∃ j, k = j + 1 := ⟨k - 1, by omega⟩
  have h1 := dropL_lt h
  simp only [raddlekeep_Ints.l0]
  cases hd : b.drop i with
  | nil => have h2 := dropL_end hd; omega
  | cons t n =>
   rw [if_pos z5, if_pos z5, if_pos z5, rdI_drop h, rdI_drop hd, w64 z5 z5]
   by_cases hz : v = t
   ·
    have := ih k (i + 1) (dropL_tail h) (by simp at hk; omega)
    rw [if_pos hz, show ((i : Int) + 1) = ((i + 1 : Nat) : Int) from rfl, this, dropL_tail hd, hz]
    simp
   ·
    rw [if_neg hz]
    simp [hz]
theorem keepInts_eq (k : Nat) (a b : List Int) (ha : a.length ≤ 1000000) (hk : a.length + 1 ≤ k) : raddlekeep_Ints.f k a b = some (decide (a = b)) := by
 unfold raddlekeep_Ints.f
 by_cases hl : (a.length : Int) = b.length
 ·
  rw [if_pos hl]
  exact keepInts_l0 a b ha z5 a k 0 rfl z5
 ·
  rw [if_neg hl, decide_eq_false (fun e => hl (by rw [e]))]
theorem twinInts_eq (l : List Int) (hl : l.length ≤ 1000000) : raddlekeep_TwinInts.f l = some l := by
 unfold raddlekeep_TwinInts.f
 simp only [List.length_nil, List.nil_append]
 rw [if_pos z5]
end Go.Proofs.Ytimbbaoodjhdoaa.Plain
end
section
namespace Go.Proofs.Ytimbbaoodjhdoaa.PAll
open Go.RowKit Go.Proofs.YtimbbaoodjhdoaaW.PrintWords Go.Proofs.YtimbbaoodjhdoaaW.PrintLast Go.Proofs.YtimbbaoodjhdoaaW.PrintMore Go.Proofs.Ytimbbaoodjhdoaa.ZipT Go.Proofs.YtimbbaoodjhdoaaW.PrintWords.Kd Go.Proofs.YtimbbaoodjhdoaaW.PrintMore.Kd
attribute [local go_sem] max2_int min2_int max_two min_two max_three min_three max_four min_four   -- for this text's walks alone
set_option linter.unusedVariables false
set_option linter.unusedSimpArgs false
mutual
def raddleref14_Pred.j0 : Nat → List Int → Bool → Int → Int → Int → Int → Int → ByteArray → Option (Int)
 | 0, _, _, _, _, _, _, _, _ => none
 | k + 1, x1, x5, x122000, x122001, x122002, x122003, x122004, x122005 => if x122000 = 1 then (raddleref14_Pred.j1 k x1 x5 true x122000 x122001 x122002 x122003 x122004 x122005) else (raddleref14_Pred.j1 k x1 x5 (x122000 == 2) x122000 x122001 x122002 x122003 x122004 x122005)
def raddleref14_Pred.j1 : Nat → List Int → Bool → Bool → Int → Int → Int → Int → Int → ByteArray → Option (Int)
 | 0, _, _, _, _, _, _, _, _, _ => none
 | k + 1, x1, x5, x6, x122000, x122001, x122002, x122003, x122004, x122005 => (raddleref14_in.f x122000 1 6).bind fun t122 => (if t122 = true then ((raddleref14_in.f x122001 0 (wrap64 ((x1.length : Int) - 1))).bind fun t123 => (if t123 = true then (if x5 = true then ((raddleref14_in.f x122002 0 (wrap64 ((x1.length : Int) - 1))).bind fun t124 => (if t124 = true then (if x6 = true then ((raddleref01_Value.f x122003 x122004 x122005).bind fun t125 => (raddleref14_Pred.j2 k x1 x5 x6 (!t125) x122000 x122001 x122002 x122003 x122004 x122005)) else (raddleref14_Pred.j2 k x1 x5 x6 false x122000 x122001 x122002 x122003 x122004 x122005)) else (raddleref14_Pred.j2 k x1 x5 x6 true x122000 x122001 x122002 x122003 x122004 x122005))) else (if x6 = true then ((raddleref01_Value.f x122003 x122004 x122005).bind fun t126 => (raddleref14_Pred.j2 k x1 x5 x6 (!t126) x122000 x122001 x122002 x122003 x122004 x122005)) else (raddleref14_Pred.j2 k x1 x5 x6 false x122000 x122001 x122002 x122003 x122004 x122005))) else (raddleref14_Pred.j2 k x1 x5 x6 true x122000 x122001 x122002 x122003 x122004 x122005))) else (raddleref14_Pred.j2 k x1 x5 x6 true x122000 x122001 x122002 x122003 x122004 x122005))
def raddleref14_Pred.j2 : Nat → List Int → Bool → Bool → Bool → Int → Int → Int → Int → Int → ByteArray → Option (Int)
 | 0, _, _, _, _, _, _, _, _, _, _ => none
 | k + 1, x1, x5, x6, x56, x122000, x122001, x122002, x122003, x122004, x122005 => if x56 = true then (some 1) else (if x6 = true then (if 0 ≤ x122001 then (if x122001 < (x1.length : Int) then ((raddleref01_Fits.f x122003 x122004 x122005 (rd x1 x122001)).bind fun t128 => (if t128 = true then (if x5 = true then (if 0 ≤ x122002 then (if x122002 < (x1.length : Int) then (if (rd x1 x122002) = (rd x1 x122001) then (some 0) else (some 10)) else (none)) else (none)) else (some 0)) else (some 10))) else (none)) else (none)) else (if x5 = true then (if 0 ≤ x122002 then (if x122002 < (x1.length : Int) then (if 0 ≤ x122001 then (if x122001 < (x1.length : Int) then (if (rd x1 x122002) = (rd x1 x122001) then (some 0) else (some 10)) else (none)) else (none)) else (none)) else (none)) else (some 0)))
end
def raddleref14_Pred.f (k : Nat) (a0_0 : Int) (a0_1 : Int) (a0_2 : Int) (a0_3 : Int) (a0_4 : Int) (a0_5 : ByteArray) (l1 : List Int) : Option (Int) := if a0_0 = 3 then (raddleref14_Pred.j0 k l1 true a0_0 a0_1 a0_2 a0_3 a0_4 a0_5) else (raddleref14_Pred.j0 k l1 (a0_0 == 4) a0_0 a0_1 a0_2 a0_3 a0_4 a0_5)
def raddleref14_Pred.T5 : Bool × List (List Nat × List Nat) := (true, [([], []), ([0], [0]), ([1], [1]), ([2, 1], [1, 2]), ([1], [1]), ([1], [1]), ([5, 1], [1, 5]), ([4, 6, 1], [1, 4, 6]), ([7, 1], [1, 7]), ([3, 8, 1, 1], [1, 3, 8]), ([9, 1], [1, 9]), ([1, 10], [1, 10]), ([11, 9], [11]), ([12], [12]), ([13, 12, 12], [12, 13]), ([14], [14]), ([14], [14]), ([16, 14], [14, 16]), ([15, 17, 14], [14, 15, 17]), ([18, 14], [14, 18]), ([14], [14]), ([14], [14]), ([21, 14], [14, 21]), ([20, 22, 14], [14, 20, 22]), ([23, 14], [14, 23]), ([19, 24, 14], [14, 19, 24]), ([14, 25, 12], [12, 14, 25]), ([12, 26], [12, 26])])
def raddleref14_Pred.B5 : List Nat := [0, 1, 3, 7, 3, 3, 35, 115, 243, 511, 1023, 2047, 4095, 8191, 16383, 32767, 32767, 98303, 262143, 524287, 32767, 32767, 2129919, 7372799, 15761407, 33554431, 67108863, 134217727]
theorem raddleref14_Pred.tab5 : rtab .any (opsOf Try.f36 5) = raddleref14_Pred.T5 := by kernel_rfl
theorem raddleref14_Pred.bits5 : waitsOk raddleref14_Pred.T5.2 raddleref14_Pred.B5 = true := by kernel_rfl
set_option maxHeartbeats 8000000 in
set_option maxRecDepth 100000 in
theorem raddleref14_Pred.calls (k : Nat) (a0_0 : Int) (a0_1 : Int) (a0_2 : Int) (a0_3 : Int) (a0_4 : Int) (a0_5 : ByteArray) (A1 : Option Addr) (c1 : Nat) (l1 : List Int) (r : Int) (w : World) (hr1 : Kd.C (Kd.int .i64) w A1 l1.length l1) (hc1 : l1.length ≤ c1) (h : raddleref14_Pred.f k a0_0 a0_1 a0_2 a0_3 a0_4 a0_5 l1 = some r) :
  Calls Try.prog 36 #[.agg #[.int .i64 a0_0, .int .i64 a0_1, .int .i64 a0_2, .int .i64 a0_3, .int .i64 a0_4, .string a0_5], .slice A1 l1.length c1] w fun e w' => e = .returned (.int .i64 r) ∧ Below w.heap.size w w' := by
 have hu31 := Try.underlying31
 have hu29 := Try.underlying29
 have HR1 := mk_ hr1
 have HC1 := mk_ hc1
 clear hr1 hc1
 have HB := mk_ (Below.refl w.heap.size w)
 have H : (if a0_0 = 3 then (raddleref14_Pred.j0 k l1 true a0_0 a0_1 a0_2 a0_3 a0_4 a0_5) else (raddleref14_Pred.j0 k l1 (a0_0 == 4) a0_0 a0_1 a0_2 a0_3 a0_4 a0_5)) = some r := h
 clear h
 have HC3 := mk_ H
 clear H
 go_enter Try.func36, Try.ntmps36
 go_upto_region 1 with (first | ((with_reducible refine gate_dst (N := 2) rfl ?_); (try (refine gate_guard z12 ?_; dsimp only)); refine box_event ?hg (N := 2) ?hd (cs := #[.int .i64 a0_0, .int .i64 a0_1, .int .i64 a0_2, .int .i64 a0_3, .int .i64 a0_4, .string a0_5]) (t := 31) ?hr ?_; (case hd => rfl); (case hg => rfl); (case hr => first | (go_simp; done) | (go_simp; rfl)); intro gb121 hg w4 hbox hb; have n0_ := mk_ (below_step (Short.hB HB) hb); have n1_ := mk_ (hbox); have n2_ := mk_ ((by rw [hg]; exact (below_size (Short.hB HB)) : w.heap.size ≤ gb121)); have n3_ := mk_ ((by rw [hg]; exact (below_size (Short.hB HB)) : w.heap.size ≤ gb121)); clear HB; revert n0_ n1_ n2_ n3_; intro HB BK121 GW121 GE121; clear hb hbox hg))
 (try simp only [Act.put, List.setIfInBounds_toArray, List.set_cons_zero, List.set_cons_succ])
 go_cut [5] (fun v5 wc => ∃ (kq : Nat) (x5_2 : Bool), v5 = .bool x5_2 ∧ Aside0 (raddleref14_Pred.j0 kq l1 x5_2 a0_0 a0_1 a0_2 a0_3 a0_4 a0_5 = some r) ∧ Aside0 (kq ≤ k) ∧ Aside0 (wc.heap[gb121]? = some (.cells #[.int .i64 a0_0, .int .i64 a0_1, .int .i64 a0_2, .int .i64 a0_3, .int .i64 a0_4, .string a0_5] 31 (0, 0))) ∧ Aside0 (Below w.heap.size w wc))
 case first =>
  have H := HC3.out
  clear HC3
  by_cases c5 : a0_0 = 3
  ·
   rw [if_pos c5] at H
   have c5b0 : (a0_0 == 3) = true := beq_iff_eq.mpr c5
   have c5b1 : (a0_0 != 3) = false := bne_eq_false_iff_eq.mpr c5
   clear c5
   (first | rw [c5b0] | (simp only [i64_w, i32_w]; rw [c5b0]) | skip)
   have H' := mk_ H
   clear H
   have hcz6_0 : w4.cell? ⟨gb121, 0, none⟩ = some (.int .i64 a0_0) := (blk_cell BK121.out 0).trans rfl
   have hcz6_1 : w4.cell? ⟨gb121, 1, none⟩ = some (.int .i64 a0_1) := (blk_cell BK121.out 1).trans rfl
   have hcz6_2 : w4.cell? ⟨gb121, 2, none⟩ = some (.int .i64 a0_2) := (blk_cell BK121.out 2).trans rfl
   have hcz6_3 : w4.cell? ⟨gb121, 3, none⟩ = some (.int .i64 a0_3) := (blk_cell BK121.out 3).trans rfl
   have hcz6_4 : w4.cell? ⟨gb121, 4, none⟩ = some (.int .i64 a0_4) := (blk_cell BK121.out 4).trans rfl
   have hcz6_5 : w4.cell? ⟨gb121, 5, none⟩ = some (.string a0_5) := (blk_cell BK121.out 5).trans rfl
   have hfz6_0 := blk_frozen BK121.out 0
   have hfz6_1 := blk_frozen BK121.out 1
   have hfz6_2 := blk_frozen BK121.out 2
   have hfz6_3 := blk_frozen BK121.out 3
   have hfz6_4 := blk_frozen BK121.out 4
   have hfz6_5 := blk_frozen BK121.out 5
   go_wp2
   go_meet
   case rel => exact ⟨_, (true), z9, H', ⟨by first | omega | exact Nat.le_refl _⟩, ⟨by (with_reducible repeat (first | refine blk_drewN ?_ _ | refine blk_drew ?_ | refine blk_alloc ?_ _)); exact BK121.out⟩, ⟨Short.hB HB⟩⟩
  ·
   rw [if_neg c5] at H
   have c5b0 : (a0_0 == 3) = false := beq_eq_false_iff_ne.mpr c5
   have c5b1 : (a0_0 != 3) = true := bne_iff_ne.mpr c5
   (first | rw [c5b0] | (simp only [i64_w, i32_w]; rw [c5b0]) | skip)
   have H' := mk_ H
   clear H
   have hcz7_0 : w4.cell? ⟨gb121, 0, none⟩ = some (.int .i64 a0_0) := (blk_cell BK121.out 0).trans rfl
   have hcz7_1 : w4.cell? ⟨gb121, 1, none⟩ = some (.int .i64 a0_1) := (blk_cell BK121.out 1).trans rfl
   have hcz7_2 : w4.cell? ⟨gb121, 2, none⟩ = some (.int .i64 a0_2) := (blk_cell BK121.out 2).trans rfl
   have hcz7_3 : w4.cell? ⟨gb121, 3, none⟩ = some (.int .i64 a0_3) := (blk_cell BK121.out 3).trans rfl
   have hcz7_4 : w4.cell? ⟨gb121, 4, none⟩ = some (.int .i64 a0_4) := (blk_cell BK121.out 4).trans rfl
   have hcz7_5 : w4.cell? ⟨gb121, 5, none⟩ = some (.string a0_5) := (blk_cell BK121.out 5).trans rfl
   have hfz7_0 := blk_frozen BK121.out 0
   have hfz7_1 := blk_frozen BK121.out 1
   have hfz7_2 := blk_frozen BK121.out 2
   have hfz7_3 := blk_frozen BK121.out 3
   have hfz7_4 := blk_frozen BK121.out 4
   have hfz7_5 := blk_frozen BK121.out 5
   go_wp2
   go_meet
   case rel => exact ⟨_, ((a0_0 == 4)), z9, H', ⟨by first | omega | exact Nat.le_refl _⟩, ⟨by (with_reducible repeat (first | refine blk_drewN ?_ _ | refine blk_drew ?_ | refine blk_alloc ?_ _)); exact BK121.out⟩, ⟨Short.hB HB⟩⟩
 case rest => as_aux_lemma =>
  clear HC3
  try clear c1
  try clear p2
  try clear c3
  try clear c5
  try clear c5b0
  try clear c5b1
  try clear hcz6_0
  try clear hcz6_1
  try clear hcz6_2
  try clear hcz6_3
  try clear hcz6_4
  try clear hcz6_5
  try clear hcz7_0
  try clear hcz7_1
  try clear hcz7_2
  try clear hcz7_3
  try clear hcz7_4
  try clear hcz7_5
  try clear hfz6_0
  try clear hfz6_1
  try clear hfz6_2
  try clear hfz6_3
  try clear hfz6_4
  try clear hfz6_5
  try clear hfz7_0
  try clear hfz7_1
  try clear hfz7_2
  try clear hfz7_3
  try clear hfz7_4
  try clear hfz7_5
  obtain ⟨kq, x5_2, rfl, HA, HJ2, BK121, HB⟩ := hcut
  cases kq with
  | zero => exact absurd HA.out (by simp [raddleref14_Pred.j0])
  | succ kj2 =>
   have H := HA.out
   clear HA
   simp only [raddleref14_Pred.j0] at H
   have HC8 := mk_ H
   clear H
   go_upto_region 2 with (fail)
   go_cut [6] (fun v6 wc => ∃ (kq : Nat) (x6_7 : Bool), v6 = .bool x6_7 ∧ Aside0 (raddleref14_Pred.j1 kq l1 x5_2 x6_7 a0_0 a0_1 a0_2 a0_3 a0_4 a0_5 = some r) ∧ Aside0 (kq ≤ kj2) ∧ Aside0 (wc.heap[gb121]? = some (.cells #[.int .i64 a0_0, .int .i64 a0_1, .int .i64 a0_2, .int .i64 a0_3, .int .i64 a0_4, .string a0_5] 31 (0, 0))) ∧ Aside0 (Below w.heap.size w wc))
   case first =>
    have H := HC8.out
    clear HC8
    by_cases c9 : a0_0 = 1
    ·
     rw [if_pos c9] at H
     have c9b0 : (a0_0 == 1) = true := beq_iff_eq.mpr c9
     have c9b1 : (a0_0 != 1) = false := bne_eq_false_iff_eq.mpr c9
     clear c9
     (first | rw [c9b0] | (simp only [i64_w, i32_w]; rw [c9b0]) | skip)
     have H' := mk_ H
     clear H
     have hcz10_0 : wc.cell? ⟨gb121, 0, none⟩ = some (.int .i64 a0_0) := (blk_cell BK121.out 0).trans rfl
     have hcz10_1 : wc.cell? ⟨gb121, 1, none⟩ = some (.int .i64 a0_1) := (blk_cell BK121.out 1).trans rfl
     have hcz10_2 : wc.cell? ⟨gb121, 2, none⟩ = some (.int .i64 a0_2) := (blk_cell BK121.out 2).trans rfl
     have hcz10_3 : wc.cell? ⟨gb121, 3, none⟩ = some (.int .i64 a0_3) := (blk_cell BK121.out 3).trans rfl
     have hcz10_4 : wc.cell? ⟨gb121, 4, none⟩ = some (.int .i64 a0_4) := (blk_cell BK121.out 4).trans rfl
     have hcz10_5 : wc.cell? ⟨gb121, 5, none⟩ = some (.string a0_5) := (blk_cell BK121.out 5).trans rfl
     have hfz10_0 := blk_frozen BK121.out 0
     have hfz10_1 := blk_frozen BK121.out 1
     have hfz10_2 := blk_frozen BK121.out 2
     have hfz10_3 := blk_frozen BK121.out 3
     have hfz10_4 := blk_frozen BK121.out 4
     have hfz10_5 := blk_frozen BK121.out 5
     go_wp2
     go_meet
     case rel => exact ⟨_, (true), z9, H', ⟨by have := HJ2.out; first | omega | exact Nat.le_refl _⟩, ⟨by (with_reducible repeat (first | refine blk_drewN ?_ _ | refine blk_drew ?_ | refine blk_alloc ?_ _)); exact BK121.out⟩, ⟨Short.hB HB⟩⟩
    ·
     rw [if_neg c9] at H
     have c9b0 : (a0_0 == 1) = false := beq_eq_false_iff_ne.mpr c9
     have c9b1 : (a0_0 != 1) = true := bne_iff_ne.mpr c9
     (first | rw [c9b0] | (simp only [i64_w, i32_w]; rw [c9b0]) | skip)
     have H' := mk_ H
     clear H
     have hcz11_0 : wc.cell? ⟨gb121, 0, none⟩ = some (.int .i64 a0_0) := (blk_cell BK121.out 0).trans rfl
     have hcz11_1 : wc.cell? ⟨gb121, 1, none⟩ = some (.int .i64 a0_1) := (blk_cell BK121.out 1).trans rfl
     have hcz11_2 : wc.cell? ⟨gb121, 2, none⟩ = some (.int .i64 a0_2) := (blk_cell BK121.out 2).trans rfl
     have hcz11_3 : wc.cell? ⟨gb121, 3, none⟩ = some (.int .i64 a0_3) := (blk_cell BK121.out 3).trans rfl
     have hcz11_4 : wc.cell? ⟨gb121, 4, none⟩ = some (.int .i64 a0_4) := (blk_cell BK121.out 4).trans rfl
     have hcz11_5 : wc.cell? ⟨gb121, 5, none⟩ = some (.string a0_5) := (blk_cell BK121.out 5).trans rfl
     have hfz11_0 := blk_frozen BK121.out 0
     have hfz11_1 := blk_frozen BK121.out 1
     have hfz11_2 := blk_frozen BK121.out 2
     have hfz11_3 := blk_frozen BK121.out 3
     have hfz11_4 := blk_frozen BK121.out 4
     have hfz11_5 := blk_frozen BK121.out 5
     go_wp2
     go_meet
     case rel => exact ⟨_, ((a0_0 == 2)), z9, H', ⟨by have := HJ2.out; first | omega | exact Nat.le_refl _⟩, ⟨by (with_reducible repeat (first | refine blk_drewN ?_ _ | refine blk_drew ?_ | refine blk_alloc ?_ _)); exact BK121.out⟩, ⟨Short.hB HB⟩⟩
   case rest => as_aux_lemma =>
    clear HC8
    try clear c1
    try clear p2
    try clear c3
    try clear c5
    try clear c5b0
    try clear c5b1
    try clear c9
    try clear c9b0
    try clear c9b1
    try clear hcz10_0
    try clear hcz10_1
    try clear hcz10_2
    try clear hcz10_3
    try clear hcz10_4
    try clear hcz10_5
    try clear hcz11_0
    try clear hcz11_1
    try clear hcz11_2
    try clear hcz11_3
    try clear hcz11_4
    try clear hcz11_5
    try clear hcz6_0
    try clear hcz6_1
    try clear hcz6_2
    try clear hcz6_3
    try clear hcz6_4
    try clear hcz6_5
    try clear hcz7_0
    try clear hcz7_1
    try clear hcz7_2
    try clear hcz7_3
    try clear hcz7_4
    try clear hcz7_5
    try clear hfz10_0
    try clear hfz10_1
    try clear hfz10_2
    try clear hfz10_3
    try clear hfz10_4
    try clear hfz10_5
    try clear hfz11_0
    try clear hfz11_1
    try clear hfz11_2
    try clear hfz11_3
    try clear hfz11_4
    try clear hfz11_5
    try clear hfz6_0
    try clear hfz6_1
    try clear hfz6_2
    try clear hfz6_3
    try clear hfz6_4
    try clear hfz6_5
    try clear hfz7_0
    try clear hfz7_1
    try clear hfz7_2
    try clear hfz7_3
    try clear hfz7_4
    try clear hfz7_5
    try clear p2
    obtain ⟨kq, x6_7, rfl, HA, HJ7, BK121, HB⟩ := hcut
    cases kq with
    | zero => exact absurd HA.out (by simp [raddleref14_Pred.j1])
    | succ kj7 =>
     have H := HA.out
     clear HA
     simp only [raddleref14_Pred.j1] at H
     have HC12 := mk_ H
     clear H
     go_upto_region 3 with (fail)
     go_cut [56] (fun v56 wc => ∃ (kq : Nat) (x56_11 : Bool), v56 = .bool x56_11 ∧ Aside0 (raddleref14_Pred.j2 kq l1 x5_2 x6_7 x56_11 a0_0 a0_1 a0_2 a0_3 a0_4 a0_5 = some r) ∧ Aside0 (kq ≤ kj7) ∧ Aside0 (wc.heap[gb121]? = some (.cells #[.int .i64 a0_0, .int .i64 a0_1, .int .i64 a0_2, .int .i64 a0_3, .int .i64 a0_4, .string a0_5] 31 (0, 0))) ∧ Aside0 (Below w.heap.size w wc))
     case first =>
      have H := HC12.out
      clear HC12
      replace H := Option.bind_eq_some_iff.mp H
      obtain ⟨t122, A130, H⟩ := H
      replace H : (if t122 = true then ((raddleref14_in.f a0_1 0 (wrap64 ((l1.length : Int) - 1))).bind fun t123 => (if t123 = true then (if x5_2 = true then ((raddleref14_in.f a0_2 0 (wrap64 ((l1.length : Int) - 1))).bind fun t124 => (if t124 = true then (if x6_7 = true then ((raddleref01_Value.f a0_3 a0_4 a0_5).bind fun t125 => (raddleref14_Pred.j2 kj7 l1 x5_2 x6_7 (!t125) a0_0 a0_1 a0_2 a0_3 a0_4 a0_5)) else (raddleref14_Pred.j2 kj7 l1 x5_2 x6_7 false a0_0 a0_1 a0_2 a0_3 a0_4 a0_5)) else (raddleref14_Pred.j2 kj7 l1 x5_2 x6_7 true a0_0 a0_1 a0_2 a0_3 a0_4 a0_5))) else (if x6_7 = true then ((raddleref01_Value.f a0_3 a0_4 a0_5).bind fun t126 => (raddleref14_Pred.j2 kj7 l1 x5_2 x6_7 (!t126) a0_0 a0_1 a0_2 a0_3 a0_4 a0_5)) else (raddleref14_Pred.j2 kj7 l1 x5_2 x6_7 false a0_0 a0_1 a0_2 a0_3 a0_4 a0_5))) else (raddleref14_Pred.j2 kj7 l1 x5_2 x6_7 true a0_0 a0_1 a0_2 a0_3 a0_4 a0_5))) else (raddleref14_Pred.j2 kj7 l1 x5_2 x6_7 true a0_0 a0_1 a0_2 a0_3 a0_4 a0_5)) = some r := H
      have A13 := mk_ A130
      clear A130
      by_cases c14 : t122 = true
      ·
       subst c14
       have H1 : ((raddleref14_in.f a0_1 0 (wrap64 ((l1.length : Int) - 1))).bind fun t123 => (if t123 = true then (if x5_2 = true then ((raddleref14_in.f a0_2 0 (wrap64 ((l1.length : Int) - 1))).bind fun t124 => (if t124 = true then (if x6_7 = true then ((raddleref01_Value.f a0_3 a0_4 a0_5).bind fun t125 => (raddleref14_Pred.j2 kj7 l1 x5_2 x6_7 (!t125) a0_0 a0_1 a0_2 a0_3 a0_4 a0_5)) else (raddleref14_Pred.j2 kj7 l1 x5_2 x6_7 false a0_0 a0_1 a0_2 a0_3 a0_4 a0_5)) else (raddleref14_Pred.j2 kj7 l1 x5_2 x6_7 true a0_0 a0_1 a0_2 a0_3 a0_4 a0_5))) else (if x6_7 = true then ((raddleref01_Value.f a0_3 a0_4 a0_5).bind fun t126 => (raddleref14_Pred.j2 kj7 l1 x5_2 x6_7 (!t126) a0_0 a0_1 a0_2 a0_3 a0_4 a0_5)) else (raddleref14_Pred.j2 kj7 l1 x5_2 x6_7 false a0_0 a0_1 a0_2 a0_3 a0_4 a0_5))) else (raddleref14_Pred.j2 kj7 l1 x5_2 x6_7 true a0_0 a0_1 a0_2 a0_3 a0_4 a0_5))) = some r := by rw [if_pos rfl] at H; exact H
       clear H
       have H := H1
       clear H1
       replace H := Option.bind_eq_some_iff.mp H
       obtain ⟨t123, A150, H⟩ := H
       replace H : (if t123 = true then (if x5_2 = true then ((raddleref14_in.f a0_2 0 (wrap64 ((l1.length : Int) - 1))).bind fun t124 => (if t124 = true then (if x6_7 = true then ((raddleref01_Value.f a0_3 a0_4 a0_5).bind fun t125 => (raddleref14_Pred.j2 kj7 l1 x5_2 x6_7 (!t125) a0_0 a0_1 a0_2 a0_3 a0_4 a0_5)) else (raddleref14_Pred.j2 kj7 l1 x5_2 x6_7 false a0_0 a0_1 a0_2 a0_3 a0_4 a0_5)) else (raddleref14_Pred.j2 kj7 l1 x5_2 x6_7 true a0_0 a0_1 a0_2 a0_3 a0_4 a0_5))) else (if x6_7 = true then ((raddleref01_Value.f a0_3 a0_4 a0_5).bind fun t126 => (raddleref14_Pred.j2 kj7 l1 x5_2 x6_7 (!t126) a0_0 a0_1 a0_2 a0_3 a0_4 a0_5)) else (raddleref14_Pred.j2 kj7 l1 x5_2 x6_7 false a0_0 a0_1 a0_2 a0_3 a0_4 a0_5))) else (raddleref14_Pred.j2 kj7 l1 x5_2 x6_7 true a0_0 a0_1 a0_2 a0_3 a0_4 a0_5)) = some r := H
       have A15 := mk_ A150
       clear A150
       by_cases c16 : t123 = true
       ·
        subst c16
        have H1 : (if x5_2 = true then ((raddleref14_in.f a0_2 0 (wrap64 ((l1.length : Int) - 1))).bind fun t124 => (if t124 = true then (if x6_7 = true then ((raddleref01_Value.f a0_3 a0_4 a0_5).bind fun t125 => (raddleref14_Pred.j2 kj7 l1 x5_2 x6_7 (!t125) a0_0 a0_1 a0_2 a0_3 a0_4 a0_5)) else (raddleref14_Pred.j2 kj7 l1 x5_2 x6_7 false a0_0 a0_1 a0_2 a0_3 a0_4 a0_5)) else (raddleref14_Pred.j2 kj7 l1 x5_2 x6_7 true a0_0 a0_1 a0_2 a0_3 a0_4 a0_5))) else (if x6_7 = true then ((raddleref01_Value.f a0_3 a0_4 a0_5).bind fun t126 => (raddleref14_Pred.j2 kj7 l1 x5_2 x6_7 (!t126) a0_0 a0_1 a0_2 a0_3 a0_4 a0_5)) else (raddleref14_Pred.j2 kj7 l1 x5_2 x6_7 false a0_0 a0_1 a0_2 a0_3 a0_4 a0_5))) = some r := by rw [if_pos rfl] at H; exact H
        clear H
        have H := H1
        clear H1
        by_cases c17 : x5_2 = true
        ·
         subst c17
         have H1 : ((raddleref14_in.f a0_2 0 (wrap64 ((l1.length : Int) - 1))).bind fun t124 => (if t124 = true then (if x6_7 = true then ((raddleref01_Value.f a0_3 a0_4 a0_5).bind fun t125 => (raddleref14_Pred.j2 kj7 l1 true x6_7 (!t125) a0_0 a0_1 a0_2 a0_3 a0_4 a0_5)) else (raddleref14_Pred.j2 kj7 l1 true x6_7 false a0_0 a0_1 a0_2 a0_3 a0_4 a0_5)) else (raddleref14_Pred.j2 kj7 l1 true x6_7 true a0_0 a0_1 a0_2 a0_3 a0_4 a0_5))) = some r := by rw [if_pos rfl] at H; exact H
         clear H
         have H := H1
         clear H1
         replace H := Option.bind_eq_some_iff.mp H
         obtain ⟨t124, A180, H⟩ := H
         replace H : (if t124 = true then (if x6_7 = true then ((raddleref01_Value.f a0_3 a0_4 a0_5).bind fun t125 => (raddleref14_Pred.j2 kj7 l1 true x6_7 (!t125) a0_0 a0_1 a0_2 a0_3 a0_4 a0_5)) else (raddleref14_Pred.j2 kj7 l1 true x6_7 false a0_0 a0_1 a0_2 a0_3 a0_4 a0_5)) else (raddleref14_Pred.j2 kj7 l1 true x6_7 true a0_0 a0_1 a0_2 a0_3 a0_4 a0_5)) = some r := H
         have A18 := mk_ A180
         clear A180
         by_cases c19 : t124 = true
         ·
          subst c19
          have H1 : (if x6_7 = true then ((raddleref01_Value.f a0_3 a0_4 a0_5).bind fun t125 => (raddleref14_Pred.j2 kj7 l1 true x6_7 (!t125) a0_0 a0_1 a0_2 a0_3 a0_4 a0_5)) else (raddleref14_Pred.j2 kj7 l1 true x6_7 false a0_0 a0_1 a0_2 a0_3 a0_4 a0_5)) = some r := by rw [if_pos rfl] at H; exact H
          clear H
          have H := H1
          clear H1
          by_cases c20 : x6_7 = true
          ·
           subst c20
           have H1 : ((raddleref01_Value.f a0_3 a0_4 a0_5).bind fun t125 => (raddleref14_Pred.j2 kj7 l1 true true (!t125) a0_0 a0_1 a0_2 a0_3 a0_4 a0_5)) = some r := by rw [if_pos rfl] at H; exact H
           clear H
           have H := H1
           clear H1
           replace H := Option.bind_eq_some_iff.mp H
           obtain ⟨t125, A210, H⟩ := H
           replace H : (raddleref14_Pred.j2 kj7 l1 true true (!t125) a0_0 a0_1 a0_2 a0_3 a0_4 a0_5) = some r := H
           have A21 := mk_ A210
           clear A210
           have H' := mk_ H
           clear H
           have hcz22_0 : wc.cell? ⟨gb121, 0, none⟩ = some (.int .i64 a0_0) := (blk_cell BK121.out 0).trans rfl
           have hcz22_1 : wc.cell? ⟨gb121, 1, none⟩ = some (.int .i64 a0_1) := (blk_cell BK121.out 1).trans rfl
           have hcz22_2 : wc.cell? ⟨gb121, 2, none⟩ = some (.int .i64 a0_2) := (blk_cell BK121.out 2).trans rfl
           have hcz22_3 : wc.cell? ⟨gb121, 3, none⟩ = some (.int .i64 a0_3) := (blk_cell BK121.out 3).trans rfl
           have hcz22_4 : wc.cell? ⟨gb121, 4, none⟩ = some (.int .i64 a0_4) := (blk_cell BK121.out 4).trans rfl
           have hcz22_5 : wc.cell? ⟨gb121, 5, none⟩ = some (.string a0_5) := (blk_cell BK121.out 5).trans rfl
           have hfz22_0 := blk_frozen BK121.out 0
           have hfz22_1 := blk_frozen BK121.out 1
           have hfz22_2 := blk_frozen BK121.out 2
           have hfz22_3 := blk_frozen BK121.out 3
           have hfz22_4 := blk_frozen BK121.out 4
           have hfz22_5 := blk_frozen BK121.out 5
           go_wp2_with (first | ((with_reducible refine gate_callee (f := 26) rfl ?_); refine Short.gL (some 25) Try.func26 #[.int .i64 a0_0, .int .i64 1, .int .i64 6] (h := ?_); (with_reducible refine (raddleref14_in.calls a0_0 1 6 true _ A13.out).mono ?_); rintro e w' ⟨rfl, ⟨nd, rfl⟩⟩; refine ⟨_, rfl, ?_⟩) | (go_at_call 26; (with_reducible refine (raddleref14_in.calls a0_1 0 (wrap64 ((l1.length : Int) - 1)) true _ A15.out).mono ?_); rintro e w' ⟨rfl, ⟨nd, rfl⟩⟩) | (go_at_call 26; (with_reducible refine (raddleref14_in.calls a0_2 0 (wrap64 ((l1.length : Int) - 1)) true _ A18.out).mono ?_); rintro e w' ⟨rfl, ⟨nd, rfl⟩⟩) | (go_at_call 42; (with_reducible refine (raddleref01_Value.calls a0_3 a0_4 a0_5 t125 _ A21.out).mono ?_); rintro e w23 ⟨rfl, hb⟩; have n0_ := mk_ (bB_ BK121 hb); have n1_ := mk_ (below_step (Short.hB HB) hb); clear BK121 HB; revert n0_ n1_; intro BK121 HB; (try clear hb); (try clear hb2); (try clear hk); (try clear hi)))
           go_meet
           case rel => exact ⟨_, (!t125), z9, H', ⟨by have := HJ2.out; have := HJ7.out; first | omega | exact Nat.le_refl _⟩, ⟨by (with_reducible repeat (first | refine blk_drewN ?_ _ | refine blk_drew ?_ | refine blk_alloc ?_ _)); exact BK121.out⟩, ⟨Short.hB HB⟩⟩
          ·
           replace c20 := Bool.eq_false_iff.mpr c20
           subst c20
           have H1 : (raddleref14_Pred.j2 kj7 l1 true false false a0_0 a0_1 a0_2 a0_3 a0_4 a0_5) = some r := by rw [if_neg (show ¬ (false = true) by decide)] at H; exact H
           clear H
           have H := H1
           clear H1
           have H' := mk_ H
           clear H
           have hcz24_0 : wc.cell? ⟨gb121, 0, none⟩ = some (.int .i64 a0_0) := (blk_cell BK121.out 0).trans rfl
           have hcz24_1 : wc.cell? ⟨gb121, 1, none⟩ = some (.int .i64 a0_1) := (blk_cell BK121.out 1).trans rfl
           have hcz24_2 : wc.cell? ⟨gb121, 2, none⟩ = some (.int .i64 a0_2) := (blk_cell BK121.out 2).trans rfl
           have hcz24_3 : wc.cell? ⟨gb121, 3, none⟩ = some (.int .i64 a0_3) := (blk_cell BK121.out 3).trans rfl
           have hcz24_4 : wc.cell? ⟨gb121, 4, none⟩ = some (.int .i64 a0_4) := (blk_cell BK121.out 4).trans rfl
           have hcz24_5 : wc.cell? ⟨gb121, 5, none⟩ = some (.string a0_5) := (blk_cell BK121.out 5).trans rfl
           have hfz24_0 := blk_frozen BK121.out 0
           have hfz24_1 := blk_frozen BK121.out 1
           have hfz24_2 := blk_frozen BK121.out 2
           have hfz24_3 := blk_frozen BK121.out 3
           have hfz24_4 := blk_frozen BK121.out 4
           have hfz24_5 := blk_frozen BK121.out 5
           go_wp2_with (first | ((with_reducible refine gate_callee (f := 26) rfl ?_); refine Short.gL (some 25) Try.func26 #[.int .i64 a0_0, .int .i64 1, .int .i64 6] (h := ?_); (with_reducible refine (raddleref14_in.calls a0_0 1 6 true _ A13.out).mono ?_); rintro e w' ⟨rfl, ⟨nd, rfl⟩⟩; refine ⟨_, rfl, ?_⟩) | (go_at_call 26; (with_reducible refine (raddleref14_in.calls a0_1 0 (wrap64 ((l1.length : Int) - 1)) true _ A15.out).mono ?_); rintro e w' ⟨rfl, ⟨nd, rfl⟩⟩) | (go_at_call 26; (with_reducible refine (raddleref14_in.calls a0_2 0 (wrap64 ((l1.length : Int) - 1)) true _ A18.out).mono ?_); rintro e w' ⟨rfl, ⟨nd, rfl⟩⟩))
           go_meet
           case rel => exact ⟨_, (false), z9, H', ⟨by have := HJ2.out; have := HJ7.out; first | omega | exact Nat.le_refl _⟩, ⟨by (with_reducible repeat (first | refine blk_drewN ?_ _ | refine blk_drew ?_ | refine blk_alloc ?_ _)); exact BK121.out⟩, ⟨Short.hB HB⟩⟩
         ·
          replace c19 := Bool.eq_false_iff.mpr c19
          subst c19
          have H1 : (raddleref14_Pred.j2 kj7 l1 true x6_7 true a0_0 a0_1 a0_2 a0_3 a0_4 a0_5) = some r := by rw [if_neg (show ¬ (false = true) by decide)] at H; exact H
          clear H
          have H := H1
          clear H1
          have H' := mk_ H
          clear H
          have hcz25_0 : wc.cell? ⟨gb121, 0, none⟩ = some (.int .i64 a0_0) := (blk_cell BK121.out 0).trans rfl
          have hcz25_1 : wc.cell? ⟨gb121, 1, none⟩ = some (.int .i64 a0_1) := (blk_cell BK121.out 1).trans rfl
          have hcz25_2 : wc.cell? ⟨gb121, 2, none⟩ = some (.int .i64 a0_2) := (blk_cell BK121.out 2).trans rfl
          have hcz25_3 : wc.cell? ⟨gb121, 3, none⟩ = some (.int .i64 a0_3) := (blk_cell BK121.out 3).trans rfl
          have hcz25_4 : wc.cell? ⟨gb121, 4, none⟩ = some (.int .i64 a0_4) := (blk_cell BK121.out 4).trans rfl
          have hcz25_5 : wc.cell? ⟨gb121, 5, none⟩ = some (.string a0_5) := (blk_cell BK121.out 5).trans rfl
          have hfz25_0 := blk_frozen BK121.out 0
          have hfz25_1 := blk_frozen BK121.out 1
          have hfz25_2 := blk_frozen BK121.out 2
          have hfz25_3 := blk_frozen BK121.out 3
          have hfz25_4 := blk_frozen BK121.out 4
          have hfz25_5 := blk_frozen BK121.out 5
          go_wp2_with (first | ((with_reducible refine gate_callee (f := 26) rfl ?_); refine Short.gL (some 25) Try.func26 #[.int .i64 a0_0, .int .i64 1, .int .i64 6] (h := ?_); (with_reducible refine (raddleref14_in.calls a0_0 1 6 true _ A13.out).mono ?_); rintro e w' ⟨rfl, ⟨nd, rfl⟩⟩; refine ⟨_, rfl, ?_⟩) | (go_at_call 26; (with_reducible refine (raddleref14_in.calls a0_1 0 (wrap64 ((l1.length : Int) - 1)) true _ A15.out).mono ?_); rintro e w' ⟨rfl, ⟨nd, rfl⟩⟩) | (go_at_call 26; (with_reducible refine (raddleref14_in.calls a0_2 0 (wrap64 ((l1.length : Int) - 1)) false _ A18.out).mono ?_); rintro e w' ⟨rfl, ⟨nd, rfl⟩⟩))
          go_meet
          case rel => exact ⟨_, (true), z9, H', ⟨by have := HJ2.out; have := HJ7.out; first | omega | exact Nat.le_refl _⟩, ⟨by (with_reducible repeat (first | refine blk_drewN ?_ _ | refine blk_drew ?_ | refine blk_alloc ?_ _)); exact BK121.out⟩, ⟨Short.hB HB⟩⟩
        ·
         replace c17 := Bool.eq_false_iff.mpr c17
         subst c17
         have H1 : (if x6_7 = true then ((raddleref01_Value.f a0_3 a0_4 a0_5).bind fun t126 => (raddleref14_Pred.j2 kj7 l1 false x6_7 (!t126) a0_0 a0_1 a0_2 a0_3 a0_4 a0_5)) else (raddleref14_Pred.j2 kj7 l1 false x6_7 false a0_0 a0_1 a0_2 a0_3 a0_4 a0_5)) = some r := by rw [if_neg (show ¬ (false = true) by decide)] at H; exact H
         clear H
         have H := H1
         clear H1
         by_cases c26 : x6_7 = true
         ·
          subst c26
          have H1 : ((raddleref01_Value.f a0_3 a0_4 a0_5).bind fun t126 => (raddleref14_Pred.j2 kj7 l1 false true (!t126) a0_0 a0_1 a0_2 a0_3 a0_4 a0_5)) = some r := by rw [if_pos rfl] at H; exact H
          clear H
          have H := H1
          clear H1
          replace H := Option.bind_eq_some_iff.mp H
          obtain ⟨t126, A270, H⟩ := H
          replace H : (raddleref14_Pred.j2 kj7 l1 false true (!t126) a0_0 a0_1 a0_2 a0_3 a0_4 a0_5) = some r := H
          have A27 := mk_ A270
          clear A270
          have H' := mk_ H
          clear H
          have hcz28_0 : wc.cell? ⟨gb121, 0, none⟩ = some (.int .i64 a0_0) := (blk_cell BK121.out 0).trans rfl
          have hcz28_1 : wc.cell? ⟨gb121, 1, none⟩ = some (.int .i64 a0_1) := (blk_cell BK121.out 1).trans rfl
          have hcz28_2 : wc.cell? ⟨gb121, 2, none⟩ = some (.int .i64 a0_2) := (blk_cell BK121.out 2).trans rfl
          have hcz28_3 : wc.cell? ⟨gb121, 3, none⟩ = some (.int .i64 a0_3) := (blk_cell BK121.out 3).trans rfl
          have hcz28_4 : wc.cell? ⟨gb121, 4, none⟩ = some (.int .i64 a0_4) := (blk_cell BK121.out 4).trans rfl
          have hcz28_5 : wc.cell? ⟨gb121, 5, none⟩ = some (.string a0_5) := (blk_cell BK121.out 5).trans rfl
          have hfz28_0 := blk_frozen BK121.out 0
          have hfz28_1 := blk_frozen BK121.out 1
          have hfz28_2 := blk_frozen BK121.out 2
          have hfz28_3 := blk_frozen BK121.out 3
          have hfz28_4 := blk_frozen BK121.out 4
          have hfz28_5 := blk_frozen BK121.out 5
          go_wp2_with (first | ((with_reducible refine gate_callee (f := 26) rfl ?_); refine Short.gL (some 25) Try.func26 #[.int .i64 a0_0, .int .i64 1, .int .i64 6] (h := ?_); (with_reducible refine (raddleref14_in.calls a0_0 1 6 true _ A13.out).mono ?_); rintro e w' ⟨rfl, ⟨nd, rfl⟩⟩; refine ⟨_, rfl, ?_⟩) | (go_at_call 26; (with_reducible refine (raddleref14_in.calls a0_1 0 (wrap64 ((l1.length : Int) - 1)) true _ A15.out).mono ?_); rintro e w' ⟨rfl, ⟨nd, rfl⟩⟩) | (go_at_call 42; (with_reducible refine (raddleref01_Value.calls a0_3 a0_4 a0_5 t126 _ A27.out).mono ?_); rintro e w29 ⟨rfl, hb⟩; have n0_ := mk_ (bB_ BK121 hb); have n1_ := mk_ (below_step (Short.hB HB) hb); clear BK121 HB; revert n0_ n1_; intro BK121 HB; (try clear hb); (try clear hb2); (try clear hk); (try clear hi)))
          go_meet
          case rel => exact ⟨_, (!t126), z9, H', ⟨by have := HJ2.out; have := HJ7.out; first | omega | exact Nat.le_refl _⟩, ⟨by (with_reducible repeat (first | refine blk_drewN ?_ _ | refine blk_drew ?_ | refine blk_alloc ?_ _)); exact BK121.out⟩, ⟨Short.hB HB⟩⟩
         ·
          replace c26 := Bool.eq_false_iff.mpr c26
          subst c26
          have H1 : (raddleref14_Pred.j2 kj7 l1 false false false a0_0 a0_1 a0_2 a0_3 a0_4 a0_5) = some r := by rw [if_neg (show ¬ (false = true) by decide)] at H; exact H
          clear H
          have H := H1
          clear H1
          have H' := mk_ H
          clear H
          have hcz30_0 : wc.cell? ⟨gb121, 0, none⟩ = some (.int .i64 a0_0) := (blk_cell BK121.out 0).trans rfl
          have hcz30_1 : wc.cell? ⟨gb121, 1, none⟩ = some (.int .i64 a0_1) := (blk_cell BK121.out 1).trans rfl
          have hcz30_2 : wc.cell? ⟨gb121, 2, none⟩ = some (.int .i64 a0_2) := (blk_cell BK121.out 2).trans rfl
          have hcz30_3 : wc.cell? ⟨gb121, 3, none⟩ = some (.int .i64 a0_3) := (blk_cell BK121.out 3).trans rfl
          have hcz30_4 : wc.cell? ⟨gb121, 4, none⟩ = some (.int .i64 a0_4) := (blk_cell BK121.out 4).trans rfl
          have hcz30_5 : wc.cell? ⟨gb121, 5, none⟩ = some (.string a0_5) := (blk_cell BK121.out 5).trans rfl
          have hfz30_0 := blk_frozen BK121.out 0
          have hfz30_1 := blk_frozen BK121.out 1
          have hfz30_2 := blk_frozen BK121.out 2
          have hfz30_3 := blk_frozen BK121.out 3
          have hfz30_4 := blk_frozen BK121.out 4
          have hfz30_5 := blk_frozen BK121.out 5
          go_wp2_with (first | ((with_reducible refine gate_callee (f := 26) rfl ?_); refine Short.gL (some 25) Try.func26 #[.int .i64 a0_0, .int .i64 1, .int .i64 6] (h := ?_); (with_reducible refine (raddleref14_in.calls a0_0 1 6 true _ A13.out).mono ?_); rintro e w' ⟨rfl, ⟨nd, rfl⟩⟩; refine ⟨_, rfl, ?_⟩) | (go_at_call 26; (with_reducible refine (raddleref14_in.calls a0_1 0 (wrap64 ((l1.length : Int) - 1)) true _ A15.out).mono ?_); rintro e w' ⟨rfl, ⟨nd, rfl⟩⟩))
          go_meet
          case rel => exact ⟨_, (false), z9, H', ⟨by have := HJ2.out; have := HJ7.out; first | omega | exact Nat.le_refl _⟩, ⟨by (with_reducible repeat (first | refine blk_drewN ?_ _ | refine blk_drew ?_ | refine blk_alloc ?_ _)); exact BK121.out⟩, ⟨Short.hB HB⟩⟩
       ·
        replace c16 := Bool.eq_false_iff.mpr c16
        subst c16
        have H1 : (raddleref14_Pred.j2 kj7 l1 x5_2 x6_7 true a0_0 a0_1 a0_2 a0_3 a0_4 a0_5) = some r := by rw [if_neg (show ¬ (false = true) by decide)] at H; exact H
        clear H
        have H := H1
        clear H1
        have H' := mk_ H
        clear H
        have hcz31_0 : wc.cell? ⟨gb121, 0, none⟩ = some (.int .i64 a0_0) := (blk_cell BK121.out 0).trans rfl
        have hcz31_1 : wc.cell? ⟨gb121, 1, none⟩ = some (.int .i64 a0_1) := (blk_cell BK121.out 1).trans rfl
        have hcz31_2 : wc.cell? ⟨gb121, 2, none⟩ = some (.int .i64 a0_2) := (blk_cell BK121.out 2).trans rfl
        have hcz31_3 : wc.cell? ⟨gb121, 3, none⟩ = some (.int .i64 a0_3) := (blk_cell BK121.out 3).trans rfl
        have hcz31_4 : wc.cell? ⟨gb121, 4, none⟩ = some (.int .i64 a0_4) := (blk_cell BK121.out 4).trans rfl
        have hcz31_5 : wc.cell? ⟨gb121, 5, none⟩ = some (.string a0_5) := (blk_cell BK121.out 5).trans rfl
        have hfz31_0 := blk_frozen BK121.out 0
        have hfz31_1 := blk_frozen BK121.out 1
        have hfz31_2 := blk_frozen BK121.out 2
        have hfz31_3 := blk_frozen BK121.out 3
        have hfz31_4 := blk_frozen BK121.out 4
        have hfz31_5 := blk_frozen BK121.out 5
        go_wp2_with (first | ((with_reducible refine gate_callee (f := 26) rfl ?_); refine Short.gL (some 25) Try.func26 #[.int .i64 a0_0, .int .i64 1, .int .i64 6] (h := ?_); (with_reducible refine (raddleref14_in.calls a0_0 1 6 true _ A13.out).mono ?_); rintro e w' ⟨rfl, ⟨nd, rfl⟩⟩; refine ⟨_, rfl, ?_⟩) | (go_at_call 26; (with_reducible refine (raddleref14_in.calls a0_1 0 (wrap64 ((l1.length : Int) - 1)) false _ A15.out).mono ?_); rintro e w' ⟨rfl, ⟨nd, rfl⟩⟩))
        go_meet
        case rel => exact ⟨_, (true), z9, H', ⟨by have := HJ2.out; have := HJ7.out; first | omega | exact Nat.le_refl _⟩, ⟨by (with_reducible repeat (first | refine blk_drewN ?_ _ | refine blk_drew ?_ | refine blk_alloc ?_ _)); exact BK121.out⟩, ⟨Short.hB HB⟩⟩
      ·
       replace c14 := Bool.eq_false_iff.mpr c14
       subst c14
       have H1 : (raddleref14_Pred.j2 kj7 l1 x5_2 x6_7 true a0_0 a0_1 a0_2 a0_3 a0_4 a0_5) = some r := by rw [if_neg (show ¬ (false = true) by decide)] at H; exact H
       clear H
       have H := H1
       clear H1
       have H' := mk_ H
       clear H
       have hcz32_0 : wc.cell? ⟨gb121, 0, none⟩ = some (.int .i64 a0_0) := (blk_cell BK121.out 0).trans rfl
       have hcz32_1 : wc.cell? ⟨gb121, 1, none⟩ = some (.int .i64 a0_1) := (blk_cell BK121.out 1).trans rfl
       have hcz32_2 : wc.cell? ⟨gb121, 2, none⟩ = some (.int .i64 a0_2) := (blk_cell BK121.out 2).trans rfl
       have hcz32_3 : wc.cell? ⟨gb121, 3, none⟩ = some (.int .i64 a0_3) := (blk_cell BK121.out 3).trans rfl
       have hcz32_4 : wc.cell? ⟨gb121, 4, none⟩ = some (.int .i64 a0_4) := (blk_cell BK121.out 4).trans rfl
       have hcz32_5 : wc.cell? ⟨gb121, 5, none⟩ = some (.string a0_5) := (blk_cell BK121.out 5).trans rfl
       have hfz32_0 := blk_frozen BK121.out 0
       have hfz32_1 := blk_frozen BK121.out 1
       have hfz32_2 := blk_frozen BK121.out 2
       have hfz32_3 := blk_frozen BK121.out 3
       have hfz32_4 := blk_frozen BK121.out 4
       have hfz32_5 := blk_frozen BK121.out 5
       go_wp2_with (first | ((with_reducible refine gate_callee (f := 26) rfl ?_); refine Short.gL (some 25) Try.func26 #[.int .i64 a0_0, .int .i64 1, .int .i64 6] (h := ?_); (with_reducible refine (raddleref14_in.calls a0_0 1 6 false _ A13.out).mono ?_); rintro e w' ⟨rfl, ⟨nd, rfl⟩⟩; refine ⟨_, rfl, ?_⟩))
       go_meet
       case rel => exact ⟨_, (true), z9, H', ⟨by have := HJ2.out; have := HJ7.out; first | omega | exact Nat.le_refl _⟩, ⟨by (with_reducible repeat (first | refine blk_drewN ?_ _ | refine blk_drew ?_ | refine blk_alloc ?_ _)); exact BK121.out⟩, ⟨Short.hB HB⟩⟩
     case rest => as_aux_lemma =>
      clear HC12
      try clear c1
      try clear c2
      try clear p2
      try clear c3
      try clear c5
      try clear c5b0
      try clear c5b1
      try clear p6
      try clear c9
      try clear c9b0
      try clear c9b1
      try clear c14
      try clear c16
      try clear c17
      try clear c19
      try clear c20
      try clear c26
      try clear hcz10_0
      try clear hcz10_1
      try clear hcz10_2
      try clear hcz10_3
      try clear hcz10_4
      try clear hcz10_5
      try clear hcz11_0
      try clear hcz11_1
      try clear hcz11_2
      try clear hcz11_3
      try clear hcz11_4
      try clear hcz11_5
      try clear hcz22_0
      try clear hcz22_1
      try clear hcz22_2
      try clear hcz22_3
      try clear hcz22_4
      try clear hcz22_5
      try clear hcz24_0
      try clear hcz24_1
      try clear hcz24_2
      try clear hcz24_3
      try clear hcz24_4
      try clear hcz24_5
      try clear hcz25_0
      try clear hcz25_1
      try clear hcz25_2
      try clear hcz25_3
      try clear hcz25_4
      try clear hcz25_5
      try clear hcz28_0
      try clear hcz28_1
      try clear hcz28_2
      try clear hcz28_3
      try clear hcz28_4
      try clear hcz28_5
      try clear hcz30_0
      try clear hcz30_1
      try clear hcz30_2
      try clear hcz30_3
      try clear hcz30_4
      try clear hcz30_5
      try clear hcz31_0
      try clear hcz31_1
      try clear hcz31_2
      try clear hcz31_3
      try clear hcz31_4
      try clear hcz31_5
      try clear hcz32_0
      try clear hcz32_1
      try clear hcz32_2
      try clear hcz32_3
      try clear hcz32_4
      try clear hcz32_5
      try clear hcz6_0
      try clear hcz6_1
      try clear hcz6_2
      try clear hcz6_3
      try clear hcz6_4
      try clear hcz6_5
      try clear hcz7_0
      try clear hcz7_1
      try clear hcz7_2
      try clear hcz7_3
      try clear hcz7_4
      try clear hcz7_5
      try clear hfz10_0
      try clear hfz10_1
      try clear hfz10_2
      try clear hfz10_3
      try clear hfz10_4
      try clear hfz10_5
      try clear hfz11_0
      try clear hfz11_1
      try clear hfz11_2
      try clear hfz11_3
      try clear hfz11_4
      try clear hfz11_5
      try clear hfz22_0
      try clear hfz22_1
      try clear hfz22_2
      try clear hfz22_3
      try clear hfz22_4
      try clear hfz22_5
      try clear hfz24_0
      try clear hfz24_1
      try clear hfz24_2
      try clear hfz24_3
      try clear hfz24_4
      try clear hfz24_5
      try clear hfz25_0
      try clear hfz25_1
      try clear hfz25_2
      try clear hfz25_3
      try clear hfz25_4
      try clear hfz25_5
      try clear hfz28_0
      try clear hfz28_1
      try clear hfz28_2
      try clear hfz28_3
      try clear hfz28_4
      try clear hfz28_5
      try clear hfz30_0
      try clear hfz30_1
      try clear hfz30_2
      try clear hfz30_3
      try clear hfz30_4
      try clear hfz30_5
      try clear hfz31_0
      try clear hfz31_1
      try clear hfz31_2
      try clear hfz31_3
      try clear hfz31_4
      try clear hfz31_5
      try clear hfz32_0
      try clear hfz32_1
      try clear hfz32_2
      try clear hfz32_3
      try clear hfz32_4
      try clear hfz32_5
      try clear hfz6_0
      try clear hfz6_1
      try clear hfz6_2
      try clear hfz6_3
      try clear hfz6_4
      try clear hfz6_5
      try clear hfz7_0
      try clear hfz7_1
      try clear hfz7_2
      try clear hfz7_3
      try clear hfz7_4
      try clear hfz7_5
      try clear p2
      obtain ⟨kq, x56_11, rfl, HA, HJ11, BK121, HB⟩ := hcut
      cases kq with
      | zero => exact absurd HA.out (by simp [raddleref14_Pred.j2])
      | succ kj11 =>
       have H := HA.out
       clear HA
       simp only [raddleref14_Pred.j2] at H
       by_cases c33 : x56_11 = true
       ·
        subst c33
        have H1 : (some 1) = some r := by rw [if_pos rfl] at H; exact H
        clear H
        have H := H1
        clear H1
        obtain rfl := Option.some.inj H
        go_wp2
        go_ret
        exact ⟨by first | rfl | (simp [errW_none, errW_some] <;> rfl) | (simp [*, errW_none, errW_some] <;> rfl), Short.hB HB⟩
       ·
        replace c33 := Bool.eq_false_iff.mpr c33
        subst c33
        have H1 : (if x6_7 = true then (if 0 ≤ a0_1 then (if a0_1 < (l1.length : Int) then ((raddleref01_Fits.f a0_3 a0_4 a0_5 (rd l1 a0_1)).bind fun t128 => (if t128 = true then (if x5_2 = true then (if 0 ≤ a0_2 then (if a0_2 < (l1.length : Int) then (if (rd l1 a0_2) = (rd l1 a0_1) then (some 0) else (some 10)) else (none)) else (none)) else (some 0)) else (some 10))) else (none)) else (none)) else (if x5_2 = true then (if 0 ≤ a0_2 then (if a0_2 < (l1.length : Int) then (if 0 ≤ a0_1 then (if a0_1 < (l1.length : Int) then (if (rd l1 a0_2) = (rd l1 a0_1) then (some 0) else (some 10)) else (none)) else (none)) else (none)) else (none)) else (some 0))) = some r := by rw [if_neg (show ¬ (false = true) by decide)] at H; exact H
        clear H
        have H := H1
        clear H1
        by_cases c34 : x6_7 = true
        ·
         subst c34
         have H1 : (if 0 ≤ a0_1 then (if a0_1 < (l1.length : Int) then ((raddleref01_Fits.f a0_3 a0_4 a0_5 (rd l1 a0_1)).bind fun t128 => (if t128 = true then (if x5_2 = true then (if 0 ≤ a0_2 then (if a0_2 < (l1.length : Int) then (if (rd l1 a0_2) = (rd l1 a0_1) then (some 0) else (some 10)) else (none)) else (none)) else (some 0)) else (some 10))) else (none)) else (none)) = some r := by rw [if_pos rfl] at H; exact H
         clear H
         have H := H1
         clear H1
         by_cases c35 : 0 ≤ a0_1
         ·
          rw [if_pos c35] at H
          have c35b0 : decide (0 ≤ a0_1) = true := decide_eq_true c35
          clear c35
          by_cases c36 : a0_1 < (l1.length : Int)
          ·
           rw [if_pos c36] at H
           have c36b0 : decide (a0_1 < (l1.length : Int)) = true := decide_eq_true c36
           clear c36
           replace H := Option.bind_eq_some_iff.mp H
           obtain ⟨t128, A370, H⟩ := H
           replace H : (if t128 = true then (if x5_2 = true then (if 0 ≤ a0_2 then (if a0_2 < (l1.length : Int) then (if (rd l1 a0_2) = (rd l1 a0_1) then (some 0) else (some 10)) else (none)) else (none)) else (some 0)) else (some 10)) = some r := H
           have A37 := mk_ A370
           clear A370
           by_cases c38 : t128 = true
           ·
            subst c38
            have H1 : (if x5_2 = true then (if 0 ≤ a0_2 then (if a0_2 < (l1.length : Int) then (if (rd l1 a0_2) = (rd l1 a0_1) then (some 0) else (some 10)) else (none)) else (none)) else (some 0)) = some r := by rw [if_pos rfl] at H; exact H
            clear H
            have H := H1
            clear H1
            by_cases c39 : x5_2 = true
            ·
             subst c39
             have H1 : (if 0 ≤ a0_2 then (if a0_2 < (l1.length : Int) then (if (rd l1 a0_2) = (rd l1 a0_1) then (some 0) else (some 10)) else (none)) else (none)) = some r := by rw [if_pos rfl] at H; exact H
             clear H
             have H := H1
             clear H1
             by_cases c40 : 0 ≤ a0_2
             ·
              rw [if_pos c40] at H
              have c40b0 : decide (0 ≤ a0_2) = true := decide_eq_true c40
              clear c40
              by_cases c41 : a0_2 < (l1.length : Int)
              ·
               rw [if_pos c41] at H
               have c41b0 : decide (a0_2 < (l1.length : Int)) = true := decide_eq_true c41
               clear c41
               by_cases c42 : (rd l1 a0_2) = (rd l1 a0_1)
               ·
                rw [if_pos c42] at H
                have c42b0 : ((rd l1 a0_2) == (rd l1 a0_1)) = true := beq_iff_eq.mpr c42
                have c42b1 : ((rd l1 a0_2) != (rd l1 a0_1)) = false := bne_eq_false_iff_eq.mpr c42
                clear c42
                obtain rfl := Option.some.inj H
                try go_wp2
                have n0_ := mk_ (blk_drew BK121.out)
                have n1_ := mk_ (below_drew1 HB.out)
                clear BK121 HB
                revert n0_ n1_
                intro BK121 HB
                have p127 : 0 ≤ (a0_1 : Int) := of_decide_eq_true z4
                have q127 : a0_1 < (l1.length : Int) := of_decide_eq_true z4
                obtain ⟨ad127, e127, hx127_0⟩ := Kd.at_int HR1.out a0_1 p127 q127
                have hw127_0 := hx127_0
                cases e127
                replace hx127_0 := (HB.out.cell (World.block_lt_of_cell? w _ hx127_0)).trans hx127_0
                replace p127 := eq_true p127
                replace q127 := eq_true q127
                have p129 : 0 ≤ (a0_2 : Int) := of_decide_eq_true z4
                have q129 : a0_2 < (l1.length : Int) := of_decide_eq_true z4
                obtain ⟨ad129, e129, hx129_0⟩ := Kd.at_int HR1.out a0_2 p129 q129
                have hw129_0 := hx129_0
                obtain rfl : ad127 = ad129 := (by injection e129)
                replace hx129_0 := (HB.out.cell (World.block_lt_of_cell? w _ hx129_0)).trans hx129_0
                replace p129 := eq_true p129
                replace q129 := eq_true q129
                have p130 : 0 ≤ (a0_1 : Int) := of_decide_eq_true z4
                have q130 : a0_1 < (l1.length : Int) := of_decide_eq_true z4
                obtain ⟨ad130, e130, hx130_0⟩ := Kd.at_int HR1.out a0_1 p130 q130
                have hw130_0 := hx130_0
                obtain rfl : ad127 = ad130 := (by injection e130)
                replace hx130_0 := (HB.out.cell (World.block_lt_of_cell? w _ hx130_0)).trans hx130_0
                replace p130 := eq_true p130
                replace q130 := eq_true q130
                refine start_ (n := 28) (S := fun w' => w'.cell? ⟨gb121, 0, none⟩ = some (.int .i64 a0_0) ∧ w'.cell? ⟨gb121, 1, none⟩ = some (.int .i64 a0_1) ∧ w'.cell? ⟨gb121, 2, none⟩ = some (.int .i64 a0_2) ∧ w'.cell? ⟨gb121, 3, none⟩ = some (.int .i64 a0_3) ∧ w'.cell? ⟨gb121, 4, none⟩ = some (.int .i64 a0_4) ∧ w'.cell? ⟨gb121, 5, none⟩ = some (.string a0_5) ∧ w'.cell? (ad127.add (a0_1).toNat) = some (.int .i64 (rd l1 a0_1)) ∧ w'.cell? (ad127.add (a0_2).toNat) = some (.int .i64 (rd l1 a0_2)) ∧ w'.cell? (ad127.add (a0_1).toNat) = some (.int .i64 (rd l1 a0_1))) (ds := []) (Steps.Bs 28 0) z1 rfl rfl ⟨(blk_cell BK121.out 0).trans rfl, (blk_cell BK121.out 1).trans rfl, (blk_cell BK121.out 2).trans rfl, (blk_cell BK121.out 3).trans rfl, (blk_cell BK121.out 4).trans rfl, (blk_cell BK121.out 5).trans rfl, ((HB.out.cell (World.block_lt_of_cell? w _ hw127_0)).trans hw127_0), ((HB.out.cell (World.block_lt_of_cell? w _ hw129_0)).trans hw129_0), ((HB.out.cell (World.block_lt_of_cell? w _ hw130_0)).trans hw130_0)⟩ (fun hHeld => ?_); refine with_tabW raddleref14_Pred.tab5 raddleref14_Pred.bits5 (fun HT_ HW_ => ?_)
                generalize wc.drew = w43 at BK121 HB hx127_0 hx129_0 hx130_0 hHeld ⊢
                refine Steps.pI_ 0 (some 57) (Steps.Bs 28 1) (any_of HT_.out z1) (h := ?_)
                refine Steps.pI_ 1 (some 58) (Steps.Bs 28 3) (any_of HT_.out z1) (h := ?_)
                refine Steps.pI_ 2 (some 59) (Steps.Bs 28 7) (any_of HT_.out z1) (h := ?_)
                refine Steps.pI_ 4 (some 61) (Steps.Bs 28 23) (any_of HT_.out z1) (h := ?_)
                refine Steps.pI_ 5 (some 62) (Steps.Bs 28 55) (any_of HT_.out z1) (h := ?_)
                refine Steps.tI_ 3 (some 60) (Steps.Bs 28 63) (take_ofW HT_.out HW_.out z1) hHeld (h := ?_)
                refine Steps.tI_ 6 (some 63) (Steps.Bs 28 127) (take_ofW HT_.out HW_.out z1) hHeld (h := ?_)
                refine Steps.pI_ 7 (some 64) (Steps.Bs 28 255) (any_of HT_.out z1) (h := ?_)
                refine Steps.tI_ 8 (some 65) (Steps.Bs 28 511) (take_ofW HT_.out HW_.out z1) hHeld (h := ?_)
                refine one_ (i := 9) (N := some 66) (Steps.Bs 28 1023) rfl rfl (one_of HT_.out z1) z10 (fun K hK => ?_)
                refine goes_ Try.func43 z1 rfl #[.agg #[.int .i64 a0_3, .int .i64 a0_4, .string a0_5], .int .i64 (rd l1 a0_1)] z12 rfl rfl z6 ?_
                with_reducible refine (raddleref01_Fits.calls a0_3 a0_4 a0_5 (rd l1 a0_1) true _ A37.out).mono ?_
                rintro e w44 ⟨rfl, hb⟩
                refine ⟨_, rfl, ?_⟩
                have n0_ := mk_ (bB_ BK121 hb)
                have n1_ := mk_ (below_step (Short.hB HB) hb)
                clear BK121 HB
                revert n0_ n1_
                intro BK121 HB
                (try clear hb)
                (try clear hb2)
                (try clear hk)
                (try clear hi)
                refine hK.out _ _ ⟨(blk_cell BK121.out 0).trans rfl, (blk_cell BK121.out 1).trans rfl, (blk_cell BK121.out 2).trans rfl, (blk_cell BK121.out 3).trans rfl, (blk_cell BK121.out 4).trans rfl, (blk_cell BK121.out 5).trans rfl, ((HB.out.cell (World.block_lt_of_cell? w _ hw127_0)).trans hw127_0), ((HB.out.cell (World.block_lt_of_cell? w _ hw129_0)).trans hw129_0), ((HB.out.cell (World.block_lt_of_cell? w _ hw130_0)).trans hw130_0)⟩ (fun hHeld => ?_)
                clear hK K
                refine norm_ (a' := ?_) ?_ ?_
                rotate_left
                ·
                 show Act.put _ (some 66) _ = _
                 simp only [Act.put, List.setIfInBounds_toArray, List.set_cons_zero, List.set_cons_succ, i64_w, i32_w]
                 rfl
                refine Steps.pI_ 10 (some 67) (Steps.Bs 28 2047) (any_of HT_.out z1) (h := ?_)
                refine Steps.pI_ 11 (some 68) (Steps.Bs 28 4095) (any_of HT_.out z1) (h := ?_)
                refine Steps.pI_ 12 (some 69) (Steps.Bs 28 8191) (any_of HT_.out z1) (h := ?_)
                refine Steps.pI_ 13 (some 70) (Steps.Bs 28 16383) (any_of HT_.out z1) (h := ?_)
                refine Steps.pI_ 14 (some 71) (Steps.Bs 28 32767) (any_of HT_.out z1) (h := ?_)
                refine Steps.pI_ 15 (some 72) (Steps.Bs 28 65535) (any_of HT_.out z1) (h := ?_)
                refine Steps.pI_ 16 (some 73) (Steps.Bs 28 131071) (any_of HT_.out z1) (h := ?_)
                refine Steps.pI_ 20 (some 77) (Steps.Bs 28 1179647) (any_of HT_.out z1) (h := ?_)
                refine Steps.pI_ 21 (some 78) (Steps.Bs 28 3276799) (any_of HT_.out z1) (h := ?_)
                refine Steps.tI_ 17 (some 74) (Steps.Bs 28 3407871) (take_ofW HT_.out HW_.out z1) hHeld (h := ?_)
                refine Steps.pI_ 18 (some 75) (Steps.Bs 28 3670015) (any_of HT_.out z1) (h := ?_)
                refine Steps.tI_ 19 (some 76) (Steps.Bs 28 4194303) (take_ofW HT_.out HW_.out z1) hHeld (h := ?_)
                refine Steps.tI_ 22 (some 79) (Steps.Bs 28 8388607) (take_ofW HT_.out HW_.out z1) hHeld (h := ?_)
                refine Steps.pI_ 23 (some 80) (Steps.Bs 28 16777215) (any_of HT_.out z1) (h := ?_)
                refine Steps.tI_ 24 (some 81) (Steps.Bs 28 33554431) (take_ofW HT_.out HW_.out z1) hHeld (h := ?_)
                refine Steps.pI_ 25 (some 82) (Steps.Bs 28 67108863) (any_of HT_.out z1) (h := ?_)
                refine Steps.pI_ 26 (some 83) (Steps.Bs 28 134217727) (any_of HT_.out z1) (h := ?_)
                refine Steps.pI_ 27 (some 84) (Steps.Bs 28 268435455) (any_of HT_.out z1) (h := ?_)
                refine done_ (done_of HT_.out z1) ?_
                try go_wp2
                go_ret
                exact ⟨by first | rfl | (simp [errW_none, errW_some] <;> rfl) | (simp [*, errW_none, errW_some] <;> rfl), Short.hB HB⟩
               ·
                rw [if_neg c42] at H
                have c42b0 : ((rd l1 a0_2) == (rd l1 a0_1)) = false := beq_eq_false_iff_ne.mpr c42
                have c42b1 : ((rd l1 a0_2) != (rd l1 a0_1)) = true := bne_iff_ne.mpr c42
                obtain rfl := Option.some.inj H
                try go_wp2
                have n0_ := mk_ (blk_drew BK121.out)
                have n1_ := mk_ (below_drew1 HB.out)
                clear BK121 HB
                revert n0_ n1_
                intro BK121 HB
                have p127 : 0 ≤ (a0_1 : Int) := of_decide_eq_true z4
                have q127 : a0_1 < (l1.length : Int) := of_decide_eq_true z4
                obtain ⟨ad127, e127, hx127_0⟩ := Kd.at_int HR1.out a0_1 p127 q127
                have hw127_0 := hx127_0
                cases e127
                replace hx127_0 := (HB.out.cell (World.block_lt_of_cell? w _ hx127_0)).trans hx127_0
                replace p127 := eq_true p127
                replace q127 := eq_true q127
                have p129 : 0 ≤ (a0_2 : Int) := of_decide_eq_true z4
                have q129 : a0_2 < (l1.length : Int) := of_decide_eq_true z4
                obtain ⟨ad129, e129, hx129_0⟩ := Kd.at_int HR1.out a0_2 p129 q129
                have hw129_0 := hx129_0
                obtain rfl : ad127 = ad129 := (by injection e129)
                replace hx129_0 := (HB.out.cell (World.block_lt_of_cell? w _ hx129_0)).trans hx129_0
                replace p129 := eq_true p129
                replace q129 := eq_true q129
                have p130 : 0 ≤ (a0_1 : Int) := of_decide_eq_true z4
                have q130 : a0_1 < (l1.length : Int) := of_decide_eq_true z4
                obtain ⟨ad130, e130, hx130_0⟩ := Kd.at_int HR1.out a0_1 p130 q130
                have hw130_0 := hx130_0
                obtain rfl : ad127 = ad130 := (by injection e130)
                replace hx130_0 := (HB.out.cell (World.block_lt_of_cell? w _ hx130_0)).trans hx130_0
                replace p130 := eq_true p130
                replace q130 := eq_true q130
                refine start_ (n := 28) (S := fun w' => w'.cell? ⟨gb121, 0, none⟩ = some (.int .i64 a0_0) ∧ w'.cell? ⟨gb121, 1, none⟩ = some (.int .i64 a0_1) ∧ w'.cell? ⟨gb121, 2, none⟩ = some (.int .i64 a0_2) ∧ w'.cell? ⟨gb121, 3, none⟩ = some (.int .i64 a0_3) ∧ w'.cell? ⟨gb121, 4, none⟩ = some (.int .i64 a0_4) ∧ w'.cell? ⟨gb121, 5, none⟩ = some (.string a0_5) ∧ w'.cell? (ad127.add (a0_1).toNat) = some (.int .i64 (rd l1 a0_1)) ∧ w'.cell? (ad127.add (a0_2).toNat) = some (.int .i64 (rd l1 a0_2)) ∧ w'.cell? (ad127.add (a0_1).toNat) = some (.int .i64 (rd l1 a0_1))) (ds := []) (Steps.Bs 28 0) z1 rfl rfl ⟨(blk_cell BK121.out 0).trans rfl, (blk_cell BK121.out 1).trans rfl, (blk_cell BK121.out 2).trans rfl, (blk_cell BK121.out 3).trans rfl, (blk_cell BK121.out 4).trans rfl, (blk_cell BK121.out 5).trans rfl, ((HB.out.cell (World.block_lt_of_cell? w _ hw127_0)).trans hw127_0), ((HB.out.cell (World.block_lt_of_cell? w _ hw129_0)).trans hw129_0), ((HB.out.cell (World.block_lt_of_cell? w _ hw130_0)).trans hw130_0)⟩ (fun hHeld => ?_); refine with_tabW raddleref14_Pred.tab5 raddleref14_Pred.bits5 (fun HT_ HW_ => ?_)
                generalize wc.drew = w45 at BK121 HB hx127_0 hx129_0 hx130_0 hHeld ⊢
                refine Steps.pI_ 0 (some 57) (Steps.Bs 28 1) (any_of HT_.out z1) (h := ?_)
                refine Steps.pI_ 1 (some 58) (Steps.Bs 28 3) (any_of HT_.out z1) (h := ?_)
                refine Steps.pI_ 2 (some 59) (Steps.Bs 28 7) (any_of HT_.out z1) (h := ?_)
                refine Steps.pI_ 4 (some 61) (Steps.Bs 28 23) (any_of HT_.out z1) (h := ?_)
                refine Steps.pI_ 5 (some 62) (Steps.Bs 28 55) (any_of HT_.out z1) (h := ?_)
                refine Steps.tI_ 3 (some 60) (Steps.Bs 28 63) (take_ofW HT_.out HW_.out z1) hHeld (h := ?_)
                refine Steps.tI_ 6 (some 63) (Steps.Bs 28 127) (take_ofW HT_.out HW_.out z1) hHeld (h := ?_)
                refine Steps.pI_ 7 (some 64) (Steps.Bs 28 255) (any_of HT_.out z1) (h := ?_)
                refine Steps.tI_ 8 (some 65) (Steps.Bs 28 511) (take_ofW HT_.out HW_.out z1) hHeld (h := ?_)
                refine one_ (i := 9) (N := some 66) (Steps.Bs 28 1023) rfl rfl (one_of HT_.out z1) z10 (fun K hK => ?_)
                refine goes_ Try.func43 z1 rfl #[.agg #[.int .i64 a0_3, .int .i64 a0_4, .string a0_5], .int .i64 (rd l1 a0_1)] z12 rfl rfl z6 ?_
                with_reducible refine (raddleref01_Fits.calls a0_3 a0_4 a0_5 (rd l1 a0_1) true _ A37.out).mono ?_
                rintro e w46 ⟨rfl, hb⟩
                refine ⟨_, rfl, ?_⟩
                have n0_ := mk_ (bB_ BK121 hb)
                have n1_ := mk_ (below_step (Short.hB HB) hb)
                clear BK121 HB
                revert n0_ n1_
                intro BK121 HB
                (try clear hb)
                (try clear hb2)
                (try clear hk)
                (try clear hi)
                refine hK.out _ _ ⟨(blk_cell BK121.out 0).trans rfl, (blk_cell BK121.out 1).trans rfl, (blk_cell BK121.out 2).trans rfl, (blk_cell BK121.out 3).trans rfl, (blk_cell BK121.out 4).trans rfl, (blk_cell BK121.out 5).trans rfl, ((HB.out.cell (World.block_lt_of_cell? w _ hw127_0)).trans hw127_0), ((HB.out.cell (World.block_lt_of_cell? w _ hw129_0)).trans hw129_0), ((HB.out.cell (World.block_lt_of_cell? w _ hw130_0)).trans hw130_0)⟩ (fun hHeld => ?_)
                clear hK K
                refine norm_ (a' := ?_) ?_ ?_
                rotate_left
                ·
                 show Act.put _ (some 66) _ = _
                 simp only [Act.put, List.setIfInBounds_toArray, List.set_cons_zero, List.set_cons_succ, i64_w, i32_w]
                 rfl
                refine Steps.pI_ 10 (some 67) (Steps.Bs 28 2047) (any_of HT_.out z1) (h := ?_)
                refine Steps.pI_ 11 (some 68) (Steps.Bs 28 4095) (any_of HT_.out z1) (h := ?_)
                refine Steps.pI_ 12 (some 69) (Steps.Bs 28 8191) (any_of HT_.out z1) (h := ?_)
                refine Steps.pI_ 13 (some 70) (Steps.Bs 28 16383) (any_of HT_.out z1) (h := ?_)
                refine Steps.pI_ 14 (some 71) (Steps.Bs 28 32767) (any_of HT_.out z1) (h := ?_)
                refine Steps.pI_ 15 (some 72) (Steps.Bs 28 65535) (any_of HT_.out z1) (h := ?_)
                refine Steps.pI_ 16 (some 73) (Steps.Bs 28 131071) (any_of HT_.out z1) (h := ?_)
                refine Steps.pI_ 20 (some 77) (Steps.Bs 28 1179647) (any_of HT_.out z1) (h := ?_)
                refine Steps.pI_ 21 (some 78) (Steps.Bs 28 3276799) (any_of HT_.out z1) (h := ?_)
                refine Steps.tI_ 17 (some 74) (Steps.Bs 28 3407871) (take_ofW HT_.out HW_.out z1) hHeld (h := ?_)
                refine Steps.pI_ 18 (some 75) (Steps.Bs 28 3670015) (any_of HT_.out z1) (h := ?_)
                refine Steps.tI_ 19 (some 76) (Steps.Bs 28 4194303) (take_ofW HT_.out HW_.out z1) hHeld (h := ?_)
                refine Steps.tI_ 22 (some 79) (Steps.Bs 28 8388607) (take_ofW HT_.out HW_.out z1) hHeld (h := ?_)
                refine Steps.pI_ 23 (some 80) (Steps.Bs 28 16777215) (any_of HT_.out z1) (h := ?_)
                refine Steps.tI_ 24 (some 81) (Steps.Bs 28 33554431) (take_ofW HT_.out HW_.out z1) hHeld (h := ?_)
                refine Steps.pI_ 25 (some 82) (Steps.Bs 28 67108863) (any_of HT_.out z1) (h := ?_)
                refine Steps.pI_ 26 (some 83) (Steps.Bs 28 134217727) (any_of HT_.out z1) (h := ?_)
                refine Steps.pI_ 27 (some 84) (Steps.Bs 28 268435455) (any_of HT_.out z1) (h := ?_)
                refine done_ (done_of HT_.out z1) ?_
                try go_wp2
                go_ret
                exact ⟨by first | rfl | (simp [errW_none, errW_some] <;> rfl) | (simp [*, errW_none, errW_some] <;> rfl), Short.hB HB⟩
              ·
               rw [if_neg c41] at H
               exact absurd H (by simp)
             ·
              rw [if_neg c40] at H
              exact absurd H (by simp)
            ·
             replace c39 := Bool.eq_false_iff.mpr c39
             subst c39
             have H1 : (some 0) = some r := by rw [if_neg (show ¬ (false = true) by decide)] at H; exact H
             clear H
             have H := H1
             clear H1
             obtain rfl := Option.some.inj H
             try go_wp2
             have n0_ := mk_ (blk_drew BK121.out)
             have n1_ := mk_ (below_drew1 HB.out)
             clear BK121 HB
             revert n0_ n1_
             intro BK121 HB
             have p127 : 0 ≤ (a0_1 : Int) := of_decide_eq_true z4
             have q127 : a0_1 < (l1.length : Int) := of_decide_eq_true z4
             obtain ⟨ad127, e127, hx127_0⟩ := Kd.at_int HR1.out a0_1 p127 q127
             have hw127_0 := hx127_0
             cases e127
             replace hx127_0 := (HB.out.cell (World.block_lt_of_cell? w _ hx127_0)).trans hx127_0
             replace p127 := eq_true p127
             replace q127 := eq_true q127
             refine start_ (n := 28) (S := fun w' => w'.cell? ⟨gb121, 0, none⟩ = some (.int .i64 a0_0) ∧ w'.cell? ⟨gb121, 1, none⟩ = some (.int .i64 a0_1) ∧ w'.cell? ⟨gb121, 2, none⟩ = some (.int .i64 a0_2) ∧ w'.cell? ⟨gb121, 3, none⟩ = some (.int .i64 a0_3) ∧ w'.cell? ⟨gb121, 4, none⟩ = some (.int .i64 a0_4) ∧ w'.cell? ⟨gb121, 5, none⟩ = some (.string a0_5) ∧ w'.cell? (ad127.add (a0_1).toNat) = some (.int .i64 (rd l1 a0_1))) (ds := []) (Steps.Bs 28 0) z1 rfl rfl ⟨(blk_cell BK121.out 0).trans rfl, (blk_cell BK121.out 1).trans rfl, (blk_cell BK121.out 2).trans rfl, (blk_cell BK121.out 3).trans rfl, (blk_cell BK121.out 4).trans rfl, (blk_cell BK121.out 5).trans rfl, ((HB.out.cell (World.block_lt_of_cell? w _ hw127_0)).trans hw127_0)⟩ (fun hHeld => ?_); refine with_tabW raddleref14_Pred.tab5 raddleref14_Pred.bits5 (fun HT_ HW_ => ?_)
             generalize wc.drew = w47 at BK121 HB hx127_0 hHeld ⊢
             refine Steps.pI_ 0 (some 57) (Steps.Bs 28 1) (any_of HT_.out z1) (h := ?_)
             refine Steps.pI_ 1 (some 58) (Steps.Bs 28 3) (any_of HT_.out z1) (h := ?_)
             refine Steps.pI_ 2 (some 59) (Steps.Bs 28 7) (any_of HT_.out z1) (h := ?_)
             refine Steps.pI_ 4 (some 61) (Steps.Bs 28 23) (any_of HT_.out z1) (h := ?_)
             refine Steps.pI_ 5 (some 62) (Steps.Bs 28 55) (any_of HT_.out z1) (h := ?_)
             refine Steps.tI_ 3 (some 60) (Steps.Bs 28 63) (take_ofW HT_.out HW_.out z1) hHeld (h := ?_)
             refine Steps.tI_ 6 (some 63) (Steps.Bs 28 127) (take_ofW HT_.out HW_.out z1) hHeld (h := ?_)
             refine Steps.pI_ 7 (some 64) (Steps.Bs 28 255) (any_of HT_.out z1) (h := ?_)
             refine Steps.tI_ 8 (some 65) (Steps.Bs 28 511) (take_ofW HT_.out HW_.out z1) hHeld (h := ?_)
             refine one_ (i := 9) (N := some 66) (Steps.Bs 28 1023) rfl rfl (one_of HT_.out z1) z10 (fun K hK => ?_)
             refine goes_ Try.func43 z1 rfl #[.agg #[.int .i64 a0_3, .int .i64 a0_4, .string a0_5], .int .i64 (rd l1 a0_1)] z12 rfl rfl z6 ?_
             with_reducible refine (raddleref01_Fits.calls a0_3 a0_4 a0_5 (rd l1 a0_1) true _ A37.out).mono ?_
             rintro e w48 ⟨rfl, hb⟩
             refine ⟨_, rfl, ?_⟩
             have n0_ := mk_ (bB_ BK121 hb)
             have n1_ := mk_ (below_step (Short.hB HB) hb)
             clear BK121 HB
             revert n0_ n1_
             intro BK121 HB
             (try clear hb)
             (try clear hb2)
             (try clear hk)
             (try clear hi)
             refine hK.out _ _ ⟨(blk_cell BK121.out 0).trans rfl, (blk_cell BK121.out 1).trans rfl, (blk_cell BK121.out 2).trans rfl, (blk_cell BK121.out 3).trans rfl, (blk_cell BK121.out 4).trans rfl, (blk_cell BK121.out 5).trans rfl, ((HB.out.cell (World.block_lt_of_cell? w _ hw127_0)).trans hw127_0)⟩ (fun hHeld => ?_)
             clear hK K
             refine norm_ (a' := ?_) ?_ ?_
             rotate_left
             ·
              show Act.put _ (some 66) _ = _
              simp only [Act.put, List.setIfInBounds_toArray, List.set_cons_zero, List.set_cons_succ, i64_w, i32_w]
              rfl
             refine Steps.pI_ 10 (some 67) (Steps.Bs 28 2047) (any_of HT_.out z1) (h := ?_)
             refine Steps.pI_ 11 (some 68) (Steps.Bs 28 4095) (any_of HT_.out z1) (h := ?_)
             refine Steps.pI_ 12 (some 69) (Steps.Bs 28 8191) (any_of HT_.out z1) (h := ?_)
             refine Steps.pI_ 13 (some 70) (Steps.Bs 28 16383) (any_of HT_.out z1) (h := ?_)
             refine Steps.pI_ 14 (some 71) (Steps.Bs 28 32767) (any_of HT_.out z1) (h := ?_)
             refine Steps.pR_ 15 (some 72) (Steps.Bs 28 65535) (any_of HT_.out z1) (h := ?_)
             refine Steps.pR_ 16 (some 73) (Steps.Bs 28 131071) (any_of HT_.out z1) (h := ?_)
             refine Steps.pR_ 17 (some 74) (Steps.Bs 28 262143) (any_of HT_.out z1) (h := ?_)
             refine Steps.pR_ 18 (some 75) (Steps.Bs 28 524287) (any_of HT_.out z1) (h := ?_)
             refine Steps.pR_ 19 (some 76) (Steps.Bs 28 1048575) (any_of HT_.out z1) (h := ?_)
             refine Steps.pR_ 20 (some 77) (Steps.Bs 28 2097151) (any_of HT_.out z1) (h := ?_)
             refine Steps.pR_ 21 (some 78) (Steps.Bs 28 4194303) (any_of HT_.out z1) (h := ?_)
             refine Steps.pR_ 22 (some 79) (Steps.Bs 28 8388607) (any_of HT_.out z1) (h := ?_)
             refine Steps.pR_ 23 (some 80) (Steps.Bs 28 16777215) (any_of HT_.out z1) (h := ?_)
             refine Steps.pR_ 24 (some 81) (Steps.Bs 28 33554431) (any_of HT_.out z1) (h := ?_)
             refine Steps.pR_ 25 (some 82) (Steps.Bs 28 67108863) (any_of HT_.out z1) (h := ?_)
             refine Steps.pI_ 26 (some 83) (Steps.Bs 28 134217727) (any_of HT_.out z1) (h := ?_)
             refine Steps.pI_ 27 (some 84) (Steps.Bs 28 268435455) (any_of HT_.out z1) (h := ?_)
             refine done_ (done_of HT_.out z1) ?_
             try go_wp2
             go_ret
             exact ⟨by first | rfl | (simp [errW_none, errW_some] <;> rfl) | (simp [*, errW_none, errW_some] <;> rfl), Short.hB HB⟩
           ·
            replace c38 := Bool.eq_false_iff.mpr c38
            subst c38
            have H1 : (some 10) = some r := by rw [if_neg (show ¬ (false = true) by decide)] at H; exact H
            clear H
            have H := H1
            clear H1
            obtain rfl := Option.some.inj H
            try go_wp2
            have n0_ := mk_ (blk_drew BK121.out)
            have n1_ := mk_ (below_drew1 HB.out)
            clear BK121 HB
            revert n0_ n1_
            intro BK121 HB
            have p127 : 0 ≤ (a0_1 : Int) := of_decide_eq_true z4
            have q127 : a0_1 < (l1.length : Int) := of_decide_eq_true z4
            obtain ⟨ad127, e127, hx127_0⟩ := Kd.at_int HR1.out a0_1 p127 q127
            have hw127_0 := hx127_0
            cases e127
            replace hx127_0 := (HB.out.cell (World.block_lt_of_cell? w _ hx127_0)).trans hx127_0
            replace p127 := eq_true p127
            replace q127 := eq_true q127
            refine start_ (n := 28) (S := fun w' => w'.cell? ⟨gb121, 0, none⟩ = some (.int .i64 a0_0) ∧ w'.cell? ⟨gb121, 1, none⟩ = some (.int .i64 a0_1) ∧ w'.cell? ⟨gb121, 2, none⟩ = some (.int .i64 a0_2) ∧ w'.cell? ⟨gb121, 3, none⟩ = some (.int .i64 a0_3) ∧ w'.cell? ⟨gb121, 4, none⟩ = some (.int .i64 a0_4) ∧ w'.cell? ⟨gb121, 5, none⟩ = some (.string a0_5) ∧ w'.cell? (ad127.add (a0_1).toNat) = some (.int .i64 (rd l1 a0_1))) (ds := []) (Steps.Bs 28 0) z1 rfl rfl ⟨(blk_cell BK121.out 0).trans rfl, (blk_cell BK121.out 1).trans rfl, (blk_cell BK121.out 2).trans rfl, (blk_cell BK121.out 3).trans rfl, (blk_cell BK121.out 4).trans rfl, (blk_cell BK121.out 5).trans rfl, ((HB.out.cell (World.block_lt_of_cell? w _ hw127_0)).trans hw127_0)⟩ (fun hHeld => ?_); refine with_tabW raddleref14_Pred.tab5 raddleref14_Pred.bits5 (fun HT_ HW_ => ?_)
            generalize wc.drew = w49 at BK121 HB hx127_0 hHeld ⊢
            refine Steps.pI_ 0 (some 57) (Steps.Bs 28 1) (any_of HT_.out z1) (h := ?_)
            refine Steps.pI_ 1 (some 58) (Steps.Bs 28 3) (any_of HT_.out z1) (h := ?_)
            refine Steps.pI_ 2 (some 59) (Steps.Bs 28 7) (any_of HT_.out z1) (h := ?_)
            refine Steps.pI_ 4 (some 61) (Steps.Bs 28 23) (any_of HT_.out z1) (h := ?_)
            refine Steps.pI_ 5 (some 62) (Steps.Bs 28 55) (any_of HT_.out z1) (h := ?_)
            refine Steps.tI_ 3 (some 60) (Steps.Bs 28 63) (take_ofW HT_.out HW_.out z1) hHeld (h := ?_)
            refine Steps.tI_ 6 (some 63) (Steps.Bs 28 127) (take_ofW HT_.out HW_.out z1) hHeld (h := ?_)
            refine Steps.pI_ 7 (some 64) (Steps.Bs 28 255) (any_of HT_.out z1) (h := ?_)
            refine Steps.tI_ 8 (some 65) (Steps.Bs 28 511) (take_ofW HT_.out HW_.out z1) hHeld (h := ?_)
            refine one_ (i := 9) (N := some 66) (Steps.Bs 28 1023) rfl rfl (one_of HT_.out z1) z10 (fun K hK => ?_)
            refine goes_ Try.func43 z1 rfl #[.agg #[.int .i64 a0_3, .int .i64 a0_4, .string a0_5], .int .i64 (rd l1 a0_1)] z12 rfl rfl z6 ?_
            with_reducible refine (raddleref01_Fits.calls a0_3 a0_4 a0_5 (rd l1 a0_1) false _ A37.out).mono ?_
            rintro e w50 ⟨rfl, hb⟩
            refine ⟨_, rfl, ?_⟩
            have n0_ := mk_ (bB_ BK121 hb)
            have n1_ := mk_ (below_step (Short.hB HB) hb)
            clear BK121 HB
            revert n0_ n1_
            intro BK121 HB
            (try clear hb)
            (try clear hb2)
            (try clear hk)
            (try clear hi)
            refine hK.out _ _ ⟨(blk_cell BK121.out 0).trans rfl, (blk_cell BK121.out 1).trans rfl, (blk_cell BK121.out 2).trans rfl, (blk_cell BK121.out 3).trans rfl, (blk_cell BK121.out 4).trans rfl, (blk_cell BK121.out 5).trans rfl, ((HB.out.cell (World.block_lt_of_cell? w _ hw127_0)).trans hw127_0)⟩ (fun hHeld => ?_)
            clear hK K
            refine norm_ (a' := ?_) ?_ ?_
            rotate_left
            ·
             show Act.put _ (some 66) _ = _
             simp only [Act.put, List.setIfInBounds_toArray, List.set_cons_zero, List.set_cons_succ, i64_w, i32_w]
             rfl
            refine Steps.pI_ 10 (some 67) (Steps.Bs 28 2047) (any_of HT_.out z1) (h := ?_)
            refine Steps.pI_ 11 (some 68) (Steps.Bs 28 4095) (any_of HT_.out z1) (h := ?_)
            refine Steps.pI_ 12 (some 69) (Steps.Bs 28 8191) (any_of HT_.out z1) (h := ?_)
            refine Steps.pR_ 13 (some 70) (Steps.Bs 28 16383) (any_of HT_.out z1) (h := ?_)
            refine Steps.pR_ 14 (some 71) (Steps.Bs 28 32767) (any_of HT_.out z1) (h := ?_)
            refine Steps.pR_ 15 (some 72) (Steps.Bs 28 65535) (any_of HT_.out z1) (h := ?_)
            refine Steps.pR_ 16 (some 73) (Steps.Bs 28 131071) (any_of HT_.out z1) (h := ?_)
            refine Steps.pR_ 17 (some 74) (Steps.Bs 28 262143) (any_of HT_.out z1) (h := ?_)
            refine Steps.pR_ 18 (some 75) (Steps.Bs 28 524287) (any_of HT_.out z1) (h := ?_)
            refine Steps.pR_ 19 (some 76) (Steps.Bs 28 1048575) (any_of HT_.out z1) (h := ?_)
            refine Steps.pR_ 20 (some 77) (Steps.Bs 28 2097151) (any_of HT_.out z1) (h := ?_)
            refine Steps.pR_ 21 (some 78) (Steps.Bs 28 4194303) (any_of HT_.out z1) (h := ?_)
            refine Steps.pR_ 22 (some 79) (Steps.Bs 28 8388607) (any_of HT_.out z1) (h := ?_)
            refine Steps.pR_ 23 (some 80) (Steps.Bs 28 16777215) (any_of HT_.out z1) (h := ?_)
            refine Steps.pR_ 24 (some 81) (Steps.Bs 28 33554431) (any_of HT_.out z1) (h := ?_)
            refine Steps.pR_ 25 (some 82) (Steps.Bs 28 67108863) (any_of HT_.out z1) (h := ?_)
            refine Steps.pR_ 26 (some 83) (Steps.Bs 28 134217727) (any_of HT_.out z1) (h := ?_)
            refine Steps.pI_ 27 (some 84) (Steps.Bs 28 268435455) (any_of HT_.out z1) (h := ?_)
            refine done_ (done_of HT_.out z1) ?_
            try go_wp2
            go_ret
            exact ⟨by first | rfl | (simp [errW_none, errW_some] <;> rfl) | (simp [*, errW_none, errW_some] <;> rfl), Short.hB HB⟩
          ·
           rw [if_neg c36] at H
           exact absurd H (by simp)
         ·
          rw [if_neg c35] at H
          exact absurd H (by simp)
        ·
         replace c34 := Bool.eq_false_iff.mpr c34
         subst c34
         have H1 : (if x5_2 = true then (if 0 ≤ a0_2 then (if a0_2 < (l1.length : Int) then (if 0 ≤ a0_1 then (if a0_1 < (l1.length : Int) then (if (rd l1 a0_2) = (rd l1 a0_1) then (some 0) else (some 10)) else (none)) else (none)) else (none)) else (none)) else (some 0)) = some r := by rw [if_neg (show ¬ (false = true) by decide)] at H; exact H
         clear H
         have H := H1
         clear H1
         by_cases c51 : x5_2 = true
         ·
          subst c51
          have H1 : (if 0 ≤ a0_2 then (if a0_2 < (l1.length : Int) then (if 0 ≤ a0_1 then (if a0_1 < (l1.length : Int) then (if (rd l1 a0_2) = (rd l1 a0_1) then (some 0) else (some 10)) else (none)) else (none)) else (none)) else (none)) = some r := by rw [if_pos rfl] at H; exact H
          clear H
          have H := H1
          clear H1
          by_cases c52 : 0 ≤ a0_2
          ·
           rw [if_pos c52] at H
           have c52b0 : decide (0 ≤ a0_2) = true := decide_eq_true c52
           clear c52
           by_cases c53 : a0_2 < (l1.length : Int)
           ·
            rw [if_pos c53] at H
            have c53b0 : decide (a0_2 < (l1.length : Int)) = true := decide_eq_true c53
            clear c53
            by_cases c54 : 0 ≤ a0_1
            ·
             rw [if_pos c54] at H
             have c54b0 : decide (0 ≤ a0_1) = true := decide_eq_true c54
             clear c54
             by_cases c55 : a0_1 < (l1.length : Int)
             ·
              rw [if_pos c55] at H
              have c55b0 : decide (a0_1 < (l1.length : Int)) = true := decide_eq_true c55
              clear c55
              by_cases c56 : (rd l1 a0_2) = (rd l1 a0_1)
              ·
               rw [if_pos c56] at H
               have c56b0 : ((rd l1 a0_2) == (rd l1 a0_1)) = true := beq_iff_eq.mpr c56
               have c56b1 : ((rd l1 a0_2) != (rd l1 a0_1)) = false := bne_eq_false_iff_eq.mpr c56
               clear c56
               obtain rfl := Option.some.inj H
               try go_wp2
               have n0_ := mk_ (blk_drew BK121.out)
               have n1_ := mk_ (below_drew1 HB.out)
               clear BK121 HB
               revert n0_ n1_
               intro BK121 HB
               have p131 : 0 ≤ (a0_2 : Int) := of_decide_eq_true z4
               have q131 : a0_2 < (l1.length : Int) := of_decide_eq_true z4
               obtain ⟨ad131, e131, hx131_0⟩ := Kd.at_int HR1.out a0_2 p131 q131
               have hw131_0 := hx131_0
               cases e131
               replace hx131_0 := (HB.out.cell (World.block_lt_of_cell? w _ hx131_0)).trans hx131_0
               replace p131 := eq_true p131
               replace q131 := eq_true q131
               have p132 : 0 ≤ (a0_1 : Int) := of_decide_eq_true z4
               have q132 : a0_1 < (l1.length : Int) := of_decide_eq_true z4
               obtain ⟨ad132, e132, hx132_0⟩ := Kd.at_int HR1.out a0_1 p132 q132
               have hw132_0 := hx132_0
               obtain rfl : ad131 = ad132 := (by injection e132)
               replace hx132_0 := (HB.out.cell (World.block_lt_of_cell? w _ hx132_0)).trans hx132_0
               replace p132 := eq_true p132
               replace q132 := eq_true q132
               refine start_ (n := 28) (S := fun w' => w'.cell? ⟨gb121, 0, none⟩ = some (.int .i64 a0_0) ∧ w'.cell? ⟨gb121, 1, none⟩ = some (.int .i64 a0_1) ∧ w'.cell? ⟨gb121, 2, none⟩ = some (.int .i64 a0_2) ∧ w'.cell? ⟨gb121, 3, none⟩ = some (.int .i64 a0_3) ∧ w'.cell? ⟨gb121, 4, none⟩ = some (.int .i64 a0_4) ∧ w'.cell? ⟨gb121, 5, none⟩ = some (.string a0_5) ∧ w'.cell? (ad131.add (a0_2).toNat) = some (.int .i64 (rd l1 a0_2)) ∧ w'.cell? (ad131.add (a0_1).toNat) = some (.int .i64 (rd l1 a0_1))) (ds := []) (Steps.Bs 28 0) z1 rfl rfl ⟨(blk_cell BK121.out 0).trans rfl, (blk_cell BK121.out 1).trans rfl, (blk_cell BK121.out 2).trans rfl, (blk_cell BK121.out 3).trans rfl, (blk_cell BK121.out 4).trans rfl, (blk_cell BK121.out 5).trans rfl, ((HB.out.cell (World.block_lt_of_cell? w _ hw131_0)).trans hw131_0), ((HB.out.cell (World.block_lt_of_cell? w _ hw132_0)).trans hw132_0)⟩ (fun hHeld => ?_); refine with_tabW raddleref14_Pred.tab5 raddleref14_Pred.bits5 (fun HT_ HW_ => ?_)
               generalize wc.drew = w57 at BK121 HB hx131_0 hx132_0 hHeld ⊢
               refine Steps.pI_ 0 (some 57) (Steps.Bs 28 1) (any_of HT_.out z1) (h := ?_)
               refine Steps.pI_ 1 (some 58) (Steps.Bs 28 3) (any_of HT_.out z1) (h := ?_)
               refine Steps.pR_ 2 (some 59) (Steps.Bs 28 7) (any_of HT_.out z1) (h := ?_)
               refine Steps.pR_ 3 (some 60) (Steps.Bs 28 15) (any_of HT_.out z1) (h := ?_)
               refine Steps.pR_ 4 (some 61) (Steps.Bs 28 31) (any_of HT_.out z1) (h := ?_)
               refine Steps.pR_ 5 (some 62) (Steps.Bs 28 63) (any_of HT_.out z1) (h := ?_)
               refine Steps.pR_ 6 (some 63) (Steps.Bs 28 127) (any_of HT_.out z1) (h := ?_)
               refine Steps.pR_ 7 (some 64) (Steps.Bs 28 255) (any_of HT_.out z1) (h := ?_)
               refine Steps.pR_ 8 (some 65) (Steps.Bs 28 511) (any_of HT_.out z1) (h := ?_)
               refine Steps.pR_ 9 (some 66) (Steps.Bs 28 1023) (any_of HT_.out z1) (h := ?_)
               refine Steps.pR_ 10 (some 67) (Steps.Bs 28 2047) (any_of HT_.out z1) (h := ?_)
               refine Steps.pI_ 11 (some 68) (Steps.Bs 28 4095) (any_of HT_.out z1) (h := ?_)
               refine Steps.pI_ 12 (some 69) (Steps.Bs 28 8191) (any_of HT_.out z1) (h := ?_)
               refine Steps.pI_ 13 (some 70) (Steps.Bs 28 16383) (any_of HT_.out z1) (h := ?_)
               refine Steps.pI_ 14 (some 71) (Steps.Bs 28 32767) (any_of HT_.out z1) (h := ?_)
               refine Steps.pI_ 15 (some 72) (Steps.Bs 28 65535) (any_of HT_.out z1) (h := ?_)
               refine Steps.pI_ 16 (some 73) (Steps.Bs 28 131071) (any_of HT_.out z1) (h := ?_)
               refine Steps.pI_ 20 (some 77) (Steps.Bs 28 1179647) (any_of HT_.out z1) (h := ?_)
               refine Steps.pI_ 21 (some 78) (Steps.Bs 28 3276799) (any_of HT_.out z1) (h := ?_)
               refine Steps.tI_ 17 (some 74) (Steps.Bs 28 3407871) (take_ofW HT_.out HW_.out z1) hHeld (h := ?_)
               refine Steps.pI_ 18 (some 75) (Steps.Bs 28 3670015) (any_of HT_.out z1) (h := ?_)
               refine Steps.tI_ 19 (some 76) (Steps.Bs 28 4194303) (take_ofW HT_.out HW_.out z1) hHeld (h := ?_)
               refine Steps.tI_ 22 (some 79) (Steps.Bs 28 8388607) (take_ofW HT_.out HW_.out z1) hHeld (h := ?_)
               refine Steps.pI_ 23 (some 80) (Steps.Bs 28 16777215) (any_of HT_.out z1) (h := ?_)
               refine Steps.tI_ 24 (some 81) (Steps.Bs 28 33554431) (take_ofW HT_.out HW_.out z1) hHeld (h := ?_)
               refine Steps.pI_ 25 (some 82) (Steps.Bs 28 67108863) (any_of HT_.out z1) (h := ?_)
               refine Steps.pI_ 26 (some 83) (Steps.Bs 28 134217727) (any_of HT_.out z1) (h := ?_)
               refine Steps.pI_ 27 (some 84) (Steps.Bs 28 268435455) (any_of HT_.out z1) (h := ?_)
               refine done_ (done_of HT_.out z1) ?_
               try go_wp2
               go_ret
               exact ⟨by first | rfl | (simp [errW_none, errW_some] <;> rfl) | (simp [*, errW_none, errW_some] <;> rfl), Short.hB HB⟩
              ·
               rw [if_neg c56] at H
               have c56b0 : ((rd l1 a0_2) == (rd l1 a0_1)) = false := beq_eq_false_iff_ne.mpr c56
               have c56b1 : ((rd l1 a0_2) != (rd l1 a0_1)) = true := bne_iff_ne.mpr c56
               obtain rfl := Option.some.inj H
               try go_wp2
               have n0_ := mk_ (blk_drew BK121.out)
               have n1_ := mk_ (below_drew1 HB.out)
               clear BK121 HB
               revert n0_ n1_
               intro BK121 HB
               have p131 : 0 ≤ (a0_2 : Int) := of_decide_eq_true z4
               have q131 : a0_2 < (l1.length : Int) := of_decide_eq_true z4
               obtain ⟨ad131, e131, hx131_0⟩ := Kd.at_int HR1.out a0_2 p131 q131
               have hw131_0 := hx131_0
               cases e131
               replace hx131_0 := (HB.out.cell (World.block_lt_of_cell? w _ hx131_0)).trans hx131_0
               replace p131 := eq_true p131
               replace q131 := eq_true q131
               have p132 : 0 ≤ (a0_1 : Int) := of_decide_eq_true z4
               have q132 : a0_1 < (l1.length : Int) := of_decide_eq_true z4
               obtain ⟨ad132, e132, hx132_0⟩ := Kd.at_int HR1.out a0_1 p132 q132
               have hw132_0 := hx132_0
               obtain rfl : ad131 = ad132 := (by injection e132)
               replace hx132_0 := (HB.out.cell (World.block_lt_of_cell? w _ hx132_0)).trans hx132_0
               replace p132 := eq_true p132
               replace q132 := eq_true q132
               refine start_ (n := 28) (S := fun w' => w'.cell? ⟨gb121, 0, none⟩ = some (.int .i64 a0_0) ∧ w'.cell? ⟨gb121, 1, none⟩ = some (.int .i64 a0_1) ∧ w'.cell? ⟨gb121, 2, none⟩ = some (.int .i64 a0_2) ∧ w'.cell? ⟨gb121, 3, none⟩ = some (.int .i64 a0_3) ∧ w'.cell? ⟨gb121, 4, none⟩ = some (.int .i64 a0_4) ∧ w'.cell? ⟨gb121, 5, none⟩ = some (.string a0_5) ∧ w'.cell? (ad131.add (a0_2).toNat) = some (.int .i64 (rd l1 a0_2)) ∧ w'.cell? (ad131.add (a0_1).toNat) = some (.int .i64 (rd l1 a0_1))) (ds := []) (Steps.Bs 28 0) z1 rfl rfl ⟨(blk_cell BK121.out 0).trans rfl, (blk_cell BK121.out 1).trans rfl, (blk_cell BK121.out 2).trans rfl, (blk_cell BK121.out 3).trans rfl, (blk_cell BK121.out 4).trans rfl, (blk_cell BK121.out 5).trans rfl, ((HB.out.cell (World.block_lt_of_cell? w _ hw131_0)).trans hw131_0), ((HB.out.cell (World.block_lt_of_cell? w _ hw132_0)).trans hw132_0)⟩ (fun hHeld => ?_); refine with_tabW raddleref14_Pred.tab5 raddleref14_Pred.bits5 (fun HT_ HW_ => ?_)
               generalize wc.drew = w58 at BK121 HB hx131_0 hx132_0 hHeld ⊢
               refine Steps.pI_ 0 (some 57) (Steps.Bs 28 1) (any_of HT_.out z1) (h := ?_)
               refine Steps.pI_ 1 (some 58) (Steps.Bs 28 3) (any_of HT_.out z1) (h := ?_)
               refine Steps.pR_ 2 (some 59) (Steps.Bs 28 7) (any_of HT_.out z1) (h := ?_)
               refine Steps.pR_ 3 (some 60) (Steps.Bs 28 15) (any_of HT_.out z1) (h := ?_)
               refine Steps.pR_ 4 (some 61) (Steps.Bs 28 31) (any_of HT_.out z1) (h := ?_)
               refine Steps.pR_ 5 (some 62) (Steps.Bs 28 63) (any_of HT_.out z1) (h := ?_)
               refine Steps.pR_ 6 (some 63) (Steps.Bs 28 127) (any_of HT_.out z1) (h := ?_)
               refine Steps.pR_ 7 (some 64) (Steps.Bs 28 255) (any_of HT_.out z1) (h := ?_)
               refine Steps.pR_ 8 (some 65) (Steps.Bs 28 511) (any_of HT_.out z1) (h := ?_)
               refine Steps.pR_ 9 (some 66) (Steps.Bs 28 1023) (any_of HT_.out z1) (h := ?_)
               refine Steps.pR_ 10 (some 67) (Steps.Bs 28 2047) (any_of HT_.out z1) (h := ?_)
               refine Steps.pI_ 11 (some 68) (Steps.Bs 28 4095) (any_of HT_.out z1) (h := ?_)
               refine Steps.pI_ 12 (some 69) (Steps.Bs 28 8191) (any_of HT_.out z1) (h := ?_)
               refine Steps.pI_ 13 (some 70) (Steps.Bs 28 16383) (any_of HT_.out z1) (h := ?_)
               refine Steps.pI_ 14 (some 71) (Steps.Bs 28 32767) (any_of HT_.out z1) (h := ?_)
               refine Steps.pI_ 15 (some 72) (Steps.Bs 28 65535) (any_of HT_.out z1) (h := ?_)
               refine Steps.pI_ 16 (some 73) (Steps.Bs 28 131071) (any_of HT_.out z1) (h := ?_)
               refine Steps.pI_ 20 (some 77) (Steps.Bs 28 1179647) (any_of HT_.out z1) (h := ?_)
               refine Steps.pI_ 21 (some 78) (Steps.Bs 28 3276799) (any_of HT_.out z1) (h := ?_)
               refine Steps.tI_ 17 (some 74) (Steps.Bs 28 3407871) (take_ofW HT_.out HW_.out z1) hHeld (h := ?_)
               refine Steps.pI_ 18 (some 75) (Steps.Bs 28 3670015) (any_of HT_.out z1) (h := ?_)
               refine Steps.tI_ 19 (some 76) (Steps.Bs 28 4194303) (take_ofW HT_.out HW_.out z1) hHeld (h := ?_)
               refine Steps.tI_ 22 (some 79) (Steps.Bs 28 8388607) (take_ofW HT_.out HW_.out z1) hHeld (h := ?_)
               refine Steps.pI_ 23 (some 80) (Steps.Bs 28 16777215) (any_of HT_.out z1) (h := ?_)
               refine Steps.tI_ 24 (some 81) (Steps.Bs 28 33554431) (take_ofW HT_.out HW_.out z1) hHeld (h := ?_)
               refine Steps.pI_ 25 (some 82) (Steps.Bs 28 67108863) (any_of HT_.out z1) (h := ?_)
               refine Steps.pI_ 26 (some 83) (Steps.Bs 28 134217727) (any_of HT_.out z1) (h := ?_)
               refine Steps.pI_ 27 (some 84) (Steps.Bs 28 268435455) (any_of HT_.out z1) (h := ?_)
               refine done_ (done_of HT_.out z1) ?_
               try go_wp2
               go_ret
               exact ⟨by first | rfl | (simp [errW_none, errW_some] <;> rfl) | (simp [*, errW_none, errW_some] <;> rfl), Short.hB HB⟩
             ·
              rw [if_neg c55] at H
              exact absurd H (by simp)
            ·
             rw [if_neg c54] at H
             exact absurd H (by simp)
           ·
            rw [if_neg c53] at H
            exact absurd H (by simp)
          ·
           rw [if_neg c52] at H
           exact absurd H (by simp)
         ·
          replace c51 := Bool.eq_false_iff.mpr c51
          subst c51
          have H1 : (some 0) = some r := by rw [if_neg (show ¬ (false = true) by decide)] at H; exact H
          clear H
          have H := H1
          clear H1
          obtain rfl := Option.some.inj H
          try go_wp2
          have n0_ := mk_ (blk_drew BK121.out)
          have n1_ := mk_ (below_drew1 HB.out)
          clear BK121 HB
          revert n0_ n1_
          intro BK121 HB
          refine start_ (n := 28) (S := fun w' => True) (ds := []) (Steps.Bs 28 0) z1 rfl rfl trivial (fun hHeld => ?_); refine with_tabW raddleref14_Pred.tab5 raddleref14_Pred.bits5 (fun HT_ HW_ => ?_)
          generalize wc.drew = w59 at BK121 HB hHeld ⊢
          refine Steps.pI_ 0 (some 57) (Steps.Bs 28 1) (any_of HT_.out z1) (h := ?_)
          refine Steps.pI_ 1 (some 58) (Steps.Bs 28 3) (any_of HT_.out z1) (h := ?_)
          refine Steps.pR_ 2 (some 59) (Steps.Bs 28 7) (any_of HT_.out z1) (h := ?_)
          refine Steps.pR_ 3 (some 60) (Steps.Bs 28 15) (any_of HT_.out z1) (h := ?_)
          refine Steps.pR_ 4 (some 61) (Steps.Bs 28 31) (any_of HT_.out z1) (h := ?_)
          refine Steps.pR_ 5 (some 62) (Steps.Bs 28 63) (any_of HT_.out z1) (h := ?_)
          refine Steps.pR_ 6 (some 63) (Steps.Bs 28 127) (any_of HT_.out z1) (h := ?_)
          refine Steps.pR_ 7 (some 64) (Steps.Bs 28 255) (any_of HT_.out z1) (h := ?_)
          refine Steps.pR_ 8 (some 65) (Steps.Bs 28 511) (any_of HT_.out z1) (h := ?_)
          refine Steps.pR_ 9 (some 66) (Steps.Bs 28 1023) (any_of HT_.out z1) (h := ?_)
          refine Steps.pR_ 10 (some 67) (Steps.Bs 28 2047) (any_of HT_.out z1) (h := ?_)
          refine Steps.pI_ 11 (some 68) (Steps.Bs 28 4095) (any_of HT_.out z1) (h := ?_)
          refine Steps.pI_ 12 (some 69) (Steps.Bs 28 8191) (any_of HT_.out z1) (h := ?_)
          refine Steps.pI_ 13 (some 70) (Steps.Bs 28 16383) (any_of HT_.out z1) (h := ?_)
          refine Steps.pI_ 14 (some 71) (Steps.Bs 28 32767) (any_of HT_.out z1) (h := ?_)
          refine Steps.pR_ 15 (some 72) (Steps.Bs 28 65535) (any_of HT_.out z1) (h := ?_)
          refine Steps.pR_ 16 (some 73) (Steps.Bs 28 131071) (any_of HT_.out z1) (h := ?_)
          refine Steps.pR_ 17 (some 74) (Steps.Bs 28 262143) (any_of HT_.out z1) (h := ?_)
          refine Steps.pR_ 18 (some 75) (Steps.Bs 28 524287) (any_of HT_.out z1) (h := ?_)
          refine Steps.pR_ 19 (some 76) (Steps.Bs 28 1048575) (any_of HT_.out z1) (h := ?_)
          refine Steps.pR_ 20 (some 77) (Steps.Bs 28 2097151) (any_of HT_.out z1) (h := ?_)
          refine Steps.pR_ 21 (some 78) (Steps.Bs 28 4194303) (any_of HT_.out z1) (h := ?_)
          refine Steps.pR_ 22 (some 79) (Steps.Bs 28 8388607) (any_of HT_.out z1) (h := ?_)
          refine Steps.pR_ 23 (some 80) (Steps.Bs 28 16777215) (any_of HT_.out z1) (h := ?_)
          refine Steps.pR_ 24 (some 81) (Steps.Bs 28 33554431) (any_of HT_.out z1) (h := ?_)
          refine Steps.pR_ 25 (some 82) (Steps.Bs 28 67108863) (any_of HT_.out z1) (h := ?_)
          refine Steps.pI_ 26 (some 83) (Steps.Bs 28 134217727) (any_of HT_.out z1) (h := ?_)
          refine Steps.pI_ 27 (some 84) (Steps.Bs 28 268435455) (any_of HT_.out z1) (h := ?_)
          refine done_ (done_of HT_.out z1) ?_
          try go_wp2
          go_ret
          exact ⟨by first | rfl | (simp [errW_none, errW_some] <;> rfl) | (simp [*, errW_none, errW_some] <;> rfl), Short.hB HB⟩
end Go.Proofs.Ytimbbaoodjhdoaa.PAll
end
