-- Put together by a program of this session (wip/slice2.py) out of the seat's texts.
import Derived.Test.YtimbbaoodjhdoaaZPTp1
import Derived.Sort.Walk0
set_option maxHeartbeats 8000000
set_option maxRecDepth 100000
open Go.Proofs.YtimbbaoodjhdoaaW Go.Proofs.Ytimbbaoodjhdoaa
section
namespace Go.Proofs.Ytimbbaoodjhdoaa.Plain
open Go.RowKit PAll PrintWords PrintLast PrintMore ZipT PrintWords.Kd PrintMore.Kd
set_option linter.unusedVariables false
set_option linter.unusedSimpArgs false
theorem fZ (s : ByteArray) : s.toList = ([] : List UInt8) ↔ s.size = 0 := by
 rw [toList_data, show s.size = s.data.toList.length from by rw [Array.length_toList]; rfl]
 exact List.length_eq_zero_iff.symm
def vOk (k i : Int) (s : ByteArray) : Prop :=
 (k = 1 ∧ i = 0 ∧ s.size = 0) ∨ (k = 2 ∧ (i = 0 ∨ i = 1) ∧ s.size = 0) ∨ (k = 3 ∧ (-1152921504606846976 ≤ i ∧ i ≤ 1152921504606846976) ∧ s.size = 0) ∨ (k = 4 ∧ i = 0 ∧ s.size ≤ 24)
instance (k i : Int) (s : ByteArray) : Decidable (vOk k i s) := by unfold vOk; infer_instance
theorem within_v (n m : Int) (h0 : 0 ≤ m) (h1 : m ≤ 9223372036854775807) : dL.f n m = some (decide (-m ≤ n ∧ n ≤ m)) := by
 unfold dL.f
 rw [w64 (x := -m) z5_ z5_]
 by_cases h : n ≥ -m
 ·
  rw [if_pos h]; congr 1; simp; omega
 rw [if_neg h]; congr 1; simp; omega
theorem fQ (k i : Int) (s : ByteArray) : bV.f k i s = some (if vOk k i s then 0 else 1) := by
 unfold bV.f
 rw [within_v i 1152921504606846976 z5_ z5_]
 simp only [fZ, Option.bind_some, decide_eq_true_eq]
 by_cases ho : vOk k i s
 ·
  rw [if_pos ho]; unfold vOk at ho; repeat' split
  all_goals first | rfl | (exfalso; omega)
 rw [if_neg ho]; unfold vOk at ho; repeat' split
 all_goals first | rfl | (exfalso; omega)
theorem rvalue_eq (k i : Int) (s : ByteArray) : bU.f k i s = some (decide (vOk k i s)) := by
 unfold bU.f
 simp only [rin_eq, Option.bind_some, decide_eq_true_eq]
 have hn : (s.toList == ([] : List UInt8)) = decide (s.size = 0) := by
  by_cases h : s.size = 0
  ·
   rw [(fZ s).2 h, decide_eq_true h]; rfl
  ·
   rw [decide_eq_false h, beq_eq_false_iff_ne]; exact fun e => h ((fZ s).1 e)
 rw [hn]
 by_cases ho : vOk k i s
 ·
  rw [decide_eq_true ho]; unfold vOk at ho; repeat' split
  all_goals first | rfl | (exfalso; omega) | (congr 1; rw [decide_eq_true_eq]; omega)
 rw [decide_eq_false ho]; unfold vOk at ho; repeat' split
 all_goals first | rfl | (exfalso; omega) | (congr 1; rw [decide_eq_false_iff_not]; omega)
def vFits (k i : Int) (s : ByteArray) (t : Int) : Prop := (2 ≤ t ∧ t ≤ 4) ∧ vOk k i s ∧ (k = t ∨ k = 1)
instance (k i : Int) (s : ByteArray) (t : Int) : Decidable (vFits k i s t) := by unfold vFits; infer_instance
theorem beq_one (k : Int) : (k == 1) = decide (k = 1) := by by_cases h : k = 1 <;> simp [h]
theorem fits_eq (k i : Int) (s : ByteArray) (t : Int) : dU.f k i s t = some (decide (vFits k i s t)) := by
 unfold dU.f vFits
 simp only [fQ, Option.bind_some, beq_one]
 by_cases ho : vOk k i s
 ·
  simp only [ho, if_true, true_and]
  repeat' split
  all_goals first | rfl | (exfalso; omega) | (congr 1; rw [decide_eq_decide]; omega) | (congr 1; rw [eq_comm, decide_eq_true_eq]; omega) | (congr 1; rw [eq_comm, decide_eq_false_iff_not]; omega)
 simp only [ho, if_false, false_and, and_false]
 repeat' split
 all_goals first | rfl | (exfalso; omega) | (congr 1; rw [decide_eq_decide]; omega) | (congr 1; rw [eq_comm, decide_eq_true_eq]; omega) | (congr 1; rw [eq_comm, decide_eq_false_iff_not]; omega)
theorem rfits_eq (k i : Int) (s : ByteArray) (t : Int) : cX.f k i s t = some (decide (vFits k i s t)) := by
 unfold cX.f cH.f vFits
 simp only [rvalue_eq, rin_eq, Option.bind_some, beq_one, decide_eq_true_eq]
 by_cases ho : vOk k i s
 ·
  simp only [ho, if_true, true_and]
  repeat' split
  all_goals first | rfl | (exfalso; omega) | (congr 1; rw [decide_eq_decide]; omega) | (congr 1; rw [eq_comm, decide_eq_true_eq]; omega) | (congr 1; rw [eq_comm, decide_eq_false_iff_not]; omega)
 simp only [ho, if_false, false_and, and_false]
 repeat' split
 all_goals first | rfl | (exfalso; omega) | (congr 1; rw [decide_eq_decide]; omega) | (congr 1; rw [eq_comm, decide_eq_true_eq]; omega) | (congr 1; rw [eq_comm, decide_eq_false_iff_not]; omega)
def vSmall (k i : Int) (s : ByteArray) : Prop := vOk k i s ∧ (k = 3 → -2147483648 ≤ i ∧ i ≤ 2147483648)
instance (k i : Int) (s : ByteArray) : Decidable (vSmall k i s) := by unfold vSmall; infer_instance
end Go.Proofs.Ytimbbaoodjhdoaa.Plain
end
section
namespace Go.Proofs.Ytimbbaoodjhdoaa.Plan
open Go.RowKit PAll Plain PrintWords ZipT PrintWords.Kd PrintMore.Kd
set_option linter.unusedVariables false
set_option linter.unusedSimpArgs false
abbrev Tb := S54
abbrev No := S34
abbrev Pr := S31
abbrev Nd := List Int × Int × Int
def zN : Nd := ([], 0, 0)
def places (l : List Int) (m : Nat) : Bool := l.all fun c => decide (0 ≤ c ∧ c < (m : Int))
def pick (t cols : List Int) : List Int := cols.map fun c => rd t c
def ahead (done : List Nd) (k : Int) : Bool := decide (0 ≤ k ∧ k < (done.length : Int))
def nth (done : List Nd) (k : Int) : Nd := done.getD k.toNat zN
def given (p : Pr) : Prop := p.f0 = 1 ∨ p.f0 = 2
instance (p : Pr) : Decidable (given p) := by unfold given; infer_instance
def other (p : Pr) : Prop := p.f0 = 3 ∨ p.f0 = 4
instance (p : Pr) : Decidable (other p) := by unfold other; infer_instance
def inn (c : Int) (m : Nat) : Prop := 0 ≤ c ∧ c < (m : Int)
instance (c : Int) (m : Nat) : Decidable (inn c m) := by unfold inn; infer_instance
def pbad (p : Pr) (t : List Int) : Prop := p.f0 < 1 ∨ p.f0 > 6 ∨ ¬ inn p.f1 t.length ∨ (other p ∧ ¬ inn p.f2 t.length) ∨ (given p ∧ ¬ vOk p.f3.f0 p.f3.f1 p.f3.f2)
instance (p : Pr) (t : List Int) : Decidable (pbad p t) := by unfold pbad; infer_instance
def pmis (p : Pr) (t : List Int) : Prop := (given p ∧ ¬ vFits p.f3.f0 p.f3.f1 p.f3.f2 (rd t p.f1)) ∨ (other p ∧ ¬ rd t p.f2 = rd t p.f1)
instance (p : Pr) (t : List Int) : Decidable (pmis p t) := by unfold pmis; infer_instance
def predE (p : Pr) (t : List Int) : Int := if pbad p t then 1 else if pmis p t then 10 else 0
theorem eR {p : Pr} {t : List Int} (h : pbad p t) : predE p t = 1 := if_pos h
theorem fU {p : Pr} {t : List Int} (h : ¬ pbad p t) (g : pmis p t) : predE p t = 10 := by unfold predE; rw [if_neg h, if_pos g]
theorem fH {p : Pr} {t : List Int} (h : ¬ pbad p t) (g : ¬ pmis p t) : predE p t = 0 := by unfold predE; rw [if_neg h, if_neg g]
def scanN (f : List Tb) (x : No) : Nd × Int := if x.f3 < 0 ∨ x.f3 ≥ (f.length : Int) then (zN, 1) else ((4 :: (cN f x.f3).f0, 1024, 2147483648), 0)
def filterN (done : List Nd) (x : No) : Nd × Int := if ahead done x.f1 = true then (nth done x.f1, predE x.f4 (nth done x.f1).1) else (zN, 1)
def projectN (done : List Nd) (x : No) : Nd × Int :=
 if ahead done x.f1 = true ∧ places x.f5 (nth done x.f1).1.length = true then (if x.f5.length > 12 then (zN, 2) else ((pick (nth done x.f1).1 x.f5, (nth done x.f1).2), 0)) else (zN, 1)
def joinN (done : List Nd) (x : No) : Nd × Int :=
 if ahead done x.f1 = true ∧ ahead done x.f2 = true then
  (if places x.f5 (nth done x.f1).1.length = true ∧ places x.f6 (nth done x.f2).1.length = true then
   (if x.f5.length ≠ x.f6.length ∨ (nth done x.f1).1.length + (nth done x.f2).1.length > 12 then (zN, 2)
   else if pick (nth done x.f1).1 x.f5 = pick (nth done x.f2).1 x.f6 then
    (if (nth done x.f1).2.1 * (nth done x.f2).2.1 ≤ 1125899906842624 then (((nth done x.f1).1 ++ (nth done x.f2).1, (nth done x.f1).2.1 * (nth done x.f2).2.1, max (nth done x.f1).2.2 (nth done x.f2).2.2), 0) else (zN, 11))
   else (zN, 10))
  else (zN, 1))
 else (zN, 1)
def bothN (done : List Nd) (x : No) : Nd × Int :=
 if ahead done x.f1 = true ∧ ahead done x.f2 = true then
  (if (nth done x.f1).1 = (nth done x.f2).1 then
   (if (nth done x.f1).2.1 + (nth done x.f2).2.1 ≤ 1125899906842624 then (((nth done x.f1).1, (nth done x.f1).2.1 + (nth done x.f2).2.1, max (nth done x.f1).2.2 (nth done x.f2).2.2), 0) else (zN, 11))
  else (zN, 10))
 else (zN, 1)
def distinctN (done : List Nd) (x : No) : Nd × Int := if ahead done x.f1 = true then (nth done x.f1, 0) else (zN, 1)
def groupN (done : List Nd) (x : No) : Nd × Int :=
 if ahead done x.f1 = true ∧ 1 ≤ x.f7 ∧ x.f7 ≤ 4 then
  (if places x.f5 (nth done x.f1).1.length = true ∧ (x.f7 = 1 ∨ inn x.f8 (nth done x.f1).1.length) then
   (if x.f5.length ≥ 12 then (zN, 2)
   else if x.f7 = 2 ∧ rd (nth done x.f1).1 x.f8 ≠ 3 then (zN, 10)
   else if x.f7 = 1 then ((pick (nth done x.f1).1 x.f5 ++ [3], (nth done x.f1).2.1, max (nth done x.f1).2.2 (nth done x.f1).2.1), 0)
   else if x.f7 = 2 then (if (nth done x.f1).2.2 * (nth done x.f1).2.1 ≤ 1152921504606846976 then ((pick (nth done x.f1).1 x.f5 ++ [3], (nth done x.f1).2.1, max (nth done x.f1).2.2 ((nth done x.f1).2.2 * (nth done x.f1).2.1)), 0) else (zN, 11))
   else ((pick (nth done x.f1).1 x.f5 ++ [rd (nth done x.f1).1 x.f8], (nth done x.f1).2), 0))
  else (zN, 1))
 else (zN, 1)
def look (f : List Tb) (done : List Nd) (x : No) : Nd × Int :=
 if x.f0 = 1 then scanN f x else if x.f0 = 2 then filterN done x else if x.f0 = 3 then projectN done x else if x.f0 = 4 then joinN done x
 else if x.f0 = 5 ∨ x.f0 = 6 then bothN done x else if x.f0 = 7 then distinctN done x else if x.f0 = 8 then groupN done x else (zN, 1)
def walkN (f : List Tb) : List No → List Nd → List Nd × Int
 | [], done => (done, 0)
 | x :: r, done => if (look f done x).2 = 0 then walkN f r (done ++ [(look f done x).1]) else ([], (look f done x).2)
def formsE (f : List Tb) : Int :=
 if f.length < 1 ∨ f.length > 3 then 2 else if (f.any fun t => decide (t.f0.length < 1 ∨ t.f0.length > 4)) = true then 2
 else if (f.any fun t => t.f0.any fun c => decide (c < 2 ∨ c > 4)) = true then 10 else 0
def planN (l : List No) (f : List Tb) : List Nd × Int :=
 if formsE f ≠ 0 then ([], formsE f) else if l.length < 1 ∨ l.length > 12 then ([], 2) else walkN f l []
def lastN (l : List No) (f : List Tb) : Nd := (planN l f).1.getD (l.length - 1) zN
structure NdOk (d : Nd) : Prop where
 len : d.1.length ≤ 12
 w1 : 1 ≤ d.2.1
 w2 : d.2.1 ≤ 1125899906842624
 v1 : 1 ≤ d.2.2
 v2 : d.2.2 ≤ 1152921504606846976
def FOk (f : List Tb) : Prop := formsE f = 0
theorem FOk.forms {f : List Tb} (h : FOk f) : 1 ≤ f.length ∧ f.length ≤ 3 ∧ ∀ t ∈ f, 1 ≤ t.f0.length ∧ t.f0.length ≤ 4 ∧ ∀ c ∈ t.f0, 2 ≤ c ∧ c ≤ 4 := by
 unfold FOk formsE at h
 split at h
 ·
  omega
 ·
  rename_i h1
  split at h
  ·
   omega
  ·
   rename_i h2
   split at h
   ·
    omega
   ·
    rename_i h3
    simp only [List.any_eq_true, decide_eq_true_eq, not_exists, not_and] at h2 h3
    exact ⟨by omega, by omega, fun t ht => ⟨by have := h2 t ht; omega, by have := h2 t ht; omega, fun c hc => by have := h3 t ht c hc; omega⟩⟩
theorem cY {done : List Nd} (h : ∀ d ∈ done, NdOk d) {k : Int} (ha : ahead done k = true) : NdOk (nth done k) := by
 unfold ahead at ha
 have ha := of_decide_eq_true ha
 unfold nth
 rw [List.getD_eq_getElem?_getD, List.getElem?_eq_getElem z5_]
 exact h _ (List.getElem_mem _)
theorem dF (t c : List Int) : (pick t c).length = c.length := by simp [pick]
theorem fN {α : Type} {l : List α} {i : Nat} {z : α} (h : i < l.length) : l.getD i z ∈ l := by
 rw [List.getD_eq_getElem?_getD, List.getElem?_eq_getElem h]; exact List.getElem_mem _
theorem look_ok {f : List Tb} (hf : FOk f) {done : List Nd} (h : ∀ d ∈ done, NdOk d) (x : No) (he : (look f done x).2 = 0) : NdOk (look f done x).1 := by
 unfold look at he ⊢
 split at he <;> rename_i c1
 ·
  rw [if_pos c1]
  unfold scanN at he ⊢
  split at he
  ·
   simp at he
  ·
   rename_i c
   rw [if_neg c]
   have := (hf.forms.2.2 (cN f x.f3) (fN z5_))
   exact ⟨by show (4 :: _ : List Int).length ≤ 12; rw [List.length_cons]; omega, by show (1 : Int) ≤ 1024; decide, by show (1024 : Int) ≤ _; decide, by show (1 : Int) ≤ 2147483648; decide, by show (2147483648 : Int) ≤ _; decide⟩
 rw [if_neg c1]
 split at he <;> rename_i c2
 ·
  rw [if_pos c2]
  unfold filterN at he ⊢
  split at he
  ·
   rename_i c; rw [if_pos c]; exact cY h c
  ·
   simp at he
 rw [if_neg c2]
 split at he <;> rename_i c3
 ·
  rw [if_pos c3]
  unfold projectN at he ⊢
  split at he
  ·
   rename_i c; rw [if_pos c]
   split at he
   ·
    simp at he
   ·
    rename_i c'; rw [if_neg c']
    have := cY h c.1
    exact ⟨by rw [dF]; omega, this.w1, this.w2, this.v1, this.v2⟩
  ·
   simp at he
 rw [if_neg c3]
 split at he <;> rename_i c4
 ·
  rw [if_pos c4]
  unfold joinN at he ⊢
  split at he
  ·
   rename_i c; rw [if_pos c]
   split at he
   ·
    rename_i c'; rw [if_pos c']
    split at he
    ·
     simp at he
    ·
     rename_i c5; rw [if_neg c5]
     split at he
     ·
      rename_i c6; rw [if_pos c6]
      split at he
      ·
       rename_i c7; rw [if_pos c7]
       have h1 := cY h c.1
       have h2 := cY h c.2
       refine ⟨by rw [List.length_append]; omega, ?_, c7, ?_, ?_⟩
       ·
        have := Int.mul_le_mul h1.w1 h2.w1 z5_ (by have := h1.w1; omega)
        simpa using this
       ·
        have := h1.v1; show 1 ≤ max _ _; omega
       ·
        have := h1.v2; have := h2.v2; show max _ _ ≤ _; omega
      ·
       simp at he
     ·
      simp at he
   ·
    simp at he
  ·
   simp at he
 rw [if_neg c4]
 split at he <;> rename_i c5
 ·
  rw [if_pos c5]
  unfold bothN at he ⊢
  split at he
  ·
   rename_i c; rw [if_pos c]
   split at he
   ·
    rename_i c'; rw [if_pos c']
    split at he
    ·
     rename_i c7; rw [if_pos c7]
     have h1 := cY h c.1
     have h2 := cY h c.2
     refine ⟨h1.len, ?_, c7, ?_, ?_⟩
     ·
      have := h1.w1; have := h2.w1; show 1 ≤ _ + _; omega
     ·
      have := h1.v1; show 1 ≤ max _ _; omega
     ·
      have := h1.v2; have := h2.v2; show max _ _ ≤ _; omega
    ·
     simp at he
   ·
    simp at he
  ·
   simp at he
 rw [if_neg c5]
 split at he <;> rename_i c6
 ·
  rw [if_pos c6]
  unfold distinctN at he ⊢
  split at he
  ·
   rename_i c; rw [if_pos c]; exact cY h c
  ·
   simp at he
 rw [if_neg c6]
 split at he <;> rename_i c7
 ·
  rw [if_pos c7]
  unfold groupN at he ⊢
  split at he
  ·
   rename_i c; rw [if_pos c]
   have h1 := cY h c.1
   split at he
   ·
    rename_i c'; rw [if_pos c']
    split at he
    ·
     simp at he
    ·
     rename_i d1; rw [if_neg d1]
     split at he
     ·
      simp at he
     ·
      rename_i d2; rw [if_neg d2]
      have hl : ∀ t : Int, (pick (nth done x.f1).1 x.f5 ++ [t]).length ≤ 12 := fun t => by rw [List.length_append, dF]; simp; omega
      have := h1.v1; have := h1.v2; have := h1.w1; have := h1.w2
      split at he
      ·
       rename_i d3; rw [if_pos d3]
       exact ⟨hl _, h1.w1, h1.w2, by show 1 ≤ max _ _; omega, by show max _ _ ≤ _; omega⟩
      ·
       rename_i d3; rw [if_neg d3]
       split at he
       ·
        rename_i d4; rw [if_pos d4]
        split at he
        ·
         rename_i d5; rw [if_pos d5]
         exact ⟨hl _, h1.w1, h1.w2, by show 1 ≤ max _ _; omega, by show max _ _ ≤ _; omega⟩
        ·
         simp at he
       ·
        rename_i d4; rw [if_neg d4]
        exact ⟨hl _, h1.w1, h1.w2, h1.v1, h1.v2⟩
   ·
    simp at he
  ·
   simp at he
 ·
  simp at he
theorem walkN_ok {f : List Tb} (hf : FOk f) : ∀ (l : List No) (done : List Nd), (∀ d ∈ done, NdOk d) → ∀ d ∈ (walkN f l done).1, NdOk d
 | [], _, h => h
 | x :: r, done, h => by
  unfold walkN
  split
  ·
   rename_i he
   exact walkN_ok hf r _ (fun d hd => (List.mem_append.1 hd).elim (h d) (fun e => by rw [List.mem_singleton.1 e]; exact look_ok hf h x he))
  ·
   intro d hd; cases hd
theorem walkN_len {f : List Tb} : ∀ (l : List No) (done : List Nd), (walkN f l done).2 = 0 → (walkN f l done).1.length = done.length + l.length
 | [], _, _ => rfl
 | x :: r, done, h => by
  unfold walkN at h ⊢
  split at h
  ·
   rename_i he; rw [if_pos he, walkN_len r _ h]; simp; omega
  ·
   rename_i he; exact absurd h he
theorem planN_ok {l : List No} {f : List Tb} : ∀ d ∈ (planN l f).1, NdOk d := by
 unfold planN
 split
 ·
  intro d hd; cases hd
 ·
  rename_i h
  split
  ·
   intro d hd; cases hd
  ·
   exact walkN_ok (f := f) (by unfold FOk; omega) l [] (fun d hd => by cases hd)
theorem fA {l : List No} {f : List Tb} (h : (planN l f).2 = 0) : (planN l f).1.length = l.length ∧ 1 ≤ l.length ∧ l.length ≤ 12 ∧ FOk f := by
 unfold planN at h ⊢
 split at h
 ·
  rename_i c; exact absurd h c
 ·
  rename_i c
  rw [if_neg c]
  split at h
  ·
   simp at h
  ·
   rename_i c2; rw [if_neg c2]
   refine ⟨by rw [walkN_len l [] h]; simp, by omega, by omega, by unfold FOk; omega⟩
theorem gJ {l : List No} {f : List Tb} (hf : FOk f) (h1 : 1 ≤ l.length) (h2 : l.length ≤ 12) : planN l f = walkN f l [] := by
 unfold planN; rw [if_neg (by unfold FOk at hf; omega), if_neg z5_]
theorem walkN_err {f : List Tb} : ∀ (l : List No) (done : List Nd), (walkN f l done).2 ≠ 0 → (walkN f l done).1 = []
 | [], _, h => absurd rfl h
 | x :: r, done, h => by
  unfold walkN at h ⊢
  split at h
  ·
   rename_i he; rw [if_pos he]; exact walkN_err r _ h
  ·
   rename_i he; rw [if_neg he]
theorem planN_err {l : List No} {f : List Tb} (h : (planN l f).2 ≠ 0) : (planN l f).1 = [] := by
 unfold planN at h ⊢
 split at h
 ·
  rename_i c; rw [if_pos c]
 ·
  rename_i c; rw [if_neg c]
  split at h
  ·
   rename_i c2; rw [if_pos c2]
  ·
   rename_i c2; rw [if_neg c2]; exact walkN_err l [] h
theorem gE {f : List Tb} : ∀ (l m : List No) (done : List Nd), (walkN f l done).2 = 0 → walkN f (l ++ m) done = walkN f m (walkN f l done).1
 | [], _, _, _ => rfl
 | x :: r, m, done, h => by
  rw [List.cons_append]
  unfold walkN at h
  rw [show walkN f (x :: r) done = if (look f done x).2 = 0 then walkN f r (done ++ [(look f done x).1]) else ([], (look f done x).2) from rfl]
  rw [show walkN f (x :: (r ++ m)) done = if (look f done x).2 = 0 then walkN f (r ++ m) (done ++ [(look f done x).1]) else ([], (look f done x).2) from rfl]
  split at h
  ·
   rename_i he; rw [if_pos he, if_pos he]; exact gE r m _ h
  ·
   rename_i he; exact absurd h he
end Go.Proofs.Ytimbbaoodjhdoaa.Plan
end
section
namespace Go.Proofs.Ytimbbaoodjhdoaa.Plan
open Go.RowKit PAll Plain PrintWords PrintLast PrintMore ZipT PrintWords.Kd PrintMore.Kd
set_option linter.unusedVariables false
set_option linter.unusedSimpArgs false
theorem fX.calls (c : Int) (m : Int) (gb : Nat) (w : World) (hg : w.heap[gb]? = some (.cells #[.int .i64 m] 3 (0, 0))) :
  Calls Try.prog 70 #[.int .i64 c, .pointer (some ⟨gb, 0, none⟩)] w fun e w' => e = .returned (.bool (decide (c < 0 ∨ c ≥ m))) ∧ Drawn0 w w' := by
 have hcz : w.cell? ⟨gb, 0, none⟩ = some (.int .i64 m) := (aA hg 0).trans rfl
 have hfz := aD hg 0
 by_cases h1 : c < 0
 ·
  have h1b : decide (c < 0) = true := decide_eq_true h1
  go_enter Try.func70, Try.ntmps70
  go_wp2
  go_ret
  exact ⟨by simp [h1], by repeat (first | exact Drawn0.refl _ | apply Drawn0.step)⟩
 have h1b : decide (c < 0) = false := decide_eq_false h1
 go_enter Try.func70, Try.ntmps70
 go_wp2
 go_ret
 exact ⟨by simp [h1], by repeat (first | exact Drawn0.refl _ | apply Drawn0.step)⟩
def bF.l0 : Nat → List Int → Int → Int → Int → Option (Int)
 | 0, _, _, _, _ => none
 | k + 1, x0, m, x7, x8 => if x8 < x7 then (if 0 ≤ x8 then (if x8 < (x0.length : Int) then (if decide (rd x0 x8 < 0 ∨ rd x0 x8 ≥ m) = true then (some x8) else (bF.l0 k x0 m x7 (wrap64 (x8 + 1)))) else (none)) else (none)) else (some (-1))
theorem bF.calls (k : Nat) (A0 : Option Addr) (c0 : Nat) (l0 : List Int) (m : Int) (gb : Nat) (r : Int) (w : World) (hr0 : Kd.C (Kd.int .i64) w A0 l0.length l0) (hc0 : l0.length ≤ c0)
  (hg : w.heap[gb]? = some (.cells #[.int .i64 m] 3 (0, 0))) (h : bF.l0 k l0 m (l0.length : Int) 0 = some r) :
  Calls Try.prog 57 #[.slice A0 l0.length c0, .func (.func 70) #[] #[.pointer (some ⟨gb, 0, none⟩)]] w fun e w' => e = .returned (.int .i64 r) ∧ Drawn0 w w' := by
 have HR0 := mk_ hr0
 have HC0 := mk_ hc0
 have HG := mk_ hg
 clear hr0 hc0 hg
 have H' := mk_ h
 clear h
 go_enter Try.func57, Try.ntmps57
 go_wp2
 go_loopg [8] k (fun kq v8 w' => ∃ (x8_1 : Int), v8 = .int .i64 x8_1 ∧ Aside0 (bF.l0 kq l0 m (l0.length : Int) x8_1 = some r) ∧ Aside0 (kq ≤ k) ∧ Drawn0 w w')
 case atStart => exact ⟨(0), z9_, H', ⟨Nat.le_refl _⟩, by repeat (first | exact Drawn0.refl _ | apply Drawn0.step)⟩
 case round =>
  clear H'
  try clear p2
  obtain ⟨x8_1, rfl, HA, HK1, ⟨m1, rfl⟩⟩ := hrel
  cases gk with
  | zero => exact absurd HA.out (by simp [bF.l0])
  | succ k1 =>
   have H := HA.out
   clear HA
   simp only [bF.l0] at H
   by_cases c3 : x8_1 < (l0.length : Int)
   rotate_left
   ·
    rw [if_neg c3] at H
    have c3b0 : decide (x8_1 < (l0.length : Int)) = false := decide_eq_false c3
    clear c3
    obtain rfl := Option.some.inj H
    go_wp2
    go_ret
    exact ⟨z9_, by repeat (first | exact Drawn0.refl _ | apply Drawn0.step)⟩
   rw [if_pos c3] at H
   have c3b0 : decide (x8_1 < (l0.length : Int)) = true := decide_eq_true c3
   by_cases c4 : 0 ≤ x8_1
   rotate_left
   ·
    rw [if_neg c4] at H
    exact absurd H (by simp)
   rw [if_pos c4, if_pos c3] at H
   have c4b0 : decide (0 ≤ x8_1) = true := decide_eq_true c4
   clear c3 c4
   have p261 : 0 ≤ (x8_1 : Int) := of_decide_eq_true z4_
   have q261 : x8_1 < (l0.length : Int) := of_decide_eq_true z4_
   obtain ⟨ad261, e261, hx261_0⟩ := Kd.at_int HR0.out x8_1 p261 q261
   cases e261
   replace p261 := eq_true p261
   replace q261 := eq_true q261
   by_cases c7 : decide (rd l0 x8_1 < 0 ∨ rd l0 x8_1 ≥ m) = true
   ·
    rw [if_pos c7] at H
    obtain rfl := Option.some.inj H
    go_wp2_with (first | ((with_reducible refine Steps.gate_any rfl ?_); refine Steps.goesV_ (some 16) rfl rfl Try.func70 z1_ rfl #[.int .i64 (rd l0 x8_1), .pointer (some ⟨gb, 0, none⟩)] rfl (cap := #[.pointer (some ⟨gb, 0, none⟩)]) (by first | rfl | go_simp) (by first | rfl | (go_simp; done)) ?_; (refine (fX.calls (rd l0 x8_1) m gb _ ?hg).mono ?_); (case hg => (with_reducible repeat (first | refine aX ?_ _ | refine aU ?_ | refine aY ?_ _)); exact HG.out); rw [c7]; rintro e w' ⟨rfl, ⟨nd, rfl⟩⟩; refine ⟨_, rfl, ?_⟩))
    go_ret
    exact ⟨z9_, by repeat (first | exact Drawn0.refl _ | apply Drawn0.step)⟩
   rw [if_neg c7] at H
   have c7' := Bool.eq_false_iff.mpr c7
   have H' := mk_ H
   clear H
   go_wp2_with (first | ((with_reducible refine Steps.gate_any rfl ?_); refine Steps.goesV_ (some 16) rfl rfl Try.func70 z1_ rfl #[.int .i64 (rd l0 x8_1), .pointer (some ⟨gb, 0, none⟩)] rfl (cap := #[.pointer (some ⟨gb, 0, none⟩)]) (by first | rfl | go_simp) (by first | rfl | (go_simp; done)) ?_; (refine (fX.calls (rd l0 x8_1) m gb _ ?hg).mono ?_); (case hg => (with_reducible repeat (first | refine aX ?_ _ | refine aU ?_ | refine aY ?_ _)); exact HG.out); rw [c7']; rintro e w' ⟨rfl, ⟨nd, rfl⟩⟩; refine ⟨_, rfl, ?_⟩))
   go_roundg k1
   case measure => have := HK1.out; omega
   case rel => exact ⟨(wrap64 (x8_1 + 1)), z9_, H', ⟨by have := HK1.out; omega⟩, by repeat (first | exact Drawn0.refl _ | apply Drawn0.step)⟩
theorem bF.ends (l0 : List Int) (m : Int) (hl : l0.length ≤ 9000000000000000000) : ∀ (j i : Nat), i + j = l0.length →
  ∃ r, (∀ k, j < k → bF.l0 k l0 m (l0.length : Int) (i : Int) = some r) ∧ (r ≥ 0 ↔ (l0.drop i).any (fun c => decide (c < 0 ∨ c ≥ m)) = true) := by
 intro j
 induction j with
 | zero =>
  intro i hi
  refine ⟨-1, fun k hk => ?_, ?_⟩
  ·
   obtain ⟨k, rfl⟩ : ∃ q, k = q + 1 := ⟨k - 1, by omega⟩
   simp only [bF.l0]
   rw [if_neg z5_]
  ·
   rw [List.drop_eq_nil_iff.2 z5_]; simp
 | succ j ih =>
  intro i hi
  obtain ⟨r, h1, h2⟩ := ih (i + 1) z5_
  have hd : l0.drop i = rd l0 (i : Int) :: l0.drop (i + 1) := by
   rw [List.drop_eq_getElem_cons z5_]
   congr 1
   show _ = l0.getD ((i : Int).toNat) 0
   rw [Int.toNat_natCast, List.getD_eq_getElem?_getD, List.getElem?_eq_getElem z5_]; rfl
  have hw : wrap64 ((i : Int) + 1) = ((i + 1 : Nat) : Int) := by unfold wrap64; omega
  by_cases hc : decide (rd l0 (i : Int) < 0 ∨ rd l0 (i : Int) ≥ m) = true
  ·
   refine ⟨i, fun k hk => ?_, ?_⟩
   ·
    obtain ⟨k, rfl⟩ : ∃ q, k = q + 1 := ⟨k - 1, by omega⟩
    simp only [bF.l0]
    rw [if_pos z5_, if_pos z5_, if_pos z5_, if_pos hc]
   ·
    rw [hd, List.any_cons, hc]; simp
  refine ⟨r, fun k hk => ?_, ?_⟩
  ·
   obtain ⟨k, rfl⟩ : ∃ q, k = q + 1 := ⟨k - 1, by omega⟩
   simp only [bF.l0]
   rw [if_pos z5_, if_pos z5_, if_pos z5_, if_neg hc, hw]
   exact h1 k z5_
  ·
   rw [hd, List.any_cons, Bool.eq_false_iff.mpr hc, Bool.false_or]; exact h2
theorem fL (A0 : Option Addr) (c0 : Nat) (l0 : List Int) (m : Int) (w : World) {gb : Nat} (hr0 : Kd.C (Kd.int .i64) w A0 l0.length l0) (hc0 : l0.length ≤ c0) (hl : l0.length ≤ 9000000000000000000)
  (hg : w.heap[gb]? = some (.cells #[.int .i64 m] 3 (0, 0))) :
  Calls Try.prog 47 #[.slice A0 l0.length c0, .func (.func 70) #[] #[.pointer (some ⟨gb, 0, none⟩)]] w fun e w' => e = .returned (.bool (l0.any fun c => decide (c < 0 ∨ c ≥ m))) ∧ Drawn0 w w' := by
 obtain ⟨x, h1, h2⟩ := bF.ends l0 m hl l0.length 0 z5_
 have A3 := mk_ (h1 (l0.length + 1) z5_)
 have hb : (decide (x ≥ 0)) = (l0.any fun c => decide (c < 0 ∨ c ≥ m)) := by
  rw [List.drop_zero] at h2
  cases hz : (l0.any fun c => decide (c < 0 ∨ c ≥ m))
  ·
   rw [hz] at h2; simpa using h2
  ·
   rw [hz] at h2; simpa using h2
 rw [← hb]
 clear h1 h2 hb
 have HR0 := mk_ hr0
 have HC0 := mk_ hc0
 have HG := mk_ hg
 clear hr0 hc0 hg
 go_enter Try.func47, Try.ntmps47
 go_wp2_with (first | ((with_reducible refine bB (f := 57) rfl ?_); refine goesL_ (some 7) rfl rfl Try.func57 z1_ rfl #[.slice A0 l0.length c0, .func (.func 70) #[] #[.pointer (some ⟨gb, 0, none⟩)]] rfl (by first | rfl | (go_simp; done)) ?_; (refine (bF.calls (l0.length + 1) _ _ l0 m gb x _ ?side1 ?side2 ?side3 A3.out).mono ?_); (case side1 => repeat (first | exact HR0.out | (with_reducible refine C_drewN ?_ _) | (with_reducible refine C_drew ?_))); (case side2 => exact HC0.out); (case side3 => (with_reducible repeat (first | refine aX ?_ _ | refine aU ?_)); exact HG.out); rintro e w' ⟨rfl, ⟨nd, rfl⟩⟩; refine ⟨_, rfl, ?_⟩))
 go_ret
 exact ⟨z9_, by repeat (first | exact Drawn0.refl _ | apply Drawn0.step)⟩
theorem places_any (l : List Int) (m : Nat) : (!(l.any fun c => decide (c < 0 ∨ c ≥ (m : Int)))) = places l m := by
 unfold places
 induction l with
 | nil => rfl
 | cons x l ih =>
  rw [List.any_cons, List.all_cons, Bool.not_or, ih]
  congr 1
  by_cases h : x < 0 ∨ x ≥ (m : Int)
  ·
   rw [decide_eq_true h, decide_eq_false z5_]; rfl
  rw [decide_eq_false h, decide_eq_true z5_]; rfl
theorem bQ (A0 : Option Addr) (c0 : Nat) (l0 : List Int) (m : Nat) (w : World) (hr0 : Kd.C (Kd.int .i64) w A0 l0.length l0) (hc0 : l0.length ≤ c0) (hl : l0.length ≤ 9000000000000000000) :
  Calls Try.prog 60 #[.slice A0 l0.length c0, .int .i64 (m : Int)] w fun e w' => e = .returned (.bool (places l0 m)) ∧ Below w.heap.size w w' := by
 rw [← places_any l0 m]
 obtain ⟨b, hb⟩ : ∃ b, (l0.any fun c => decide (c < 0 ∨ c ≥ (m : Int))) = b := ⟨_, rfl⟩
 rw [hb]
 have HB0 := mk_ hb
 clear hb
 have HR0 := mk_ hr0
 have HC0 := mk_ hc0
 clear hr0 hc0
 go_enter Try.func60, Try.ntmps60
 go_wp2_with (go_at_call 47; refine (fL A0 c0 l0 (m : Int) _ (gb := w.heap.size) (aN HR0.out (aM (Below.refl _ _) _)) HC0.out hl (cJ w _)).mono ?_; rw [HB0.out]; rintro e w' ⟨rfl, ⟨nd, rfl⟩⟩)
 go_ret
 exact ⟨rfl, aZ (aM (Below.refl _ _) _) _⟩
end Go.Proofs.Ytimbbaoodjhdoaa.Plan
end
section
namespace Go.Proofs.Ytimbbaoodjhdoaa.Plain
open Go.RowKit PAll PrintWords PrintLast PrintMore ZipT PrintWords.Kd PrintMore.Kd
set_option linter.unusedVariables false
set_option linter.unusedSimpArgs false
def isLong (v : S29) : Bool := decide ((v.f2.size : Int) > 300)
theorem long_l0 (l : List S29) (hl : l.length ≤ 1000000) (m : List S29) : ∀ (k i : Nat), l.drop i = m → m.length < k → bR.l0 k l (i : Int) = some (m.any isLong) := by
 induction m with
 | nil =>
  intro k i h hk
  obtain ⟨k, rfl⟩ : ∃ j, k = j + 1 := ⟨k - 1, by simp at hk; omega⟩
  have := List.drop_eq_nil_iff.1 h
  simp only [bR.l0]
  rw [if_neg z5_]; rfl
 | cons v m ih =>
  intro k i h hk
  obtain ⟨k, rfl⟩ : ∃ j, k = j + 1 := ⟨k - 1, by simp at hk; omega⟩
  have hi : i < l.length := by
   rcases Nat.lt_or_ge i l.length with h1 | h1
   ·
    exact h1
   ·
    rw [List.drop_eq_nil_iff.2 h1] at h; cases h
  have hr : fE l (i : Int) = v := by
   show l.getD ((i : Int).toNat) _ = v
   rw [Int.toNat_natCast, List.getD_eq_getElem?_getD]
   have : l[i]? = (l.drop i)[0]? := by rw [List.getElem?_drop]; simp
   rw [this, h]; rfl
  have ht : l.drop (i + 1) = m := by rw [← List.drop_drop, h]; rfl
  have := ih k (i + 1) ht (by simp at hk; omega)
  simp only [bR.l0]
  rw [if_pos z5_, if_pos z5_, hr, w64 z5_ z5_, show ((i : Int) + 1) = ((i + 1 : Nat) : Int) from rfl, this]
  by_cases hv : (v.f2.size : Int) > 300
  ·
   rw [if_pos hv]; simp [isLong, hv]
  rw [if_neg hv]; simp [isLong, hv]
theorem long_eq (k : Nat) (l : List S29) (hl : l.length ≤ 1000000) (hk : l.length + 1 ≤ k) : bR.f k l = some (l.any isLong) := by
 unfold bR.f
 have := long_l0 l hl l k 0 rfl z5_
 simpa using this
end Go.Proofs.Ytimbbaoodjhdoaa.Plain
end
section
namespace Go.Proofs.Ytimbbaoodjhdoaa.Plain
open Go.RowKit PAll PrintWords PrintLast PrintMore ZipT PrintWords.Kd PrintMore.Kd
set_option linter.unusedVariables false
set_option linter.unusedSimpArgs false
abbrev V := S29
theorem eJ {α : Type} {l : List α} {i : Nat} {v : α} {m : List α} (h : l.drop i = v :: m) : i < l.length := by
 rcases Nat.lt_or_ge i l.length with h1 | h1
 ·
  exact h1
 ·
  rw [List.drop_eq_nil_iff.2 h1] at h; cases h
theorem dN {α : Type} {l : List α} {i : Nat} {v : α} {m : List α} (h : l.drop i = v :: m) : l.drop (i + 1) = m := by
 rw [← List.drop_drop, h]; rfl
theorem dQ {α : Type} {l : List α} {i : Nat} (h : l.drop i = []) : l.length ≤ i := List.drop_eq_nil_iff.1 h
theorem rdT_drop {l : List V} {i : Nat} {v : V} {m : List V} (h : l.drop i = v :: m) : fE l (i : Int) = v := by
 show l.getD ((i : Int).toNat) _ = v
 rw [Int.toNat_natCast, List.getD_eq_getElem?_getD]
 have : l[i]? = (l.drop i)[0]? := by rw [List.getElem?_drop]; simp
 rw [this, h]; rfl
theorem gF {l : List Int} {i : Nat} {v : Int} {m : List Int} (h : l.drop i = v :: m) : rd l (i : Int) = v := rd_drop h
theorem V_ext {a b : V} (h0 : a.f0 = b.f0) (h1 : a.f1 = b.f1) (h2 : a.f2 = b.f2) : a = b := by cases a; cases b; simp_all
instance : DecidableEq V := fun a b => decidable_of_iff (a.f0 = b.f0 ∧ a.f1 = b.f1 ∧ a.f2 = b.f2) ⟨fun ⟨h0, h1, h2⟩ => V_ext h0 h1 h2, fun h => by subst h; exact ⟨rfl, rfl, rfl⟩⟩
def okV (v : V) : Prop := vOk v.f0 v.f1 v.f2
instance (v : V) : Decidable (okV v) := by unfold okV; infer_instance
end Go.Proofs.Ytimbbaoodjhdoaa.Plain
end
section
namespace Go.Proofs.Ytimbbaoodjhdoaa.Plain
open Go.RowKit PAll PrintWords PrintLast PrintMore ZipT PrintWords.Kd PrintMore.Kd
set_option linter.unusedVariables false
set_option linter.unusedSimpArgs false
theorem keepInts_l0 (a b : List Int) (ha : a.length ≤ 1000000) (hl : a.length = b.length) (m : List Int) : ∀ (k i : Nat), a.drop i = m → m.length < k →
  raddlekeep_Ints.l0 k a b (i : Int) = some (decide (m = b.drop i)) := by
 induction m with
 | nil =>
  intro k i h hk
  obtain ⟨k, rfl⟩ : ∃ j, k = j + 1 := ⟨k - 1, by omega⟩
  have h1 := dQ h
  simp only [raddlekeep_Ints.l0]
  rw [if_neg z5_, List.drop_eq_nil_iff.2 z5_]; simp
 | cons v m ih =>
  intro k i h hk
  obtain ⟨k, rfl⟩ : ∃ j, k = j + 1 := ⟨k - 1, by omega⟩
  have h1 := eJ h
  simp only [raddlekeep_Ints.l0]
  cases hd : b.drop i with
  | nil => have h2 := dQ hd; omega
  | cons t n =>
   rw [if_pos z5_, if_pos z5_, if_pos z5_, gF h, gF hd, w64 z5_ z5_]
   by_cases hz : v = t
   rotate_left
   ·
    rw [if_neg hz]
    simp [hz]
   have := ih k (i + 1) (dN h) (by simp at hk; omega)
   rw [if_pos hz, show ((i : Int) + 1) = ((i + 1 : Nat) : Int) from rfl, this, dN hd, hz]
   simp
theorem dS (k : Nat) (a b : List Int) (ha : a.length ≤ 1000000) (hk : a.length + 1 ≤ k) : raddlekeep_Ints.f k a b = some (decide (a = b)) := by
 unfold raddlekeep_Ints.f
 by_cases hl : (a.length : Int) = b.length
 rotate_left
 ·
  rw [if_neg hl, decide_eq_false (fun e => hl (by rw [e]))]
 rw [if_pos hl]
 exact keepInts_l0 a b ha z5_ a k 0 rfl z5_
theorem cM (l : List Int) (hl : l.length ≤ 1000000) : raddlekeep_TwinInts.f l = some l := by
 unfold raddlekeep_TwinInts.f
 simp only [List.length_nil, List.nil_append]
 rw [if_pos z5_]
end Go.Proofs.Ytimbbaoodjhdoaa.Plain
end
section
namespace Go.Proofs.Ytimbbaoodjhdoaa.PAll
open Go.RowKit PrintWords PrintLast PrintMore ZipT PrintWords.Kd PrintMore.Kd
attribute [local go_sem] eC eA eM eK dP dR dZ eB   -- for this text's walks alone
set_option linter.unusedVariables false
set_option linter.unusedSimpArgs false
mutual
def raddleref14_Pred.j0 : Nat → List Int → Bool → Int → Int → Int → Int → Int → ByteArray → Option (Int)
 | 0, _, _, _, _, _, _, _, _ => none
 | k + 1, x1, x5, x122000, x122001, x122002, x122003, x122004, x122005 => if x122000 = 1 then (raddleref14_Pred.j1 k x1 x5 true x122000 x122001 x122002 x122003 x122004 x122005) else (raddleref14_Pred.j1 k x1 x5 (x122000 == 2) x122000 x122001 x122002 x122003 x122004 x122005)
def raddleref14_Pred.j1 : Nat → List Int → Bool → Bool → Int → Int → Int → Int → Int → ByteArray → Option (Int)
 | 0, _, _, _, _, _, _, _, _, _ => none
 | k + 1, x1, x5, x6, x122000, x122001, x122002, x122003, x122004, x122005 => (raddleref14_in.f x122000 1 6).bind fun t122 => (if t122 = true then ((raddleref14_in.f x122001 0 (wrap64 ((x1.length : Int) - 1))).bind fun t123 => (if t123 = true then (if x5 = true then ((raddleref14_in.f x122002 0 (wrap64 ((x1.length : Int) - 1))).bind fun t124 => (if t124 = true then (if x6 = true then ((bU.f x122003 x122004 x122005).bind fun t125 => (raddleref14_Pred.j2 k x1 x5 x6 (!t125) x122000 x122001 x122002 x122003 x122004 x122005)) else (raddleref14_Pred.j2 k x1 x5 x6 false x122000 x122001 x122002 x122003 x122004 x122005)) else (raddleref14_Pred.j2 k x1 x5 x6 true x122000 x122001 x122002 x122003 x122004 x122005))) else (if x6 = true then ((bU.f x122003 x122004 x122005).bind fun t126 => (raddleref14_Pred.j2 k x1 x5 x6 (!t126) x122000 x122001 x122002 x122003 x122004 x122005)) else (raddleref14_Pred.j2 k x1 x5 x6 false x122000 x122001 x122002 x122003 x122004 x122005))) else (raddleref14_Pred.j2 k x1 x5 x6 true x122000 x122001 x122002 x122003 x122004 x122005))) else (raddleref14_Pred.j2 k x1 x5 x6 true x122000 x122001 x122002 x122003 x122004 x122005))
def raddleref14_Pred.j2 : Nat → List Int → Bool → Bool → Bool → Int → Int → Int → Int → Int → ByteArray → Option (Int)
 | 0, _, _, _, _, _, _, _, _, _, _ => none
 | k + 1, x1, x5, x6, x56, x122000, x122001, x122002, x122003, x122004, x122005 => if x56 = true then (some 1) else (if x6 = true then (if 0 ≤ x122001 then (if x122001 < (x1.length : Int) then ((cX.f x122003 x122004 x122005 (rd x1 x122001)).bind fun t128 => (if t128 = true then (if x5 = true then (if 0 ≤ x122002 then (if x122002 < (x1.length : Int) then (if (rd x1 x122002) = (rd x1 x122001) then (some 0) else (some 10)) else (none)) else (none)) else (some 0)) else (some 10))) else (none)) else (none)) else (if x5 = true then (if 0 ≤ x122002 then (if x122002 < (x1.length : Int) then (if 0 ≤ x122001 then (if x122001 < (x1.length : Int) then (if (rd x1 x122002) = (rd x1 x122001) then (some 0) else (some 10)) else (none)) else (none)) else (none)) else (none)) else (some 0)))
end
def raddleref14_Pred.f (k : Nat) (a0_0 : Int) (a0_1 : Int) (a0_2 : Int) (a0_3 : Int) (a0_4 : Int) (a0_5 : ByteArray) (l1 : List Int) : Option (Int) := if a0_0 = 3 then (raddleref14_Pred.j0 k l1 true a0_0 a0_1 a0_2 a0_3 a0_4 a0_5) else (raddleref14_Pred.j0 k l1 (a0_0 == 4) a0_0 a0_1 a0_2 a0_3 a0_4 a0_5)
def raddleref14_Pred.T5 : Bool × List (List Nat × List Nat) := (true, [([], []), ([0], [0]), ([1], [1]), ([2, 1], [1, 2]), ([1], [1]), ([1], [1]), ([5, 1], [1, 5]), ([4, 6, 1], [1, 4, 6]), ([7, 1], [1, 7]), ([3, 8, 1, 1], [1, 3, 8]), ([9, 1], [1, 9]), ([1, 10], [1, 10]), ([11, 9], [11]), ([12], [12]), ([13, 12, 12], [12, 13]), ([14], [14]), ([14], [14]), ([16, 14], [14, 16]), ([15, 17, 14], [14, 15, 17]), ([18, 14], [14, 18]), ([14], [14]), ([14], [14]), ([21, 14], [14, 21]), ([20, 22, 14], [14, 20, 22]), ([23, 14], [14, 23]), ([19, 24, 14], [14, 19, 24]), ([14, 25, 12], [12, 14, 25]), ([12, 26], [12, 26])])
def raddleref14_Pred.B5 : List Nat := [0, 1, 3, 7, 3, 3, 35, 115, 243, 511, 1023, 2047, 4095, 8191, 16383, 32767, 32767, 98303, 262143, 524287, 32767, 32767, 2129919, 7372799, 15761407, 33554431, 67108863, 134217727]
theorem raddleref14_Pred.tab5 : rtab .any (opsOf Try.f36 5) = raddleref14_Pred.T5 := by kernel_rfl
theorem raddleref14_Pred.bits5 : waitsOk raddleref14_Pred.T5.2 raddleref14_Pred.B5 = true := by kernel_rfl
theorem raddleref14_Pred.calls (k : Nat) (a0_0 : Int) (a0_1 : Int) (a0_2 : Int) (a0_3 : Int) (a0_4 : Int) (a0_5 : ByteArray) (A1 : Option Addr) (c1 : Nat) (l1 : List Int) (r : Int) (w : World) (hr1 : Kd.C (Kd.int .i64) w A1 l1.length l1) (hc1 : l1.length ≤ c1) (h : raddleref14_Pred.f k a0_0 a0_1 a0_2 a0_3 a0_4 a0_5 l1 = some r) :
  Calls Try.prog 36 #[.agg #[.int .i64 a0_0, .int .i64 a0_1, .int .i64 a0_2, .int .i64 a0_3, .int .i64 a0_4, .string a0_5], .slice A1 l1.length c1] w fun e w' => e = .returned (.int .i64 r) ∧ Below w.heap.size w w' := by
 have hu31 := Try.underlying31
 have hu29 := Try.underlying29
 have HR1 := mk_ hr1
 have HC1 := mk_ hc1
 clear hr1 hc1
 have HB := mk_ (Below.refl w.heap.size w)
 have H : (if a0_0 = 3 then (raddleref14_Pred.j0 k l1 true a0_0 a0_1 a0_2 a0_3 a0_4 a0_5) else (raddleref14_Pred.j0 k l1 (a0_0 == 4) a0_0 a0_1 a0_2 a0_3 a0_4 a0_5)) = some r := h
 clear h
 have HC3 := mk_ H
 clear H
 go_enter Try.func36, Try.ntmps36
 go_upto_region 1 with (first | ((with_reducible refine bI (N := 2) rfl ?_); (try (refine bW z12_ ?_; dsimp only)); refine bJ ?hg (N := 2) ?hd (cs := #[.int .i64 a0_0, .int .i64 a0_1, .int .i64 a0_2, .int .i64 a0_3, .int .i64 a0_4, .string a0_5]) (t := 31) ?hr ?_; (case hd => rfl); (case hg => rfl); (case hr => first | (go_simp; done) | (go_simp; rfl)); intro gb121 hg w4 hbox hb; have n0_ := mk_ (aG (Short.hB HB) hb); have n1_ := mk_ (hbox); have n2_ := mk_ ((by rw [hg]; exact (aK (Short.hB HB)) : w.heap.size ≤ gb121)); have n3_ := mk_ ((by rw [hg]; exact (aK (Short.hB HB)) : w.heap.size ≤ gb121)); clear HB; revert n0_ n1_ n2_ n3_; intro HB BK121 GW121 GE121; clear hb hbox hg))
 (try simp only [Act.put, List.setIfInBounds_toArray, List.set_cons_zero, List.set_cons_succ])
 go_cut [5] (fun v5 wc => ∃ (kq : Nat) (x5_2 : Bool), v5 = .bool x5_2 ∧ Aside0 (raddleref14_Pred.j0 kq l1 x5_2 a0_0 a0_1 a0_2 a0_3 a0_4 a0_5 = some r) ∧ Aside0 (kq ≤ k) ∧ Aside0 (wc.heap[gb121]? = some (.cells #[.int .i64 a0_0, .int .i64 a0_1, .int .i64 a0_2, .int .i64 a0_3, .int .i64 a0_4, .string a0_5] 31 (0, 0))) ∧ Aside0 (Below w.heap.size w wc))
 case first =>
  have H := HC3.out
  clear HC3
  by_cases c5 : a0_0 = 3
  rotate_left
  ·
   rw [if_neg c5] at H
   have c5b0 : (a0_0 == 3) = false := beq_eq_false_iff_ne.mpr c5
   have c5b1 : (a0_0 != 3) = true := bne_iff_ne.mpr c5
   (first | rw [c5b0] | (simp only [i64_w, i32_w]; rw [c5b0]) | skip)
   have H' := mk_ H
   clear H
   obtain ⟨hcz7_0, hcz7_1, hcz7_2, hcz7_3, hcz7_4, hcz7_5, hfz7_0, hfz7_1, hfz7_2, hfz7_3, hfz7_4, hfz7_5⟩ := c6_ BK121.out
   go_wp2
   go_meet
   case rel => exact ⟨_, ((a0_0 == 4)), z9_, H', ⟨by first | omega | exact Nat.le_refl _⟩, ⟨by (with_reducible repeat (first | refine aX ?_ _ | refine aU ?_ | refine aY ?_ _)); exact BK121.out⟩, ⟨Short.hB HB⟩⟩
  rw [if_pos c5] at H
  have c5b0 : (a0_0 == 3) = true := beq_iff_eq.mpr c5
  have c5b1 : (a0_0 != 3) = false := bne_eq_false_iff_eq.mpr c5
  clear c5
  (first | rw [c5b0] | (simp only [i64_w, i32_w]; rw [c5b0]) | skip)
  have H' := mk_ H
  clear H
  obtain ⟨hcz6_0, hcz6_1, hcz6_2, hcz6_3, hcz6_4, hcz6_5, hfz6_0, hfz6_1, hfz6_2, hfz6_3, hfz6_4, hfz6_5⟩ := c6_ BK121.out
  go_wp2
  go_meet
  case rel => exact ⟨_, (true), z9_, H', ⟨by first | omega | exact Nat.le_refl _⟩, ⟨by (with_reducible repeat (first | refine aX ?_ _ | refine aU ?_ | refine aY ?_ _)); exact BK121.out⟩, ⟨Short.hB HB⟩⟩
 case rest => as_aux_lemma =>
  clear HC3
  try clear c1
  try clear p2
  try clear c3
  try clear c5
  try clear c5b0
  try clear c5b1
  try clear hcz6_0
  try clear hcz6_1
  try clear hcz6_2
  try clear hcz6_3
  try clear hcz6_4
  try clear hcz6_5
  try clear hcz7_0
  try clear hcz7_1
  try clear hcz7_2
  try clear hcz7_3
  try clear hcz7_4
  try clear hcz7_5
  try clear hfz6_0
  try clear hfz6_1
  try clear hfz6_2
  try clear hfz6_3
  try clear hfz6_4
  try clear hfz6_5
  try clear hfz7_0
  try clear hfz7_1
  try clear hfz7_2
  try clear hfz7_3
  try clear hfz7_4
  try clear hfz7_5
  obtain ⟨kq, x5_2, rfl, HA, HJ2, BK121, HB⟩ := hcut
  cases kq with
  | zero => exact absurd HA.out (by simp [raddleref14_Pred.j0])
  | succ kj2 =>
   have H := HA.out
   clear HA
   simp only [raddleref14_Pred.j0] at H
   have HC8 := mk_ H
   clear H
   go_upto_region 2 with (fail)
   go_cut [6] (fun v6 wc => ∃ (kq : Nat) (x6_7 : Bool), v6 = .bool x6_7 ∧ Aside0 (raddleref14_Pred.j1 kq l1 x5_2 x6_7 a0_0 a0_1 a0_2 a0_3 a0_4 a0_5 = some r) ∧ Aside0 (kq ≤ kj2) ∧ Aside0 (wc.heap[gb121]? = some (.cells #[.int .i64 a0_0, .int .i64 a0_1, .int .i64 a0_2, .int .i64 a0_3, .int .i64 a0_4, .string a0_5] 31 (0, 0))) ∧ Aside0 (Below w.heap.size w wc))
   case first =>
    have H := HC8.out
    clear HC8
    by_cases c9 : a0_0 = 1
    ·
     rw [if_pos c9] at H
     have c9b0 : (a0_0 == 1) = true := beq_iff_eq.mpr c9
     have c9b1 : (a0_0 != 1) = false := bne_eq_false_iff_eq.mpr c9
     clear c9
     (first | rw [c9b0] | (simp only [i64_w, i32_w]; rw [c9b0]) | skip)
     have H' := mk_ H
     clear H
     obtain ⟨hcz10_0, hcz10_1, hcz10_2, hcz10_3, hcz10_4, hcz10_5, hfz10_0, hfz10_1, hfz10_2, hfz10_3, hfz10_4, hfz10_5⟩ := c6_ BK121.out
     go_wp2
     go_meet
     case rel => exact ⟨_, (true), z9_, H', ⟨by have := HJ2.out; first | omega | exact Nat.le_refl _⟩, ⟨by (with_reducible repeat (first | refine aX ?_ _ | refine aU ?_ | refine aY ?_ _)); exact BK121.out⟩, ⟨Short.hB HB⟩⟩
    ·
     rw [if_neg c9] at H
     have c9b0 : (a0_0 == 1) = false := beq_eq_false_iff_ne.mpr c9
     have c9b1 : (a0_0 != 1) = true := bne_iff_ne.mpr c9
     (first | rw [c9b0] | (simp only [i64_w, i32_w]; rw [c9b0]) | skip)
     have H' := mk_ H
     clear H
     obtain ⟨hcz11_0, hcz11_1, hcz11_2, hcz11_3, hcz11_4, hcz11_5, hfz11_0, hfz11_1, hfz11_2, hfz11_3, hfz11_4, hfz11_5⟩ := c6_ BK121.out
     go_wp2
     go_meet
     case rel => exact ⟨_, ((a0_0 == 2)), z9_, H', ⟨by have := HJ2.out; first | omega | exact Nat.le_refl _⟩, ⟨by (with_reducible repeat (first | refine aX ?_ _ | refine aU ?_ | refine aY ?_ _)); exact BK121.out⟩, ⟨Short.hB HB⟩⟩
   case rest => as_aux_lemma =>
    clear HC8
    try clear c1
    try clear p2
    try clear c3
    try clear c5
    try clear c5b0
    try clear c5b1
    try clear c9
    try clear c9b0
    try clear c9b1
    try clear hcz10_0
    try clear hcz10_1
    try clear hcz10_2
    try clear hcz10_3
    try clear hcz10_4
    try clear hcz10_5
    try clear hcz11_0
    try clear hcz11_1
    try clear hcz11_2
    try clear hcz11_3
    try clear hcz11_4
    try clear hcz11_5
    try clear hcz6_0
    try clear hcz6_1
    try clear hcz6_2
    try clear hcz6_3
    try clear hcz6_4
    try clear hcz6_5
    try clear hcz7_0
    try clear hcz7_1
    try clear hcz7_2
    try clear hcz7_3
    try clear hcz7_4
    try clear hcz7_5
    try clear hfz10_0
    try clear hfz10_1
    try clear hfz10_2
    try clear hfz10_3
    try clear hfz10_4
    try clear hfz10_5
    try clear hfz11_0
    try clear hfz11_1
    try clear hfz11_2
    try clear hfz11_3
    try clear hfz11_4
    try clear hfz11_5
    try clear hfz6_0
    try clear hfz6_1
    try clear hfz6_2
    try clear hfz6_3
    try clear hfz6_4
    try clear hfz6_5
    try clear hfz7_0
    try clear hfz7_1
    try clear hfz7_2
    try clear hfz7_3
    try clear hfz7_4
    try clear hfz7_5
    try clear p2
    obtain ⟨kq, x6_7, rfl, HA, HJ7, BK121, HB⟩ := hcut
    cases kq with
    | zero => exact absurd HA.out (by simp [raddleref14_Pred.j1])
    | succ kj7 =>
     have H := HA.out
     clear HA
     simp only [raddleref14_Pred.j1] at H
     have HC12 := mk_ H
     clear H
     go_upto_region 3 with (fail)
     go_cut [56] (fun v56 wc => ∃ (kq : Nat) (x56_11 : Bool), v56 = .bool x56_11 ∧ Aside0 (raddleref14_Pred.j2 kq l1 x5_2 x6_7 x56_11 a0_0 a0_1 a0_2 a0_3 a0_4 a0_5 = some r) ∧ Aside0 (kq ≤ kj7) ∧ Aside0 (wc.heap[gb121]? = some (.cells #[.int .i64 a0_0, .int .i64 a0_1, .int .i64 a0_2, .int .i64 a0_3, .int .i64 a0_4, .string a0_5] 31 (0, 0))) ∧ Aside0 (Below w.heap.size w wc))
     case first =>
      have H := HC12.out
      clear HC12
      replace H := Option.bind_eq_some_iff.mp H
      obtain ⟨t122, A130, H⟩ := H
      replace H : (if t122 = true then ((raddleref14_in.f a0_1 0 (wrap64 ((l1.length : Int) - 1))).bind fun t123 => (if t123 = true then (if x5_2 = true then ((raddleref14_in.f a0_2 0 (wrap64 ((l1.length : Int) - 1))).bind fun t124 => (if t124 = true then (if x6_7 = true then ((bU.f a0_3 a0_4 a0_5).bind fun t125 => (raddleref14_Pred.j2 kj7 l1 x5_2 x6_7 (!t125) a0_0 a0_1 a0_2 a0_3 a0_4 a0_5)) else (raddleref14_Pred.j2 kj7 l1 x5_2 x6_7 false a0_0 a0_1 a0_2 a0_3 a0_4 a0_5)) else (raddleref14_Pred.j2 kj7 l1 x5_2 x6_7 true a0_0 a0_1 a0_2 a0_3 a0_4 a0_5))) else (if x6_7 = true then ((bU.f a0_3 a0_4 a0_5).bind fun t126 => (raddleref14_Pred.j2 kj7 l1 x5_2 x6_7 (!t126) a0_0 a0_1 a0_2 a0_3 a0_4 a0_5)) else (raddleref14_Pred.j2 kj7 l1 x5_2 x6_7 false a0_0 a0_1 a0_2 a0_3 a0_4 a0_5))) else (raddleref14_Pred.j2 kj7 l1 x5_2 x6_7 true a0_0 a0_1 a0_2 a0_3 a0_4 a0_5))) else (raddleref14_Pred.j2 kj7 l1 x5_2 x6_7 true a0_0 a0_1 a0_2 a0_3 a0_4 a0_5)) = some r := H
      have A13 := mk_ A130
      clear A130
      by_cases c14 : t122 = true
      ·
       subst c14
       rw [if_pos rfl] at H
       replace H := Option.bind_eq_some_iff.mp H
       obtain ⟨t123, A150, H⟩ := H
       replace H : (if t123 = true then (if x5_2 = true then ((raddleref14_in.f a0_2 0 (wrap64 ((l1.length : Int) - 1))).bind fun t124 => (if t124 = true then (if x6_7 = true then ((bU.f a0_3 a0_4 a0_5).bind fun t125 => (raddleref14_Pred.j2 kj7 l1 x5_2 x6_7 (!t125) a0_0 a0_1 a0_2 a0_3 a0_4 a0_5)) else (raddleref14_Pred.j2 kj7 l1 x5_2 x6_7 false a0_0 a0_1 a0_2 a0_3 a0_4 a0_5)) else (raddleref14_Pred.j2 kj7 l1 x5_2 x6_7 true a0_0 a0_1 a0_2 a0_3 a0_4 a0_5))) else (if x6_7 = true then ((bU.f a0_3 a0_4 a0_5).bind fun t126 => (raddleref14_Pred.j2 kj7 l1 x5_2 x6_7 (!t126) a0_0 a0_1 a0_2 a0_3 a0_4 a0_5)) else (raddleref14_Pred.j2 kj7 l1 x5_2 x6_7 false a0_0 a0_1 a0_2 a0_3 a0_4 a0_5))) else (raddleref14_Pred.j2 kj7 l1 x5_2 x6_7 true a0_0 a0_1 a0_2 a0_3 a0_4 a0_5)) = some r := H
       have A15 := mk_ A150
       clear A150
       by_cases c16 : t123 = true
       ·
        subst c16
        rw [if_pos rfl] at H
        by_cases c17 : x5_2 = true
        ·
         subst c17
         rw [if_pos rfl] at H
         replace H := Option.bind_eq_some_iff.mp H
         obtain ⟨t124, A180, H⟩ := H
         replace H : (if t124 = true then (if x6_7 = true then ((bU.f a0_3 a0_4 a0_5).bind fun t125 => (raddleref14_Pred.j2 kj7 l1 true x6_7 (!t125) a0_0 a0_1 a0_2 a0_3 a0_4 a0_5)) else (raddleref14_Pred.j2 kj7 l1 true x6_7 false a0_0 a0_1 a0_2 a0_3 a0_4 a0_5)) else (raddleref14_Pred.j2 kj7 l1 true x6_7 true a0_0 a0_1 a0_2 a0_3 a0_4 a0_5)) = some r := H
         have A18 := mk_ A180
         clear A180
         by_cases c19 : t124 = true
         ·
          subst c19
          rw [if_pos rfl] at H
          by_cases c20 : x6_7 = true
          ·
           subst c20
           rw [if_pos rfl] at H
           replace H := Option.bind_eq_some_iff.mp H
           obtain ⟨t125, A210, H⟩ := H
           replace H : (raddleref14_Pred.j2 kj7 l1 true true (!t125) a0_0 a0_1 a0_2 a0_3 a0_4 a0_5) = some r := H
           have A21 := mk_ A210
           clear A210
           have H' := mk_ H
           clear H
           obtain ⟨hcz22_0, hcz22_1, hcz22_2, hcz22_3, hcz22_4, hcz22_5, hfz22_0, hfz22_1, hfz22_2, hfz22_3, hfz22_4, hfz22_5⟩ := c6_ BK121.out
           go_wp2_with (first | ((with_reducible refine bB (f := 26) rfl ?_); refine Short.gL (some 25) Try.func26 #[.int .i64 a0_0, .int .i64 1, .int .i64 6] (h := ?_); (with_reducible refine (raddleref14_in.calls a0_0 1 6 true _ A13.out).mono ?_); rintro e w' ⟨rfl, ⟨nd, rfl⟩⟩; refine ⟨_, rfl, ?_⟩) | (go_at_call 26; (with_reducible refine (raddleref14_in.calls a0_1 0 (wrap64 ((l1.length : Int) - 1)) true _ A15.out).mono ?_); rintro e w' ⟨rfl, ⟨nd, rfl⟩⟩) | (go_at_call 26; (with_reducible refine (raddleref14_in.calls a0_2 0 (wrap64 ((l1.length : Int) - 1)) true _ A18.out).mono ?_); rintro e w' ⟨rfl, ⟨nd, rfl⟩⟩) | (go_at_call 42; (with_reducible refine (bU.calls a0_3 a0_4 a0_5 t125 _ A21.out).mono ?_); rintro e w23 ⟨rfl, hb⟩; have n0_ := mk_ (bB_ BK121 hb); have n1_ := mk_ (aG (Short.hB HB) hb); clear BK121 HB; revert n0_ n1_; intro BK121 HB; (try clear hb); (try clear hb2); (try clear hk); (try clear hi)))
           go_meet
           case rel => exact ⟨_, (!t125), z9_, H', ⟨by have := HJ2.out; have := HJ7.out; first | omega | exact Nat.le_refl _⟩, ⟨by (with_reducible repeat (first | refine aX ?_ _ | refine aU ?_ | refine aY ?_ _)); exact BK121.out⟩, ⟨Short.hB HB⟩⟩
          ·
           replace c20 := Bool.eq_false_iff.mpr c20
           subst c20
           rw [if_neg (show ¬ (false = true) by decide)] at H
           have H' := mk_ H
           clear H
           obtain ⟨hcz24_0, hcz24_1, hcz24_2, hcz24_3, hcz24_4, hcz24_5, hfz24_0, hfz24_1, hfz24_2, hfz24_3, hfz24_4, hfz24_5⟩ := c6_ BK121.out
           go_wp2_with (first | ((with_reducible refine bB (f := 26) rfl ?_); refine Short.gL (some 25) Try.func26 #[.int .i64 a0_0, .int .i64 1, .int .i64 6] (h := ?_); (with_reducible refine (raddleref14_in.calls a0_0 1 6 true _ A13.out).mono ?_); rintro e w' ⟨rfl, ⟨nd, rfl⟩⟩; refine ⟨_, rfl, ?_⟩) | (go_at_call 26; (with_reducible refine (raddleref14_in.calls a0_1 0 (wrap64 ((l1.length : Int) - 1)) true _ A15.out).mono ?_); rintro e w' ⟨rfl, ⟨nd, rfl⟩⟩) | (go_at_call 26; (with_reducible refine (raddleref14_in.calls a0_2 0 (wrap64 ((l1.length : Int) - 1)) true _ A18.out).mono ?_); rintro e w' ⟨rfl, ⟨nd, rfl⟩⟩))
           go_meet
           case rel => exact ⟨_, (false), z9_, H', ⟨by have := HJ2.out; have := HJ7.out; first | omega | exact Nat.le_refl _⟩, ⟨by (with_reducible repeat (first | refine aX ?_ _ | refine aU ?_ | refine aY ?_ _)); exact BK121.out⟩, ⟨Short.hB HB⟩⟩
         ·
          replace c19 := Bool.eq_false_iff.mpr c19
          subst c19
          rw [if_neg (show ¬ (false = true) by decide)] at H
          have H' := mk_ H
          clear H
          obtain ⟨hcz25_0, hcz25_1, hcz25_2, hcz25_3, hcz25_4, hcz25_5, hfz25_0, hfz25_1, hfz25_2, hfz25_3, hfz25_4, hfz25_5⟩ := c6_ BK121.out
          go_wp2_with (first | ((with_reducible refine bB (f := 26) rfl ?_); refine Short.gL (some 25) Try.func26 #[.int .i64 a0_0, .int .i64 1, .int .i64 6] (h := ?_); (with_reducible refine (raddleref14_in.calls a0_0 1 6 true _ A13.out).mono ?_); rintro e w' ⟨rfl, ⟨nd, rfl⟩⟩; refine ⟨_, rfl, ?_⟩) | (go_at_call 26; (with_reducible refine (raddleref14_in.calls a0_1 0 (wrap64 ((l1.length : Int) - 1)) true _ A15.out).mono ?_); rintro e w' ⟨rfl, ⟨nd, rfl⟩⟩) | (go_at_call 26; (with_reducible refine (raddleref14_in.calls a0_2 0 (wrap64 ((l1.length : Int) - 1)) false _ A18.out).mono ?_); rintro e w' ⟨rfl, ⟨nd, rfl⟩⟩))
          go_meet
          case rel => exact ⟨_, (true), z9_, H', ⟨by have := HJ2.out; have := HJ7.out; first | omega | exact Nat.le_refl _⟩, ⟨by (with_reducible repeat (first | refine aX ?_ _ | refine aU ?_ | refine aY ?_ _)); exact BK121.out⟩, ⟨Short.hB HB⟩⟩
        ·
         replace c17 := Bool.eq_false_iff.mpr c17
         subst c17
         rw [if_neg (show ¬ (false = true) by decide)] at H
         by_cases c26 : x6_7 = true
         ·
          subst c26
          rw [if_pos rfl] at H
          replace H := Option.bind_eq_some_iff.mp H
          obtain ⟨t126, A270, H⟩ := H
          replace H : (raddleref14_Pred.j2 kj7 l1 false true (!t126) a0_0 a0_1 a0_2 a0_3 a0_4 a0_5) = some r := H
          have A27 := mk_ A270
          clear A270
          have H' := mk_ H
          clear H
          obtain ⟨hcz28_0, hcz28_1, hcz28_2, hcz28_3, hcz28_4, hcz28_5, hfz28_0, hfz28_1, hfz28_2, hfz28_3, hfz28_4, hfz28_5⟩ := c6_ BK121.out
          go_wp2_with (first | ((with_reducible refine bB (f := 26) rfl ?_); refine Short.gL (some 25) Try.func26 #[.int .i64 a0_0, .int .i64 1, .int .i64 6] (h := ?_); (with_reducible refine (raddleref14_in.calls a0_0 1 6 true _ A13.out).mono ?_); rintro e w' ⟨rfl, ⟨nd, rfl⟩⟩; refine ⟨_, rfl, ?_⟩) | (go_at_call 26; (with_reducible refine (raddleref14_in.calls a0_1 0 (wrap64 ((l1.length : Int) - 1)) true _ A15.out).mono ?_); rintro e w' ⟨rfl, ⟨nd, rfl⟩⟩) | (go_at_call 42; (with_reducible refine (bU.calls a0_3 a0_4 a0_5 t126 _ A27.out).mono ?_); rintro e w29 ⟨rfl, hb⟩; have n0_ := mk_ (bB_ BK121 hb); have n1_ := mk_ (aG (Short.hB HB) hb); clear BK121 HB; revert n0_ n1_; intro BK121 HB; (try clear hb); (try clear hb2); (try clear hk); (try clear hi)))
          go_meet
          case rel => exact ⟨_, (!t126), z9_, H', ⟨by have := HJ2.out; have := HJ7.out; first | omega | exact Nat.le_refl _⟩, ⟨by (with_reducible repeat (first | refine aX ?_ _ | refine aU ?_ | refine aY ?_ _)); exact BK121.out⟩, ⟨Short.hB HB⟩⟩
         ·
          replace c26 := Bool.eq_false_iff.mpr c26
          subst c26
          rw [if_neg (show ¬ (false = true) by decide)] at H
          have H' := mk_ H
          clear H
          obtain ⟨hcz30_0, hcz30_1, hcz30_2, hcz30_3, hcz30_4, hcz30_5, hfz30_0, hfz30_1, hfz30_2, hfz30_3, hfz30_4, hfz30_5⟩ := c6_ BK121.out
          go_wp2_with (first | ((with_reducible refine bB (f := 26) rfl ?_); refine Short.gL (some 25) Try.func26 #[.int .i64 a0_0, .int .i64 1, .int .i64 6] (h := ?_); (with_reducible refine (raddleref14_in.calls a0_0 1 6 true _ A13.out).mono ?_); rintro e w' ⟨rfl, ⟨nd, rfl⟩⟩; refine ⟨_, rfl, ?_⟩) | (go_at_call 26; (with_reducible refine (raddleref14_in.calls a0_1 0 (wrap64 ((l1.length : Int) - 1)) true _ A15.out).mono ?_); rintro e w' ⟨rfl, ⟨nd, rfl⟩⟩))
          go_meet
          case rel => exact ⟨_, (false), z9_, H', ⟨by have := HJ2.out; have := HJ7.out; first | omega | exact Nat.le_refl _⟩, ⟨by (with_reducible repeat (first | refine aX ?_ _ | refine aU ?_ | refine aY ?_ _)); exact BK121.out⟩, ⟨Short.hB HB⟩⟩
       ·
        replace c16 := Bool.eq_false_iff.mpr c16
        subst c16
        rw [if_neg (show ¬ (false = true) by decide)] at H
        have H' := mk_ H
        clear H
        obtain ⟨hcz31_0, hcz31_1, hcz31_2, hcz31_3, hcz31_4, hcz31_5, hfz31_0, hfz31_1, hfz31_2, hfz31_3, hfz31_4, hfz31_5⟩ := c6_ BK121.out
        go_wp2_with (first | ((with_reducible refine bB (f := 26) rfl ?_); refine Short.gL (some 25) Try.func26 #[.int .i64 a0_0, .int .i64 1, .int .i64 6] (h := ?_); (with_reducible refine (raddleref14_in.calls a0_0 1 6 true _ A13.out).mono ?_); rintro e w' ⟨rfl, ⟨nd, rfl⟩⟩; refine ⟨_, rfl, ?_⟩) | (go_at_call 26; (with_reducible refine (raddleref14_in.calls a0_1 0 (wrap64 ((l1.length : Int) - 1)) false _ A15.out).mono ?_); rintro e w' ⟨rfl, ⟨nd, rfl⟩⟩))
        go_meet
        case rel => exact ⟨_, (true), z9_, H', ⟨by have := HJ2.out; have := HJ7.out; first | omega | exact Nat.le_refl _⟩, ⟨by (with_reducible repeat (first | refine aX ?_ _ | refine aU ?_ | refine aY ?_ _)); exact BK121.out⟩, ⟨Short.hB HB⟩⟩
      ·
       replace c14 := Bool.eq_false_iff.mpr c14
       subst c14
       rw [if_neg (show ¬ (false = true) by decide)] at H
       have H' := mk_ H
       clear H
       obtain ⟨hcz32_0, hcz32_1, hcz32_2, hcz32_3, hcz32_4, hcz32_5, hfz32_0, hfz32_1, hfz32_2, hfz32_3, hfz32_4, hfz32_5⟩ := c6_ BK121.out
       go_wp2_with (first | ((with_reducible refine bB (f := 26) rfl ?_); refine Short.gL (some 25) Try.func26 #[.int .i64 a0_0, .int .i64 1, .int .i64 6] (h := ?_); (with_reducible refine (raddleref14_in.calls a0_0 1 6 false _ A13.out).mono ?_); rintro e w' ⟨rfl, ⟨nd, rfl⟩⟩; refine ⟨_, rfl, ?_⟩))
       go_meet
       case rel => exact ⟨_, (true), z9_, H', ⟨by have := HJ2.out; have := HJ7.out; first | omega | exact Nat.le_refl _⟩, ⟨by (with_reducible repeat (first | refine aX ?_ _ | refine aU ?_ | refine aY ?_ _)); exact BK121.out⟩, ⟨Short.hB HB⟩⟩
     case rest => as_aux_lemma =>
      clear HC12
      try clear c1
      try clear c2
      try clear p2
      try clear c3
      try clear c5
      try clear c5b0
      try clear c5b1
      try clear p6
      try clear c9
      try clear c9b0
      try clear c9b1
      try clear c14
      try clear c16
      try clear c17
      try clear c19
      try clear c20
      try clear c26
      try clear hcz10_0
      try clear hcz10_1
      try clear hcz10_2
      try clear hcz10_3
      try clear hcz10_4
      try clear hcz10_5
      try clear hcz11_0
      try clear hcz11_1
      try clear hcz11_2
      try clear hcz11_3
      try clear hcz11_4
      try clear hcz11_5
      try clear hcz22_0
      try clear hcz22_1
      try clear hcz22_2
      try clear hcz22_3
      try clear hcz22_4
      try clear hcz22_5
      try clear hcz24_0
      try clear hcz24_1
      try clear hcz24_2
      try clear hcz24_3
      try clear hcz24_4
      try clear hcz24_5
      try clear hcz25_0
      try clear hcz25_1
      try clear hcz25_2
      try clear hcz25_3
      try clear hcz25_4
      try clear hcz25_5
      try clear hcz28_0
      try clear hcz28_1
      try clear hcz28_2
      try clear hcz28_3
      try clear hcz28_4
      try clear hcz28_5
      try clear hcz30_0
      try clear hcz30_1
      try clear hcz30_2
      try clear hcz30_3
      try clear hcz30_4
      try clear hcz30_5
      try clear hcz31_0
      try clear hcz31_1
      try clear hcz31_2
      try clear hcz31_3
      try clear hcz31_4
      try clear hcz31_5
      try clear hcz32_0
      try clear hcz32_1
      try clear hcz32_2
      try clear hcz32_3
      try clear hcz32_4
      try clear hcz32_5
      try clear hcz6_0
      try clear hcz6_1
      try clear hcz6_2
      try clear hcz6_3
      try clear hcz6_4
      try clear hcz6_5
      try clear hcz7_0
      try clear hcz7_1
      try clear hcz7_2
      try clear hcz7_3
      try clear hcz7_4
      try clear hcz7_5
      try clear hfz10_0
      try clear hfz10_1
      try clear hfz10_2
      try clear hfz10_3
      try clear hfz10_4
      try clear hfz10_5
      try clear hfz11_0
      try clear hfz11_1
      try clear hfz11_2
      try clear hfz11_3
      try clear hfz11_4
      try clear hfz11_5
      try clear hfz22_0
      try clear hfz22_1
      try clear hfz22_2
      try clear hfz22_3
      try clear hfz22_4
      try clear hfz22_5
      try clear hfz24_0
      try clear hfz24_1
      try clear hfz24_2
      try clear hfz24_3
      try clear hfz24_4
      try clear hfz24_5
      try clear hfz25_0
      try clear hfz25_1
      try clear hfz25_2
      try clear hfz25_3
      try clear hfz25_4
      try clear hfz25_5
      try clear hfz28_0
      try clear hfz28_1
      try clear hfz28_2
      try clear hfz28_3
      try clear hfz28_4
      try clear hfz28_5
      try clear hfz30_0
      try clear hfz30_1
      try clear hfz30_2
      try clear hfz30_3
      try clear hfz30_4
      try clear hfz30_5
      try clear hfz31_0
      try clear hfz31_1
      try clear hfz31_2
      try clear hfz31_3
      try clear hfz31_4
      try clear hfz31_5
      try clear hfz32_0
      try clear hfz32_1
      try clear hfz32_2
      try clear hfz32_3
      try clear hfz32_4
      try clear hfz32_5
      try clear hfz6_0
      try clear hfz6_1
      try clear hfz6_2
      try clear hfz6_3
      try clear hfz6_4
      try clear hfz6_5
      try clear hfz7_0
      try clear hfz7_1
      try clear hfz7_2
      try clear hfz7_3
      try clear hfz7_4
      try clear hfz7_5
      try clear p2
      obtain ⟨kq, x56_11, rfl, HA, HJ11, BK121, HB⟩ := hcut
      cases kq with
      | zero => exact absurd HA.out (by simp [raddleref14_Pred.j2])
      | succ kj11 =>
       have H := HA.out
       clear HA
       simp only [raddleref14_Pred.j2] at H
       by_cases c33 : x56_11 = true
       ·
        subst c33
        rw [if_pos rfl] at H
        obtain rfl := Option.some.inj H
        go_wp2
        go_ret
        exact ⟨q0, Short.hB HB⟩
       ·
        replace c33 := Bool.eq_false_iff.mpr c33
        subst c33
        rw [if_neg (show ¬ (false = true) by decide)] at H
        by_cases c34 : x6_7 = true
        ·
         subst c34
         rw [if_pos rfl] at H
         by_cases c35 : 0 ≤ a0_1
         ·
          rw [if_pos c35] at H
          have c35b0 : decide (0 ≤ a0_1) = true := decide_eq_true c35
          clear c35
          by_cases c36 : a0_1 < (l1.length : Int)
          ·
           rw [if_pos c36] at H
           have c36b0 : decide (a0_1 < (l1.length : Int)) = true := decide_eq_true c36
           clear c36
           replace H := Option.bind_eq_some_iff.mp H
           obtain ⟨t128, A370, H⟩ := H
           replace H : (if t128 = true then (if x5_2 = true then (if 0 ≤ a0_2 then (if a0_2 < (l1.length : Int) then (if (rd l1 a0_2) = (rd l1 a0_1) then (some 0) else (some 10)) else (none)) else (none)) else (some 0)) else (some 10)) = some r := H
           have A37 := mk_ A370
           clear A370
           by_cases c38 : t128 = true
           ·
            subst c38
            rw [if_pos rfl] at H
            by_cases c39 : x5_2 = true
            ·
             subst c39
             rw [if_pos rfl] at H
             by_cases c40 : 0 ≤ a0_2
             ·
              rw [if_pos c40] at H
              have c40b0 : decide (0 ≤ a0_2) = true := decide_eq_true c40
              clear c40
              by_cases c41 : a0_2 < (l1.length : Int)
              ·
               rw [if_pos c41] at H
               have c41b0 : decide (a0_2 < (l1.length : Int)) = true := decide_eq_true c41
               clear c41
               by_cases c42 : (rd l1 a0_2) = (rd l1 a0_1)
               ·
                rw [if_pos c42] at H
                have c42b0 : ((rd l1 a0_2) == (rd l1 a0_1)) = true := beq_iff_eq.mpr c42
                have c42b1 : ((rd l1 a0_2) != (rd l1 a0_1)) = false := bne_eq_false_iff_eq.mpr c42
                clear c42
                obtain rfl := Option.some.inj H
                try go_wp2
                have n0_ := mk_ (aU BK121.out)
                have n1_ := mk_ (cQ HB.out)
                clear BK121 HB
                revert n0_ n1_
                intro BK121 HB
                have p127 : 0 ≤ (a0_1 : Int) := of_decide_eq_true z4_
                have q127 : a0_1 < (l1.length : Int) := of_decide_eq_true z4_
                obtain ⟨ad127, e127, hx127_0⟩ := Kd.at_int HR1.out a0_1 p127 q127
                have hw127_0 := hx127_0
                cases e127
                replace hx127_0 := up_ HB hx127_0
                replace p127 := eq_true p127
                replace q127 := eq_true q127
                have p129 : 0 ≤ (a0_2 : Int) := of_decide_eq_true z4_
                have q129 : a0_2 < (l1.length : Int) := of_decide_eq_true z4_
                obtain ⟨ad129, e129, hx129_0⟩ := Kd.at_int HR1.out a0_2 p129 q129
                have hw129_0 := hx129_0
                obtain rfl : ad127 = ad129 := (by injection e129)
                replace hx129_0 := up_ HB hx129_0
                replace p129 := eq_true p129
                replace q129 := eq_true q129
                have p130 : 0 ≤ (a0_1 : Int) := of_decide_eq_true z4_
                have q130 : a0_1 < (l1.length : Int) := of_decide_eq_true z4_
                obtain ⟨ad130, e130, hx130_0⟩ := Kd.at_int HR1.out a0_1 p130 q130
                have hw130_0 := hx130_0
                obtain rfl : ad127 = ad130 := (by injection e130)
                replace hx130_0 := up_ HB hx130_0
                replace p130 := eq_true p130
                replace q130 := eq_true q130
                refine dX (n := 28) (S := fun w' => w'.cell? ⟨gb121, 0, none⟩ = some (.int .i64 a0_0) ∧ w'.cell? ⟨gb121, 1, none⟩ = some (.int .i64 a0_1) ∧ w'.cell? ⟨gb121, 2, none⟩ = some (.int .i64 a0_2) ∧ w'.cell? ⟨gb121, 3, none⟩ = some (.int .i64 a0_3) ∧ w'.cell? ⟨gb121, 4, none⟩ = some (.int .i64 a0_4) ∧ w'.cell? ⟨gb121, 5, none⟩ = some (.string a0_5) ∧ w'.cell? (ad127.add (a0_1).toNat) = some (.int .i64 (rd l1 a0_1)) ∧ w'.cell? (ad127.add (a0_2).toNat) = some (.int .i64 (rd l1 a0_2)) ∧ w'.cell? (ad127.add (a0_1).toNat) = some (.int .i64 (rd l1 a0_1))) (ds := []) (Steps.Bs 28 0) z1_ rfl rfl ⟨kc_ BK121 0, kc_ BK121 1, kc_ BK121 2, kc_ BK121 3, kc_ BK121 4, kc_ BK121 5, ((HB.out.cell (World.block_lt_of_cell? w _ hw127_0)).trans hw127_0), ((HB.out.cell (World.block_lt_of_cell? w _ hw129_0)).trans hw129_0), ((HB.out.cell (World.block_lt_of_cell? w _ hw130_0)).trans hw130_0)⟩ (fun hHeld => ?_); refine dB raddleref14_Pred.tab5 raddleref14_Pred.bits5 (fun HT_ HW_ => ?_)
                generalize wc.drew = w43 at BK121 HB hx127_0 hx129_0 hx130_0 hHeld ⊢
                refine tI HT_ 0 57 28 1 ?_
                refine tI HT_ 1 58 28 3 ?_
                refine tI HT_ 2 59 28 7 ?_
                refine tI HT_ 4 61 28 23 ?_
                refine tI HT_ 5 62 28 55 ?_
                refine tT HT_ HW_ hHeld 3 60 28 63 ?_
                refine tT HT_ HW_ hHeld 6 63 28 127 ?_
                refine tI HT_ 7 64 28 255 ?_
                refine tT HT_ HW_ hHeld 8 65 28 511 ?_
                refine one_ (i := 9) (N := some 66) (Steps.Bs 28 1023) rfl rfl (dA HT_.out z1_) z10_ (fun K hK => ?_)
                refine goes_ Try.func43 z1_ rfl #[.agg #[.int .i64 a0_3, .int .i64 a0_4, .string a0_5], .int .i64 (rd l1 a0_1)] z12_ rfl rfl z6_ ?_
                with_reducible refine (cX.calls a0_3 a0_4 a0_5 (rd l1 a0_1) true _ A37.out).mono ?_
                rintro e w44 ⟨rfl, hb⟩
                refine ⟨_, rfl, ?_⟩
                have n0_ := mk_ (bB_ BK121 hb)
                have n1_ := mk_ (aG (Short.hB HB) hb)
                clear BK121 HB
                revert n0_ n1_
                intro BK121 HB
                (try clear hb)
                (try clear hb2)
                (try clear hk)
                (try clear hi)
                refine hK.out _ _ ⟨kc_ BK121 0, kc_ BK121 1, kc_ BK121 2, kc_ BK121 3, kc_ BK121 4, kc_ BK121 5, ((HB.out.cell (World.block_lt_of_cell? w _ hw127_0)).trans hw127_0), ((HB.out.cell (World.block_lt_of_cell? w _ hw129_0)).trans hw129_0), ((HB.out.cell (World.block_lt_of_cell? w _ hw130_0)).trans hw130_0)⟩ (fun hHeld => ?_)
                clear hK K
                refine nrm 66 ?_
                refine tI HT_ 10 67 28 2047 ?_
                refine tI HT_ 11 68 28 4095 ?_
                refine tI HT_ 12 69 28 8191 ?_
                refine tI HT_ 13 70 28 16383 ?_
                refine tI HT_ 14 71 28 32767 ?_
                refine tI HT_ 15 72 28 65535 ?_
                refine tI HT_ 16 73 28 131071 ?_
                refine tI HT_ 20 77 28 1179647 ?_
                refine tI HT_ 21 78 28 3276799 ?_
                refine tT HT_ HW_ hHeld 17 74 28 3407871 ?_
                refine tI HT_ 18 75 28 3670015 ?_
                refine tT HT_ HW_ hHeld 19 76 28 4194303 ?_
                refine tT HT_ HW_ hHeld 22 79 28 8388607 ?_
                refine tI HT_ 23 80 28 16777215 ?_
                refine tT HT_ HW_ hHeld 24 81 28 33554431 ?_
                refine tI HT_ 25 82 28 67108863 ?_
                refine tI HT_ 26 83 28 134217727 ?_
                refine tI HT_ 27 84 28 268435455 ?_
                refine done_ (dT HT_.out z1_) ?_
                try go_wp2
                go_ret
                exact ⟨q0, Short.hB HB⟩
               ·
                rw [if_neg c42] at H
                have c42b0 : ((rd l1 a0_2) == (rd l1 a0_1)) = false := beq_eq_false_iff_ne.mpr c42
                have c42b1 : ((rd l1 a0_2) != (rd l1 a0_1)) = true := bne_iff_ne.mpr c42
                obtain rfl := Option.some.inj H
                try go_wp2
                have n0_ := mk_ (aU BK121.out)
                have n1_ := mk_ (cQ HB.out)
                clear BK121 HB
                revert n0_ n1_
                intro BK121 HB
                have p127 : 0 ≤ (a0_1 : Int) := of_decide_eq_true z4_
                have q127 : a0_1 < (l1.length : Int) := of_decide_eq_true z4_
                obtain ⟨ad127, e127, hx127_0⟩ := Kd.at_int HR1.out a0_1 p127 q127
                have hw127_0 := hx127_0
                cases e127
                replace hx127_0 := up_ HB hx127_0
                replace p127 := eq_true p127
                replace q127 := eq_true q127
                have p129 : 0 ≤ (a0_2 : Int) := of_decide_eq_true z4_
                have q129 : a0_2 < (l1.length : Int) := of_decide_eq_true z4_
                obtain ⟨ad129, e129, hx129_0⟩ := Kd.at_int HR1.out a0_2 p129 q129
                have hw129_0 := hx129_0
                obtain rfl : ad127 = ad129 := (by injection e129)
                replace hx129_0 := up_ HB hx129_0
                replace p129 := eq_true p129
                replace q129 := eq_true q129
                have p130 : 0 ≤ (a0_1 : Int) := of_decide_eq_true z4_
                have q130 : a0_1 < (l1.length : Int) := of_decide_eq_true z4_
                obtain ⟨ad130, e130, hx130_0⟩ := Kd.at_int HR1.out a0_1 p130 q130
                have hw130_0 := hx130_0
                obtain rfl : ad127 = ad130 := (by injection e130)
                replace hx130_0 := up_ HB hx130_0
                replace p130 := eq_true p130
                replace q130 := eq_true q130
                refine dX (n := 28) (S := fun w' => w'.cell? ⟨gb121, 0, none⟩ = some (.int .i64 a0_0) ∧ w'.cell? ⟨gb121, 1, none⟩ = some (.int .i64 a0_1) ∧ w'.cell? ⟨gb121, 2, none⟩ = some (.int .i64 a0_2) ∧ w'.cell? ⟨gb121, 3, none⟩ = some (.int .i64 a0_3) ∧ w'.cell? ⟨gb121, 4, none⟩ = some (.int .i64 a0_4) ∧ w'.cell? ⟨gb121, 5, none⟩ = some (.string a0_5) ∧ w'.cell? (ad127.add (a0_1).toNat) = some (.int .i64 (rd l1 a0_1)) ∧ w'.cell? (ad127.add (a0_2).toNat) = some (.int .i64 (rd l1 a0_2)) ∧ w'.cell? (ad127.add (a0_1).toNat) = some (.int .i64 (rd l1 a0_1))) (ds := []) (Steps.Bs 28 0) z1_ rfl rfl ⟨kc_ BK121 0, kc_ BK121 1, kc_ BK121 2, kc_ BK121 3, kc_ BK121 4, kc_ BK121 5, ((HB.out.cell (World.block_lt_of_cell? w _ hw127_0)).trans hw127_0), ((HB.out.cell (World.block_lt_of_cell? w _ hw129_0)).trans hw129_0), ((HB.out.cell (World.block_lt_of_cell? w _ hw130_0)).trans hw130_0)⟩ (fun hHeld => ?_); refine dB raddleref14_Pred.tab5 raddleref14_Pred.bits5 (fun HT_ HW_ => ?_)
                generalize wc.drew = w45 at BK121 HB hx127_0 hx129_0 hx130_0 hHeld ⊢
                refine tI HT_ 0 57 28 1 ?_
                refine tI HT_ 1 58 28 3 ?_
                refine tI HT_ 2 59 28 7 ?_
                refine tI HT_ 4 61 28 23 ?_
                refine tI HT_ 5 62 28 55 ?_
                refine tT HT_ HW_ hHeld 3 60 28 63 ?_
                refine tT HT_ HW_ hHeld 6 63 28 127 ?_
                refine tI HT_ 7 64 28 255 ?_
                refine tT HT_ HW_ hHeld 8 65 28 511 ?_
                refine one_ (i := 9) (N := some 66) (Steps.Bs 28 1023) rfl rfl (dA HT_.out z1_) z10_ (fun K hK => ?_)
                refine goes_ Try.func43 z1_ rfl #[.agg #[.int .i64 a0_3, .int .i64 a0_4, .string a0_5], .int .i64 (rd l1 a0_1)] z12_ rfl rfl z6_ ?_
                with_reducible refine (cX.calls a0_3 a0_4 a0_5 (rd l1 a0_1) true _ A37.out).mono ?_
                rintro e w46 ⟨rfl, hb⟩
                refine ⟨_, rfl, ?_⟩
                have n0_ := mk_ (bB_ BK121 hb)
                have n1_ := mk_ (aG (Short.hB HB) hb)
                clear BK121 HB
                revert n0_ n1_
                intro BK121 HB
                (try clear hb)
                (try clear hb2)
                (try clear hk)
                (try clear hi)
                refine hK.out _ _ ⟨kc_ BK121 0, kc_ BK121 1, kc_ BK121 2, kc_ BK121 3, kc_ BK121 4, kc_ BK121 5, ((HB.out.cell (World.block_lt_of_cell? w _ hw127_0)).trans hw127_0), ((HB.out.cell (World.block_lt_of_cell? w _ hw129_0)).trans hw129_0), ((HB.out.cell (World.block_lt_of_cell? w _ hw130_0)).trans hw130_0)⟩ (fun hHeld => ?_)
                clear hK K
                refine nrm 66 ?_
                refine tI HT_ 10 67 28 2047 ?_
                refine tI HT_ 11 68 28 4095 ?_
                refine tI HT_ 12 69 28 8191 ?_
                refine tI HT_ 13 70 28 16383 ?_
                refine tI HT_ 14 71 28 32767 ?_
                refine tI HT_ 15 72 28 65535 ?_
                refine tI HT_ 16 73 28 131071 ?_
                refine tI HT_ 20 77 28 1179647 ?_
                refine tI HT_ 21 78 28 3276799 ?_
                refine tT HT_ HW_ hHeld 17 74 28 3407871 ?_
                refine tI HT_ 18 75 28 3670015 ?_
                refine tT HT_ HW_ hHeld 19 76 28 4194303 ?_
                refine tT HT_ HW_ hHeld 22 79 28 8388607 ?_
                refine tI HT_ 23 80 28 16777215 ?_
                refine tT HT_ HW_ hHeld 24 81 28 33554431 ?_
                refine tI HT_ 25 82 28 67108863 ?_
                refine tI HT_ 26 83 28 134217727 ?_
                refine tI HT_ 27 84 28 268435455 ?_
                refine done_ (dT HT_.out z1_) ?_
                try go_wp2
                go_ret
                exact ⟨q0, Short.hB HB⟩
              ·
               rw [if_neg c41] at H
               exact absurd H (by simp)
             ·
              rw [if_neg c40] at H
              exact absurd H (by simp)
            ·
             replace c39 := Bool.eq_false_iff.mpr c39
             subst c39
             rw [if_neg (show ¬ (false = true) by decide)] at H
             obtain rfl := Option.some.inj H
             try go_wp2
             have n0_ := mk_ (aU BK121.out)
             have n1_ := mk_ (cQ HB.out)
             clear BK121 HB
             revert n0_ n1_
             intro BK121 HB
             have p127 : 0 ≤ (a0_1 : Int) := of_decide_eq_true z4_
             have q127 : a0_1 < (l1.length : Int) := of_decide_eq_true z4_
             obtain ⟨ad127, e127, hx127_0⟩ := Kd.at_int HR1.out a0_1 p127 q127
             have hw127_0 := hx127_0
             cases e127
             replace hx127_0 := up_ HB hx127_0
             replace p127 := eq_true p127
             replace q127 := eq_true q127
             refine dX (n := 28) (S := fun w' => w'.cell? ⟨gb121, 0, none⟩ = some (.int .i64 a0_0) ∧ w'.cell? ⟨gb121, 1, none⟩ = some (.int .i64 a0_1) ∧ w'.cell? ⟨gb121, 2, none⟩ = some (.int .i64 a0_2) ∧ w'.cell? ⟨gb121, 3, none⟩ = some (.int .i64 a0_3) ∧ w'.cell? ⟨gb121, 4, none⟩ = some (.int .i64 a0_4) ∧ w'.cell? ⟨gb121, 5, none⟩ = some (.string a0_5) ∧ w'.cell? (ad127.add (a0_1).toNat) = some (.int .i64 (rd l1 a0_1))) (ds := []) (Steps.Bs 28 0) z1_ rfl rfl ⟨kc_ BK121 0, kc_ BK121 1, kc_ BK121 2, kc_ BK121 3, kc_ BK121 4, kc_ BK121 5, ((HB.out.cell (World.block_lt_of_cell? w _ hw127_0)).trans hw127_0)⟩ (fun hHeld => ?_); refine dB raddleref14_Pred.tab5 raddleref14_Pred.bits5 (fun HT_ HW_ => ?_)
             generalize wc.drew = w47 at BK121 HB hx127_0 hHeld ⊢
             refine tI HT_ 0 57 28 1 ?_
             refine tI HT_ 1 58 28 3 ?_
             refine tI HT_ 2 59 28 7 ?_
             refine tI HT_ 4 61 28 23 ?_
             refine tI HT_ 5 62 28 55 ?_
             refine tT HT_ HW_ hHeld 3 60 28 63 ?_
             refine tT HT_ HW_ hHeld 6 63 28 127 ?_
             refine tI HT_ 7 64 28 255 ?_
             refine tT HT_ HW_ hHeld 8 65 28 511 ?_
             refine one_ (i := 9) (N := some 66) (Steps.Bs 28 1023) rfl rfl (dA HT_.out z1_) z10_ (fun K hK => ?_)
             refine goes_ Try.func43 z1_ rfl #[.agg #[.int .i64 a0_3, .int .i64 a0_4, .string a0_5], .int .i64 (rd l1 a0_1)] z12_ rfl rfl z6_ ?_
             with_reducible refine (cX.calls a0_3 a0_4 a0_5 (rd l1 a0_1) true _ A37.out).mono ?_
             rintro e w48 ⟨rfl, hb⟩
             refine ⟨_, rfl, ?_⟩
             have n0_ := mk_ (bB_ BK121 hb)
             have n1_ := mk_ (aG (Short.hB HB) hb)
             clear BK121 HB
             revert n0_ n1_
             intro BK121 HB
             (try clear hb)
             (try clear hb2)
             (try clear hk)
             (try clear hi)
             refine hK.out _ _ ⟨kc_ BK121 0, kc_ BK121 1, kc_ BK121 2, kc_ BK121 3, kc_ BK121 4, kc_ BK121 5, ((HB.out.cell (World.block_lt_of_cell? w _ hw127_0)).trans hw127_0)⟩ (fun hHeld => ?_)
             clear hK K
             refine nrm 66 ?_
             refine tI HT_ 10 67 28 2047 ?_
             refine tI HT_ 11 68 28 4095 ?_
             refine tI HT_ 12 69 28 8191 ?_
             refine tI HT_ 13 70 28 16383 ?_
             refine tI HT_ 14 71 28 32767 ?_
             refine tR HT_ 15 72 28 65535 ?_
             refine tR HT_ 16 73 28 131071 ?_
             refine tR HT_ 17 74 28 262143 ?_
             refine tR HT_ 18 75 28 524287 ?_
             refine tR HT_ 19 76 28 1048575 ?_
             refine tR HT_ 20 77 28 2097151 ?_
             refine tR HT_ 21 78 28 4194303 ?_
             refine tR HT_ 22 79 28 8388607 ?_
             refine tR HT_ 23 80 28 16777215 ?_
             refine tR HT_ 24 81 28 33554431 ?_
             refine tR HT_ 25 82 28 67108863 ?_
             refine tI HT_ 26 83 28 134217727 ?_
             refine tI HT_ 27 84 28 268435455 ?_
             refine done_ (dT HT_.out z1_) ?_
             try go_wp2
             go_ret
             exact ⟨q0, Short.hB HB⟩
           ·
            replace c38 := Bool.eq_false_iff.mpr c38
            subst c38
            rw [if_neg (show ¬ (false = true) by decide)] at H
            obtain rfl := Option.some.inj H
            try go_wp2
            have n0_ := mk_ (aU BK121.out)
            have n1_ := mk_ (cQ HB.out)
            clear BK121 HB
            revert n0_ n1_
            intro BK121 HB
            have p127 : 0 ≤ (a0_1 : Int) := of_decide_eq_true z4_
            have q127 : a0_1 < (l1.length : Int) := of_decide_eq_true z4_
            obtain ⟨ad127, e127, hx127_0⟩ := Kd.at_int HR1.out a0_1 p127 q127
            have hw127_0 := hx127_0
            cases e127
            replace hx127_0 := up_ HB hx127_0
            replace p127 := eq_true p127
            replace q127 := eq_true q127
            refine dX (n := 28) (S := fun w' => w'.cell? ⟨gb121, 0, none⟩ = some (.int .i64 a0_0) ∧ w'.cell? ⟨gb121, 1, none⟩ = some (.int .i64 a0_1) ∧ w'.cell? ⟨gb121, 2, none⟩ = some (.int .i64 a0_2) ∧ w'.cell? ⟨gb121, 3, none⟩ = some (.int .i64 a0_3) ∧ w'.cell? ⟨gb121, 4, none⟩ = some (.int .i64 a0_4) ∧ w'.cell? ⟨gb121, 5, none⟩ = some (.string a0_5) ∧ w'.cell? (ad127.add (a0_1).toNat) = some (.int .i64 (rd l1 a0_1))) (ds := []) (Steps.Bs 28 0) z1_ rfl rfl ⟨kc_ BK121 0, kc_ BK121 1, kc_ BK121 2, kc_ BK121 3, kc_ BK121 4, kc_ BK121 5, ((HB.out.cell (World.block_lt_of_cell? w _ hw127_0)).trans hw127_0)⟩ (fun hHeld => ?_); refine dB raddleref14_Pred.tab5 raddleref14_Pred.bits5 (fun HT_ HW_ => ?_)
            generalize wc.drew = w49 at BK121 HB hx127_0 hHeld ⊢
            refine tI HT_ 0 57 28 1 ?_
            refine tI HT_ 1 58 28 3 ?_
            refine tI HT_ 2 59 28 7 ?_
            refine tI HT_ 4 61 28 23 ?_
            refine tI HT_ 5 62 28 55 ?_
            refine tT HT_ HW_ hHeld 3 60 28 63 ?_
            refine tT HT_ HW_ hHeld 6 63 28 127 ?_
            refine tI HT_ 7 64 28 255 ?_
            refine tT HT_ HW_ hHeld 8 65 28 511 ?_
            refine one_ (i := 9) (N := some 66) (Steps.Bs 28 1023) rfl rfl (dA HT_.out z1_) z10_ (fun K hK => ?_)
            refine goes_ Try.func43 z1_ rfl #[.agg #[.int .i64 a0_3, .int .i64 a0_4, .string a0_5], .int .i64 (rd l1 a0_1)] z12_ rfl rfl z6_ ?_
            with_reducible refine (cX.calls a0_3 a0_4 a0_5 (rd l1 a0_1) false _ A37.out).mono ?_
            rintro e w50 ⟨rfl, hb⟩
            refine ⟨_, rfl, ?_⟩
            have n0_ := mk_ (bB_ BK121 hb)
            have n1_ := mk_ (aG (Short.hB HB) hb)
            clear BK121 HB
            revert n0_ n1_
            intro BK121 HB
            (try clear hb)
            (try clear hb2)
            (try clear hk)
            (try clear hi)
            refine hK.out _ _ ⟨kc_ BK121 0, kc_ BK121 1, kc_ BK121 2, kc_ BK121 3, kc_ BK121 4, kc_ BK121 5, ((HB.out.cell (World.block_lt_of_cell? w _ hw127_0)).trans hw127_0)⟩ (fun hHeld => ?_)
            clear hK K
            refine nrm 66 ?_
            refine tI HT_ 10 67 28 2047 ?_
            refine tI HT_ 11 68 28 4095 ?_
            refine tI HT_ 12 69 28 8191 ?_
            refine tR HT_ 13 70 28 16383 ?_
            refine tR HT_ 14 71 28 32767 ?_
            refine tR HT_ 15 72 28 65535 ?_
            refine tR HT_ 16 73 28 131071 ?_
            refine tR HT_ 17 74 28 262143 ?_
            refine tR HT_ 18 75 28 524287 ?_
            refine tR HT_ 19 76 28 1048575 ?_
            refine tR HT_ 20 77 28 2097151 ?_
            refine tR HT_ 21 78 28 4194303 ?_
            refine tR HT_ 22 79 28 8388607 ?_
            refine tR HT_ 23 80 28 16777215 ?_
            refine tR HT_ 24 81 28 33554431 ?_
            refine tR HT_ 25 82 28 67108863 ?_
            refine tR HT_ 26 83 28 134217727 ?_
            refine tI HT_ 27 84 28 268435455 ?_
            refine done_ (dT HT_.out z1_) ?_
            try go_wp2
            go_ret
            exact ⟨q0, Short.hB HB⟩
          ·
           rw [if_neg c36] at H
           exact absurd H (by simp)
         ·
          rw [if_neg c35] at H
          exact absurd H (by simp)
        ·
         replace c34 := Bool.eq_false_iff.mpr c34
         subst c34
         rw [if_neg (show ¬ (false = true) by decide)] at H
         by_cases c51 : x5_2 = true
         ·
          subst c51
          rw [if_pos rfl] at H
          by_cases c52 : 0 ≤ a0_2
          ·
           rw [if_pos c52] at H
           have c52b0 : decide (0 ≤ a0_2) = true := decide_eq_true c52
           clear c52
           by_cases c53 : a0_2 < (l1.length : Int)
           ·
            rw [if_pos c53] at H
            have c53b0 : decide (a0_2 < (l1.length : Int)) = true := decide_eq_true c53
            clear c53
            by_cases c54 : 0 ≤ a0_1
            ·
             rw [if_pos c54] at H
             have c54b0 : decide (0 ≤ a0_1) = true := decide_eq_true c54
             clear c54
             by_cases c55 : a0_1 < (l1.length : Int)
             ·
              rw [if_pos c55] at H
              have c55b0 : decide (a0_1 < (l1.length : Int)) = true := decide_eq_true c55
              clear c55
              by_cases c56 : (rd l1 a0_2) = (rd l1 a0_1)
              ·
               rw [if_pos c56] at H
               have c56b0 : ((rd l1 a0_2) == (rd l1 a0_1)) = true := beq_iff_eq.mpr c56
               have c56b1 : ((rd l1 a0_2) != (rd l1 a0_1)) = false := bne_eq_false_iff_eq.mpr c56
               clear c56
               obtain rfl := Option.some.inj H
               try go_wp2
               have n0_ := mk_ (aU BK121.out)
               have n1_ := mk_ (cQ HB.out)
               clear BK121 HB
               revert n0_ n1_
               intro BK121 HB
               have p131 : 0 ≤ (a0_2 : Int) := of_decide_eq_true z4_
               have q131 : a0_2 < (l1.length : Int) := of_decide_eq_true z4_
               obtain ⟨ad131, e131, hx131_0⟩ := Kd.at_int HR1.out a0_2 p131 q131
               have hw131_0 := hx131_0
               cases e131
               replace hx131_0 := up_ HB hx131_0
               replace p131 := eq_true p131
               replace q131 := eq_true q131
               have p132 : 0 ≤ (a0_1 : Int) := of_decide_eq_true z4_
               have q132 : a0_1 < (l1.length : Int) := of_decide_eq_true z4_
               obtain ⟨ad132, e132, hx132_0⟩ := Kd.at_int HR1.out a0_1 p132 q132
               have hw132_0 := hx132_0
               obtain rfl : ad131 = ad132 := (by injection e132)
               replace hx132_0 := up_ HB hx132_0
               replace p132 := eq_true p132
               replace q132 := eq_true q132
               refine dX (n := 28) (S := fun w' => w'.cell? ⟨gb121, 0, none⟩ = some (.int .i64 a0_0) ∧ w'.cell? ⟨gb121, 1, none⟩ = some (.int .i64 a0_1) ∧ w'.cell? ⟨gb121, 2, none⟩ = some (.int .i64 a0_2) ∧ w'.cell? ⟨gb121, 3, none⟩ = some (.int .i64 a0_3) ∧ w'.cell? ⟨gb121, 4, none⟩ = some (.int .i64 a0_4) ∧ w'.cell? ⟨gb121, 5, none⟩ = some (.string a0_5) ∧ w'.cell? (ad131.add (a0_2).toNat) = some (.int .i64 (rd l1 a0_2)) ∧ w'.cell? (ad131.add (a0_1).toNat) = some (.int .i64 (rd l1 a0_1))) (ds := []) (Steps.Bs 28 0) z1_ rfl rfl ⟨kc_ BK121 0, kc_ BK121 1, kc_ BK121 2, kc_ BK121 3, kc_ BK121 4, kc_ BK121 5, ((HB.out.cell (World.block_lt_of_cell? w _ hw131_0)).trans hw131_0), ((HB.out.cell (World.block_lt_of_cell? w _ hw132_0)).trans hw132_0)⟩ (fun hHeld => ?_); refine dB raddleref14_Pred.tab5 raddleref14_Pred.bits5 (fun HT_ HW_ => ?_)
               generalize wc.drew = w57 at BK121 HB hx131_0 hx132_0 hHeld ⊢
               refine tI HT_ 0 57 28 1 ?_
               refine tI HT_ 1 58 28 3 ?_
               refine tR HT_ 2 59 28 7 ?_
               refine tR HT_ 3 60 28 15 ?_
               refine tR HT_ 4 61 28 31 ?_
               refine tR HT_ 5 62 28 63 ?_
               refine tR HT_ 6 63 28 127 ?_
               refine tR HT_ 7 64 28 255 ?_
               refine tR HT_ 8 65 28 511 ?_
               refine tR HT_ 9 66 28 1023 ?_
               refine tR HT_ 10 67 28 2047 ?_
               refine tI HT_ 11 68 28 4095 ?_
               refine tI HT_ 12 69 28 8191 ?_
               refine tI HT_ 13 70 28 16383 ?_
               refine tI HT_ 14 71 28 32767 ?_
               refine tI HT_ 15 72 28 65535 ?_
               refine tI HT_ 16 73 28 131071 ?_
               refine tI HT_ 20 77 28 1179647 ?_
               refine tI HT_ 21 78 28 3276799 ?_
               refine tT HT_ HW_ hHeld 17 74 28 3407871 ?_
               refine tI HT_ 18 75 28 3670015 ?_
               refine tT HT_ HW_ hHeld 19 76 28 4194303 ?_
               refine tT HT_ HW_ hHeld 22 79 28 8388607 ?_
               refine tI HT_ 23 80 28 16777215 ?_
               refine tT HT_ HW_ hHeld 24 81 28 33554431 ?_
               refine tI HT_ 25 82 28 67108863 ?_
               refine tI HT_ 26 83 28 134217727 ?_
               refine tI HT_ 27 84 28 268435455 ?_
               refine done_ (dT HT_.out z1_) ?_
               try go_wp2
               go_ret
               exact ⟨q0, Short.hB HB⟩
              ·
               rw [if_neg c56] at H
               have c56b0 : ((rd l1 a0_2) == (rd l1 a0_1)) = false := beq_eq_false_iff_ne.mpr c56
               have c56b1 : ((rd l1 a0_2) != (rd l1 a0_1)) = true := bne_iff_ne.mpr c56
               obtain rfl := Option.some.inj H
               try go_wp2
               have n0_ := mk_ (aU BK121.out)
               have n1_ := mk_ (cQ HB.out)
               clear BK121 HB
               revert n0_ n1_
               intro BK121 HB
               have p131 : 0 ≤ (a0_2 : Int) := of_decide_eq_true z4_
               have q131 : a0_2 < (l1.length : Int) := of_decide_eq_true z4_
               obtain ⟨ad131, e131, hx131_0⟩ := Kd.at_int HR1.out a0_2 p131 q131
               have hw131_0 := hx131_0
               cases e131
               replace hx131_0 := up_ HB hx131_0
               replace p131 := eq_true p131
               replace q131 := eq_true q131
               have p132 : 0 ≤ (a0_1 : Int) := of_decide_eq_true z4_
               have q132 : a0_1 < (l1.length : Int) := of_decide_eq_true z4_
               obtain ⟨ad132, e132, hx132_0⟩ := Kd.at_int HR1.out a0_1 p132 q132
               have hw132_0 := hx132_0
               obtain rfl : ad131 = ad132 := (by injection e132)
               replace hx132_0 := up_ HB hx132_0
               replace p132 := eq_true p132
               replace q132 := eq_true q132
               refine dX (n := 28) (S := fun w' => w'.cell? ⟨gb121, 0, none⟩ = some (.int .i64 a0_0) ∧ w'.cell? ⟨gb121, 1, none⟩ = some (.int .i64 a0_1) ∧ w'.cell? ⟨gb121, 2, none⟩ = some (.int .i64 a0_2) ∧ w'.cell? ⟨gb121, 3, none⟩ = some (.int .i64 a0_3) ∧ w'.cell? ⟨gb121, 4, none⟩ = some (.int .i64 a0_4) ∧ w'.cell? ⟨gb121, 5, none⟩ = some (.string a0_5) ∧ w'.cell? (ad131.add (a0_2).toNat) = some (.int .i64 (rd l1 a0_2)) ∧ w'.cell? (ad131.add (a0_1).toNat) = some (.int .i64 (rd l1 a0_1))) (ds := []) (Steps.Bs 28 0) z1_ rfl rfl ⟨kc_ BK121 0, kc_ BK121 1, kc_ BK121 2, kc_ BK121 3, kc_ BK121 4, kc_ BK121 5, ((HB.out.cell (World.block_lt_of_cell? w _ hw131_0)).trans hw131_0), ((HB.out.cell (World.block_lt_of_cell? w _ hw132_0)).trans hw132_0)⟩ (fun hHeld => ?_); refine dB raddleref14_Pred.tab5 raddleref14_Pred.bits5 (fun HT_ HW_ => ?_)
               generalize wc.drew = w58 at BK121 HB hx131_0 hx132_0 hHeld ⊢
               refine tI HT_ 0 57 28 1 ?_
               refine tI HT_ 1 58 28 3 ?_
               refine tR HT_ 2 59 28 7 ?_
               refine tR HT_ 3 60 28 15 ?_
               refine tR HT_ 4 61 28 31 ?_
               refine tR HT_ 5 62 28 63 ?_
               refine tR HT_ 6 63 28 127 ?_
               refine tR HT_ 7 64 28 255 ?_
               refine tR HT_ 8 65 28 511 ?_
               refine tR HT_ 9 66 28 1023 ?_
               refine tR HT_ 10 67 28 2047 ?_
               refine tI HT_ 11 68 28 4095 ?_
               refine tI HT_ 12 69 28 8191 ?_
               refine tI HT_ 13 70 28 16383 ?_
               refine tI HT_ 14 71 28 32767 ?_
               refine tI HT_ 15 72 28 65535 ?_
               refine tI HT_ 16 73 28 131071 ?_
               refine tI HT_ 20 77 28 1179647 ?_
               refine tI HT_ 21 78 28 3276799 ?_
               refine tT HT_ HW_ hHeld 17 74 28 3407871 ?_
               refine tI HT_ 18 75 28 3670015 ?_
               refine tT HT_ HW_ hHeld 19 76 28 4194303 ?_
               refine tT HT_ HW_ hHeld 22 79 28 8388607 ?_
               refine tI HT_ 23 80 28 16777215 ?_
               refine tT HT_ HW_ hHeld 24 81 28 33554431 ?_
               refine tI HT_ 25 82 28 67108863 ?_
               refine tI HT_ 26 83 28 134217727 ?_
               refine tI HT_ 27 84 28 268435455 ?_
               refine done_ (dT HT_.out z1_) ?_
               try go_wp2
               go_ret
               exact ⟨q0, Short.hB HB⟩
             ·
              rw [if_neg c55] at H
              exact absurd H (by simp)
            ·
             rw [if_neg c54] at H
             exact absurd H (by simp)
           ·
            rw [if_neg c53] at H
            exact absurd H (by simp)
          ·
           rw [if_neg c52] at H
           exact absurd H (by simp)
         ·
          replace c51 := Bool.eq_false_iff.mpr c51
          subst c51
          rw [if_neg (show ¬ (false = true) by decide)] at H
          obtain rfl := Option.some.inj H
          try go_wp2
          have n0_ := mk_ (aU BK121.out)
          have n1_ := mk_ (cQ HB.out)
          clear BK121 HB
          revert n0_ n1_
          intro BK121 HB
          refine dX (n := 28) (S := fun w' => True) (ds := []) (Steps.Bs 28 0) z1_ rfl rfl trivial (fun hHeld => ?_); refine dB raddleref14_Pred.tab5 raddleref14_Pred.bits5 (fun HT_ HW_ => ?_)
          generalize wc.drew = w59 at BK121 HB hHeld ⊢
          refine tI HT_ 0 57 28 1 ?_
          refine tI HT_ 1 58 28 3 ?_
          refine tR HT_ 2 59 28 7 ?_
          refine tR HT_ 3 60 28 15 ?_
          refine tR HT_ 4 61 28 31 ?_
          refine tR HT_ 5 62 28 63 ?_
          refine tR HT_ 6 63 28 127 ?_
          refine tR HT_ 7 64 28 255 ?_
          refine tR HT_ 8 65 28 511 ?_
          refine tR HT_ 9 66 28 1023 ?_
          refine tR HT_ 10 67 28 2047 ?_
          refine tI HT_ 11 68 28 4095 ?_
          refine tI HT_ 12 69 28 8191 ?_
          refine tI HT_ 13 70 28 16383 ?_
          refine tI HT_ 14 71 28 32767 ?_
          refine tR HT_ 15 72 28 65535 ?_
          refine tR HT_ 16 73 28 131071 ?_
          refine tR HT_ 17 74 28 262143 ?_
          refine tR HT_ 18 75 28 524287 ?_
          refine tR HT_ 19 76 28 1048575 ?_
          refine tR HT_ 20 77 28 2097151 ?_
          refine tR HT_ 21 78 28 4194303 ?_
          refine tR HT_ 22 79 28 8388607 ?_
          refine tR HT_ 23 80 28 16777215 ?_
          refine tR HT_ 24 81 28 33554431 ?_
          refine tR HT_ 25 82 28 67108863 ?_
          refine tI HT_ 26 83 28 134217727 ?_
          refine tI HT_ 27 84 28 268435455 ?_
          refine done_ (dT HT_.out z1_) ?_
          try go_wp2
          go_ret
          exact ⟨q0, Short.hB HB⟩
end Go.Proofs.Ytimbbaoodjhdoaa.PAll
end
section
namespace Go.Proofs.Ytimbbaoodjhdoaa.PAll
open Go.RowKit PrintWords PrintLast PrintMore ZipT PrintWords.Kd PrintMore.Kd
attribute [local go_sem] eC eA eM eK dP dR dZ eB   -- for this text's walks alone
set_option linter.unusedVariables false
set_option linter.unusedSimpArgs false
def pred_Check.j0 : Nat → List Int → Bool → Int → Int → Int → Int → Int → ByteArray → Option (Int)
 | 0, _, _, _, _, _, _, _, _ => none
 | k + 1, x1, x8, x234000, x234001, x234002, x234003, x234004, x234005 => if x8 = true then (some 1) else ((cI.f x234000 x234001 x234002 x234003 x234004 x234005).bind fun t241 => (if t241 = true then (if 0 ≤ x234001 then (if x234001 < (x1.length : Int) then ((dU.f x234003 x234004 x234005 (rd x1 x234001)).bind fun t243 => (if t243 = true then ((cO.f x234000 x234001 x234002 x234003 x234004 x234005).bind fun t244 => (if t244 = true then (if 0 ≤ x234002 then (if x234002 < (x1.length : Int) then (if (rd x1 x234002) = (rd x1 x234001) then (some 0) else (some 10)) else (none)) else (none)) else (some 0))) else (some 10))) else (none)) else (none)) else ((cO.f x234000 x234001 x234002 x234003 x234004 x234005).bind fun t247 => (if t247 = true then (if 0 ≤ x234002 then (if x234002 < (x1.length : Int) then (if 0 ≤ x234001 then (if x234001 < (x1.length : Int) then (if (rd x1 x234002) = (rd x1 x234001) then (some 0) else (some 10)) else (none)) else (none)) else (none)) else (none)) else (some 0)))))
def pred_Check.f (k : Nat) (a0_0 : Int) (a0_1 : Int) (a0_2 : Int) (a0_3 : Int) (a0_4 : Int) (a0_5 : ByteArray) (l1 : List Int) : Option (Int) := if a0_0 < 1 then (pred_Check.j0 k l1 true a0_0 a0_1 a0_2 a0_3 a0_4 a0_5) else (if a0_0 > 6 then (pred_Check.j0 k l1 true a0_0 a0_1 a0_2 a0_3 a0_4 a0_5) else ((dM.f a0_1 (l1.length : Int)).bind fun t234 => (if t234 = true then ((cO.f a0_0 a0_1 a0_2 a0_3 a0_4 a0_5).bind fun t235 => (if t235 = true then ((dM.f a0_2 (l1.length : Int)).bind fun t236 => (if t236 = true then ((cI.f a0_0 a0_1 a0_2 a0_3 a0_4 a0_5).bind fun t237 => (if t237 = true then ((bV.f a0_3 a0_4 a0_5).bind fun t238 => (pred_Check.j0 k l1 (t238 != 0) a0_0 a0_1 a0_2 a0_3 a0_4 a0_5)) else (pred_Check.j0 k l1 false a0_0 a0_1 a0_2 a0_3 a0_4 a0_5))) else (pred_Check.j0 k l1 true a0_0 a0_1 a0_2 a0_3 a0_4 a0_5))) else ((cI.f a0_0 a0_1 a0_2 a0_3 a0_4 a0_5).bind fun t239 => (if t239 = true then ((bV.f a0_3 a0_4 a0_5).bind fun t240 => (pred_Check.j0 k l1 (t240 != 0) a0_0 a0_1 a0_2 a0_3 a0_4 a0_5)) else (pred_Check.j0 k l1 false a0_0 a0_1 a0_2 a0_3 a0_4 a0_5))))) else (pred_Check.j0 k l1 true a0_0 a0_1 a0_2 a0_3 a0_4 a0_5))))
def pred_Check.T4 : Bool × List (List Nat × List Nat) := (true, [([], []), ([0], [0]), ([1, 1], [1]), ([2], [2]), ([3, 2], [2, 3]), ([2], [2]), ([2], [2]), ([6, 2], [2, 6]), ([5, 7, 2], [2, 5, 7]), ([8, 2], [2, 8]), ([4, 9, 2, 2], [2, 4, 9]), ([10, 2], [2, 10]), ([2, 11], [2, 11]), ([12, 10], [12]), ([13], [13]), ([14, 13, 13], [13, 14]), ([15, 15, 13], [13, 15]), ([16], [16]), ([16], [16]), ([18, 16], [16, 18]), ([17, 19, 16], [16, 17, 19]), ([20, 16], [16, 20]), ([16], [16]), ([16], [16]), ([23, 16], [16, 23]), ([22, 24, 16], [16, 22, 24]), ([25, 16], [16, 25]), ([21, 26, 16], [16, 21, 26]), ([16, 27, 13], [13, 16, 27]), ([13, 28], [13, 28]), ([29, 16], [29])])
def pred_Check.B4 : List Nat := [0, 1, 3, 7, 15, 7, 7, 71, 231, 487, 1023, 2047, 4095, 8191, 16383, 32767, 65535, 131071, 131071, 393215, 1048575, 2097151, 131071, 131071, 8519679, 29491199, 63045631, 134217727, 268435455, 536870911, 1073741823]
theorem pred_Check.tab4 : rtab .any (opsOf Try.f59 4) = pred_Check.T4 := by kernel_rfl
theorem pred_Check.bits4 : waitsOk pred_Check.T4.2 pred_Check.B4 = true := by kernel_rfl
theorem pred_Check.calls (k : Nat) (a0_0 : Int) (a0_1 : Int) (a0_2 : Int) (a0_3 : Int) (a0_4 : Int) (a0_5 : ByteArray) (A1 : Option Addr) (c1 : Nat) (l1 : List Int) (r : Int) (w : World) (hr1 : Kd.C (Kd.int .i64) w A1 l1.length l1) (hc1 : l1.length ≤ c1) (h : pred_Check.f k a0_0 a0_1 a0_2 a0_3 a0_4 a0_5 l1 = some r) :
  Calls Try.prog 59 #[.agg #[.int .i64 a0_0, .int .i64 a0_1, .int .i64 a0_2, .int .i64 a0_3, .int .i64 a0_4, .string a0_5], .slice A1 l1.length c1] w fun e w' => e = .returned (.int .i64 r) ∧ Below w.heap.size w w' := by
 have hu31 := Try.underlying31
 have hu29 := Try.underlying29
 have HR1 := mk_ hr1
 have HC1 := mk_ hc1
 clear hr1 hc1
 have HB := mk_ (Below.refl w.heap.size w)
 have H : (if a0_0 < 1 then (pred_Check.j0 k l1 true a0_0 a0_1 a0_2 a0_3 a0_4 a0_5) else (if a0_0 > 6 then (pred_Check.j0 k l1 true a0_0 a0_1 a0_2 a0_3 a0_4 a0_5) else ((dM.f a0_1 (l1.length : Int)).bind fun t234 => (if t234 = true then ((cO.f a0_0 a0_1 a0_2 a0_3 a0_4 a0_5).bind fun t235 => (if t235 = true then ((dM.f a0_2 (l1.length : Int)).bind fun t236 => (if t236 = true then ((cI.f a0_0 a0_1 a0_2 a0_3 a0_4 a0_5).bind fun t237 => (if t237 = true then ((bV.f a0_3 a0_4 a0_5).bind fun t238 => (pred_Check.j0 k l1 (t238 != 0) a0_0 a0_1 a0_2 a0_3 a0_4 a0_5)) else (pred_Check.j0 k l1 false a0_0 a0_1 a0_2 a0_3 a0_4 a0_5))) else (pred_Check.j0 k l1 true a0_0 a0_1 a0_2 a0_3 a0_4 a0_5))) else ((cI.f a0_0 a0_1 a0_2 a0_3 a0_4 a0_5).bind fun t239 => (if t239 = true then ((bV.f a0_3 a0_4 a0_5).bind fun t240 => (pred_Check.j0 k l1 (t240 != 0) a0_0 a0_1 a0_2 a0_3 a0_4 a0_5)) else (pred_Check.j0 k l1 false a0_0 a0_1 a0_2 a0_3 a0_4 a0_5))))) else (pred_Check.j0 k l1 true a0_0 a0_1 a0_2 a0_3 a0_4 a0_5))))) = some r := h
 clear h
 have HC3 := mk_ H
 clear H
 go_enter Try.func59, Try.ntmps59
 go_upto_region 2 with (first | ((with_reducible refine bI (N := 2) rfl ?_); refine bJ ?hg (N := 2) ?hd (cs := #[.int .i64 a0_0, .int .i64 a0_1, .int .i64 a0_2, .int .i64 a0_3, .int .i64 a0_4, .string a0_5]) (t := 31) ?hr ?_; (case hd => rfl); (case hg => rfl); (case hr => first | (go_simp; done) | (go_simp; rfl)); intro gb233 hg w4 hbox hb; have n0_ := mk_ (aG (Short.hB HB) hb); have n1_ := mk_ (hbox); have n2_ := mk_ ((by rw [hg]; exact (aK (Short.hB HB)) : w.heap.size ≤ gb233)); have n3_ := mk_ ((by rw [hg]; exact (aK (Short.hB HB)) : w.heap.size ≤ gb233)); clear HB; revert n0_ n1_ n2_ n3_; intro HB BK233 GW233 GE233; clear hb hbox hg))
 (try simp only [Act.put, List.setIfInBounds_toArray, List.set_cons_zero, List.set_cons_succ])
 go_cut [8] (fun v8 wc => ∃ (kq : Nat) (x8_2 : Bool), v8 = .bool x8_2 ∧ Aside0 (pred_Check.j0 kq l1 x8_2 a0_0 a0_1 a0_2 a0_3 a0_4 a0_5 = some r) ∧ Aside0 (kq ≤ k) ∧ Aside0 (wc.heap[gb233]? = some (.cells #[.int .i64 a0_0, .int .i64 a0_1, .int .i64 a0_2, .int .i64 a0_3, .int .i64 a0_4, .string a0_5] 31 (0, 0))) ∧ Aside0 (Below w.heap.size w wc))
 case first =>
  have H := HC3.out
  clear HC3
  by_cases c5 : a0_0 < 1
  ·
   rw [if_pos c5] at H
   have c5b0 : decide (a0_0 < 1) = true := decide_eq_true c5
   clear c5
   (first | rw [c5b0] | (simp only [i64_w, i32_w]; rw [c5b0]) | skip)
   have H' := mk_ H
   clear H
   obtain ⟨hcz6_0, hcz6_1, hcz6_2, hcz6_3, hcz6_4, hcz6_5, hfz6_0, hfz6_1, hfz6_2, hfz6_3, hfz6_4, hfz6_5⟩ := c6_ BK233.out
   go_wp2
   go_meet
   case rel => exact ⟨_, (true), z9_, H', ⟨by first | omega | exact Nat.le_refl _⟩, ⟨by (with_reducible repeat (first | refine aX ?_ _ | refine aU ?_ | refine aY ?_ _)); exact BK233.out⟩, ⟨Short.hB HB⟩⟩
  rw [if_neg c5] at H
  have c5b0 : decide (a0_0 < 1) = false := decide_eq_false c5
  clear c5
  (first | rw [c5b0] | (simp only [i64_w, i32_w]; rw [c5b0]) | skip)
  by_cases c7 : a0_0 > 6
  ·
   rw [if_pos c7] at H
   have c7b0 : decide (6 < a0_0) = true := decide_eq_true c7
   clear c7
   have H' := mk_ H
   clear H
   obtain ⟨hcz8_0, hcz8_1, hcz8_2, hcz8_3, hcz8_4, hcz8_5, hfz8_0, hfz8_1, hfz8_2, hfz8_3, hfz8_4, hfz8_5⟩ := c6_ BK233.out
   go_wp2
   go_meet
   case rel => exact ⟨_, (true), z9_, H', ⟨by first | omega | exact Nat.le_refl _⟩, ⟨by (with_reducible repeat (first | refine aX ?_ _ | refine aU ?_ | refine aY ?_ _)); exact BK233.out⟩, ⟨Short.hB HB⟩⟩
  rw [if_neg c7] at H
  have c7b0 : decide (6 < a0_0) = false := decide_eq_false c7
  clear c7
  replace H := Option.bind_eq_some_iff.mp H
  obtain ⟨t234, A90, H⟩ := H
  replace H : (if t234 = true then ((cO.f a0_0 a0_1 a0_2 a0_3 a0_4 a0_5).bind fun t235 => (if t235 = true then ((dM.f a0_2 (l1.length : Int)).bind fun t236 => (if t236 = true then ((cI.f a0_0 a0_1 a0_2 a0_3 a0_4 a0_5).bind fun t237 => (if t237 = true then ((bV.f a0_3 a0_4 a0_5).bind fun t238 => (pred_Check.j0 k l1 (t238 != 0) a0_0 a0_1 a0_2 a0_3 a0_4 a0_5)) else (pred_Check.j0 k l1 false a0_0 a0_1 a0_2 a0_3 a0_4 a0_5))) else (pred_Check.j0 k l1 true a0_0 a0_1 a0_2 a0_3 a0_4 a0_5))) else ((cI.f a0_0 a0_1 a0_2 a0_3 a0_4 a0_5).bind fun t239 => (if t239 = true then ((bV.f a0_3 a0_4 a0_5).bind fun t240 => (pred_Check.j0 k l1 (t240 != 0) a0_0 a0_1 a0_2 a0_3 a0_4 a0_5)) else (pred_Check.j0 k l1 false a0_0 a0_1 a0_2 a0_3 a0_4 a0_5))))) else (pred_Check.j0 k l1 true a0_0 a0_1 a0_2 a0_3 a0_4 a0_5)) = some r := H
  have A9 := mk_ A90
  clear A90
  by_cases c10 : t234 = true
  rotate_left
  ·
   replace c10 := Bool.eq_false_iff.mpr c10
   subst c10
   rw [if_neg (show ¬ (false = true) by decide)] at H
   have H' := mk_ H
   clear H
   obtain ⟨hcz44_0, hcz44_1, hcz44_2, hcz44_3, hcz44_4, hcz44_5, hfz44_0, hfz44_1, hfz44_2, hfz44_3, hfz44_4, hfz44_5⟩ := c6_ BK233.out
   go_wp2_with (first | (go_at_call 65; (with_reducible refine (dM.calls a0_1 (l1.length : Int) false _ A9.out).mono ?_); rintro e w' ⟨rfl, ⟨nd, rfl⟩⟩))
   go_meet
   case rel => exact ⟨_, (true), z9_, H', ⟨by first | omega | exact Nat.le_refl _⟩, ⟨by (with_reducible repeat (first | refine aX ?_ _ | refine aU ?_ | refine aY ?_ _)); exact BK233.out⟩, ⟨Short.hB HB⟩⟩
  subst c10
  rw [if_pos rfl] at H
  replace H := Option.bind_eq_some_iff.mp H
  obtain ⟨t235, A110, H⟩ := H
  replace H : (if t235 = true then ((dM.f a0_2 (l1.length : Int)).bind fun t236 => (if t236 = true then ((cI.f a0_0 a0_1 a0_2 a0_3 a0_4 a0_5).bind fun t237 => (if t237 = true then ((bV.f a0_3 a0_4 a0_5).bind fun t238 => (pred_Check.j0 k l1 (t238 != 0) a0_0 a0_1 a0_2 a0_3 a0_4 a0_5)) else (pred_Check.j0 k l1 false a0_0 a0_1 a0_2 a0_3 a0_4 a0_5))) else (pred_Check.j0 k l1 true a0_0 a0_1 a0_2 a0_3 a0_4 a0_5))) else ((cI.f a0_0 a0_1 a0_2 a0_3 a0_4 a0_5).bind fun t239 => (if t239 = true then ((bV.f a0_3 a0_4 a0_5).bind fun t240 => (pred_Check.j0 k l1 (t240 != 0) a0_0 a0_1 a0_2 a0_3 a0_4 a0_5)) else (pred_Check.j0 k l1 false a0_0 a0_1 a0_2 a0_3 a0_4 a0_5)))) = some r := H
  have A11 := mk_ A110
  clear A110
  by_cases c12 : t235 = true
  rotate_left
  ·
   replace c12 := Bool.eq_false_iff.mpr c12
   subst c12
   rw [if_neg (show ¬ (false = true) by decide)] at H
   replace H := Option.bind_eq_some_iff.mp H
   obtain ⟨t239, A310, H⟩ := H
   replace H : (if t239 = true then ((bV.f a0_3 a0_4 a0_5).bind fun t240 => (pred_Check.j0 k l1 (t240 != 0) a0_0 a0_1 a0_2 a0_3 a0_4 a0_5)) else (pred_Check.j0 k l1 false a0_0 a0_1 a0_2 a0_3 a0_4 a0_5)) = some r := H
   have A31 := mk_ A310
   clear A310
   by_cases c32 : t239 = true
   rotate_left
   ·
    replace c32 := Bool.eq_false_iff.mpr c32
    subst c32
    rw [if_neg (show ¬ (false = true) by decide)] at H
    have H' := mk_ H
    clear H
    obtain ⟨hcz40_0, hcz40_1, hcz40_2, hcz40_3, hcz40_4, hcz40_5, hfz40_0, hfz40_1, hfz40_2, hfz40_3, hfz40_4, hfz40_5⟩ := c6_ BK233.out
    go_wp2_with (first | (go_at_call 65; (with_reducible refine (dM.calls a0_1 (l1.length : Int) true _ A9.out).mono ?_); rintro e w' ⟨rfl, ⟨nd, rfl⟩⟩) | (go_at_call 66; (with_reducible refine (cO.calls a0_0 a0_1 a0_2 a0_3 a0_4 a0_5 false _ A11.out).mono ?_); rintro e w41 ⟨rfl, hb⟩; have n0_ := mk_ (bB_ BK233 hb); have n1_ := mk_ (aG (Short.hB HB) hb); clear BK233 HB; revert n0_ n1_; intro BK233 HB; (try clear hb); (try clear hb2); (try clear hk); (try clear hi); obtain ⟨hcz42_0, hcz42_1, hcz42_2, hcz42_3, hcz42_4, hcz42_5, hfz42_0, hfz42_1, hfz42_2, hfz42_3, hfz42_4, hfz42_5⟩ := c6_ BK233.out) | (go_at_call 67; (with_reducible refine (cI.calls a0_0 a0_1 a0_2 a0_3 a0_4 a0_5 false _ A31.out).mono ?_); rintro e w43 ⟨rfl, hb⟩; have n0_ := mk_ (bB_ BK233 hb); have n1_ := mk_ (aG (Short.hB HB) hb); clear BK233 HB; revert n0_ n1_; intro BK233 HB; (try clear hb); (try clear hb2); (try clear hk); (try clear hi)))
    go_meet
    case rel => exact ⟨_, (false), z9_, H', ⟨by first | omega | exact Nat.le_refl _⟩, ⟨by (with_reducible repeat (first | refine aX ?_ _ | refine aU ?_ | refine aY ?_ _)); exact BK233.out⟩, ⟨Short.hB HB⟩⟩
   subst c32
   rw [if_pos rfl] at H
   replace H := Option.bind_eq_some_iff.mp H
   obtain ⟨t240, A330, H⟩ := H
   replace H : (pred_Check.j0 k l1 (t240 != 0) a0_0 a0_1 a0_2 a0_3 a0_4 a0_5) = some r := H
   have A33 := mk_ A330
   clear A330
   have H' := mk_ H
   clear H
   obtain ⟨hcz34_0, hcz34_1, hcz34_2, hcz34_3, hcz34_4, hcz34_5, hfz34_0, hfz34_1, hfz34_2, hfz34_3, hfz34_4, hfz34_5⟩ := c6_ BK233.out
   go_wp2_with (first | (go_at_call 65; (with_reducible refine (dM.calls a0_1 (l1.length : Int) true _ A9.out).mono ?_); rintro e w' ⟨rfl, ⟨nd, rfl⟩⟩) | (go_at_call 66; (with_reducible refine (cO.calls a0_0 a0_1 a0_2 a0_3 a0_4 a0_5 false _ A11.out).mono ?_); rintro e w35 ⟨rfl, hb⟩; have n0_ := mk_ (bB_ BK233 hb); have n1_ := mk_ (aG (Short.hB HB) hb); clear BK233 HB; revert n0_ n1_; intro BK233 HB; (try clear hb); (try clear hb2); (try clear hk); (try clear hi); obtain ⟨hcz36_0, hcz36_1, hcz36_2, hcz36_3, hcz36_4, hcz36_5, hfz36_0, hfz36_1, hfz36_2, hfz36_3, hfz36_4, hfz36_5⟩ := c6_ BK233.out) | (go_at_call 67; (with_reducible refine (cI.calls a0_0 a0_1 a0_2 a0_3 a0_4 a0_5 true _ A31.out).mono ?_); rintro e w37 ⟨rfl, hb⟩; have n0_ := mk_ (bB_ BK233 hb); have n1_ := mk_ (aG (Short.hB HB) hb); clear BK233 HB; revert n0_ n1_; intro BK233 HB; (try clear hb); (try clear hb2); (try clear hk); (try clear hi); obtain ⟨hcz38_0, hcz38_1, hcz38_2, hcz38_3, hcz38_4, hcz38_5, hfz38_0, hfz38_1, hfz38_2, hfz38_3, hfz38_4, hfz38_5⟩ := c6_ BK233.out) | (go_at_call 68; (with_reducible refine (bV.calls a0_3 a0_4 a0_5 t240 _ A33.out).mono ?_); rintro e w39 ⟨rfl, hb⟩; have n0_ := mk_ (bB_ BK233 hb); have n1_ := mk_ (aG (Short.hB HB) hb); clear BK233 HB; revert n0_ n1_; intro BK233 HB; (try clear hb); (try clear hb2); (try clear hk); (try clear hi)))
   go_meet
   case rel => exact ⟨_, ((t240 != 0)), z9_, H', ⟨by first | omega | exact Nat.le_refl _⟩, ⟨by (with_reducible repeat (first | refine aX ?_ _ | refine aU ?_ | refine aY ?_ _)); exact BK233.out⟩, ⟨Short.hB HB⟩⟩
  subst c12
  rw [if_pos rfl] at H
  replace H := Option.bind_eq_some_iff.mp H
  obtain ⟨t236, A130, H⟩ := H
  replace H : (if t236 = true then ((cI.f a0_0 a0_1 a0_2 a0_3 a0_4 a0_5).bind fun t237 => (if t237 = true then ((bV.f a0_3 a0_4 a0_5).bind fun t238 => (pred_Check.j0 k l1 (t238 != 0) a0_0 a0_1 a0_2 a0_3 a0_4 a0_5)) else (pred_Check.j0 k l1 false a0_0 a0_1 a0_2 a0_3 a0_4 a0_5))) else (pred_Check.j0 k l1 true a0_0 a0_1 a0_2 a0_3 a0_4 a0_5)) = some r := H
  have A13 := mk_ A130
  clear A130
  by_cases c14 : t236 = true
  rotate_left
  ·
   replace c14 := Bool.eq_false_iff.mpr c14
   subst c14
   rw [if_neg (show ¬ (false = true) by decide)] at H
   have H' := mk_ H
   clear H
   obtain ⟨hcz28_0, hcz28_1, hcz28_2, hcz28_3, hcz28_4, hcz28_5, hfz28_0, hfz28_1, hfz28_2, hfz28_3, hfz28_4, hfz28_5⟩ := c6_ BK233.out
   go_wp2_with (first | (go_at_call 65; (with_reducible refine (dM.calls a0_1 (l1.length : Int) true _ A9.out).mono ?_); rintro e w' ⟨rfl, ⟨nd, rfl⟩⟩) | (go_at_call 66; (with_reducible refine (cO.calls a0_0 a0_1 a0_2 a0_3 a0_4 a0_5 true _ A11.out).mono ?_); rintro e w29 ⟨rfl, hb⟩; have n0_ := mk_ (bB_ BK233 hb); have n1_ := mk_ (aG (Short.hB HB) hb); clear BK233 HB; revert n0_ n1_; intro BK233 HB; (try clear hb); (try clear hb2); (try clear hk); (try clear hi); obtain ⟨hcz30_0, hcz30_1, hcz30_2, hcz30_3, hcz30_4, hcz30_5, hfz30_0, hfz30_1, hfz30_2, hfz30_3, hfz30_4, hfz30_5⟩ := c6_ BK233.out) | (go_at_call 65; (with_reducible refine (dM.calls a0_2 (l1.length : Int) false _ A13.out).mono ?_); rintro e w' ⟨rfl, ⟨nd, rfl⟩⟩))
   go_meet
   case rel => exact ⟨_, (true), z9_, H', ⟨by first | omega | exact Nat.le_refl _⟩, ⟨by (with_reducible repeat (first | refine aX ?_ _ | refine aU ?_ | refine aY ?_ _)); exact BK233.out⟩, ⟨Short.hB HB⟩⟩
  subst c14
  rw [if_pos rfl] at H
  replace H := Option.bind_eq_some_iff.mp H
  obtain ⟨t237, A150, H⟩ := H
  replace H : (if t237 = true then ((bV.f a0_3 a0_4 a0_5).bind fun t238 => (pred_Check.j0 k l1 (t238 != 0) a0_0 a0_1 a0_2 a0_3 a0_4 a0_5)) else (pred_Check.j0 k l1 false a0_0 a0_1 a0_2 a0_3 a0_4 a0_5)) = some r := H
  have A15 := mk_ A150
  clear A150
  by_cases c16 : t237 = true
  rotate_left
  ·
   replace c16 := Bool.eq_false_iff.mpr c16
   subst c16
   rw [if_neg (show ¬ (false = true) by decide)] at H
   have H' := mk_ H
   clear H
   obtain ⟨hcz24_0, hcz24_1, hcz24_2, hcz24_3, hcz24_4, hcz24_5, hfz24_0, hfz24_1, hfz24_2, hfz24_3, hfz24_4, hfz24_5⟩ := c6_ BK233.out
   go_wp2_with (first | (go_at_call 65; (with_reducible refine (dM.calls a0_1 (l1.length : Int) true _ A9.out).mono ?_); rintro e w' ⟨rfl, ⟨nd, rfl⟩⟩) | (go_at_call 66; (with_reducible refine (cO.calls a0_0 a0_1 a0_2 a0_3 a0_4 a0_5 true _ A11.out).mono ?_); rintro e w25 ⟨rfl, hb⟩; have n0_ := mk_ (bB_ BK233 hb); have n1_ := mk_ (aG (Short.hB HB) hb); clear BK233 HB; revert n0_ n1_; intro BK233 HB; (try clear hb); (try clear hb2); (try clear hk); (try clear hi); obtain ⟨hcz26_0, hcz26_1, hcz26_2, hcz26_3, hcz26_4, hcz26_5, hfz26_0, hfz26_1, hfz26_2, hfz26_3, hfz26_4, hfz26_5⟩ := c6_ BK233.out) | (go_at_call 65; (with_reducible refine (dM.calls a0_2 (l1.length : Int) true _ A13.out).mono ?_); rintro e w' ⟨rfl, ⟨nd, rfl⟩⟩) | (go_at_call 67; (with_reducible refine (cI.calls a0_0 a0_1 a0_2 a0_3 a0_4 a0_5 false _ A15.out).mono ?_); rintro e w27 ⟨rfl, hb⟩; have n0_ := mk_ (bB_ BK233 hb); have n1_ := mk_ (aG (Short.hB HB) hb); clear BK233 HB; revert n0_ n1_; intro BK233 HB; (try clear hb); (try clear hb2); (try clear hk); (try clear hi)))
   go_meet
   case rel => exact ⟨_, (false), z9_, H', ⟨by first | omega | exact Nat.le_refl _⟩, ⟨by (with_reducible repeat (first | refine aX ?_ _ | refine aU ?_ | refine aY ?_ _)); exact BK233.out⟩, ⟨Short.hB HB⟩⟩
  subst c16
  rw [if_pos rfl] at H
  replace H := Option.bind_eq_some_iff.mp H
  obtain ⟨t238, A170, H⟩ := H
  replace H : (pred_Check.j0 k l1 (t238 != 0) a0_0 a0_1 a0_2 a0_3 a0_4 a0_5) = some r := H
  have A17 := mk_ A170
  clear A170
  have H' := mk_ H
  clear H
  obtain ⟨hcz18_0, hcz18_1, hcz18_2, hcz18_3, hcz18_4, hcz18_5, hfz18_0, hfz18_1, hfz18_2, hfz18_3, hfz18_4, hfz18_5⟩ := c6_ BK233.out
  go_wp2_with (first | (go_at_call 65; (with_reducible refine (dM.calls a0_1 (l1.length : Int) true _ A9.out).mono ?_); rintro e w' ⟨rfl, ⟨nd, rfl⟩⟩) | (go_at_call 66; (with_reducible refine (cO.calls a0_0 a0_1 a0_2 a0_3 a0_4 a0_5 true _ A11.out).mono ?_); rintro e w19 ⟨rfl, hb⟩; have n0_ := mk_ (bB_ BK233 hb); have n1_ := mk_ (aG (Short.hB HB) hb); clear BK233 HB; revert n0_ n1_; intro BK233 HB; (try clear hb); (try clear hb2); (try clear hk); (try clear hi); obtain ⟨hcz20_0, hcz20_1, hcz20_2, hcz20_3, hcz20_4, hcz20_5, hfz20_0, hfz20_1, hfz20_2, hfz20_3, hfz20_4, hfz20_5⟩ := c6_ BK233.out) | (go_at_call 65; (with_reducible refine (dM.calls a0_2 (l1.length : Int) true _ A13.out).mono ?_); rintro e w' ⟨rfl, ⟨nd, rfl⟩⟩) | (go_at_call 67; (with_reducible refine (cI.calls a0_0 a0_1 a0_2 a0_3 a0_4 a0_5 true _ A15.out).mono ?_); rintro e w21 ⟨rfl, hb⟩; have n0_ := mk_ (bB_ BK233 hb); have n1_ := mk_ (aG (Short.hB HB) hb); clear BK233 HB; revert n0_ n1_; intro BK233 HB; (try clear hb); (try clear hb2); (try clear hk); (try clear hi); obtain ⟨hcz22_0, hcz22_1, hcz22_2, hcz22_3, hcz22_4, hcz22_5, hfz22_0, hfz22_1, hfz22_2, hfz22_3, hfz22_4, hfz22_5⟩ := c6_ BK233.out) | (go_at_call 68; (with_reducible refine (bV.calls a0_3 a0_4 a0_5 t238 _ A17.out).mono ?_); rintro e w23 ⟨rfl, hb⟩; have n0_ := mk_ (bB_ BK233 hb); have n1_ := mk_ (aG (Short.hB HB) hb); clear BK233 HB; revert n0_ n1_; intro BK233 HB; (try clear hb); (try clear hb2); (try clear hk); (try clear hi)))
  go_meet
  case rel => exact ⟨_, ((t238 != 0)), z9_, H', ⟨by first | omega | exact Nat.le_refl _⟩, ⟨by (with_reducible repeat (first | refine aX ?_ _ | refine aU ?_ | refine aY ?_ _)); exact BK233.out⟩, ⟨Short.hB HB⟩⟩
 case rest => as_aux_lemma =>
  clear HC3
  try clear c1
  try clear p2
  try clear c3
  try clear c5
  try clear c5b0
  try clear c7
  try clear c7b0
  try clear c10
  try clear c12
  try clear c14
  try clear c16
  try clear c32
  try clear hcz18_0
  try clear hcz18_1
  try clear hcz18_2
  try clear hcz18_3
  try clear hcz18_4
  try clear hcz18_5
  try clear hcz20_0
  try clear hcz20_1
  try clear hcz20_2
  try clear hcz20_3
  try clear hcz20_4
  try clear hcz20_5
  try clear hcz22_0
  try clear hcz22_1
  try clear hcz22_2
  try clear hcz22_3
  try clear hcz22_4
  try clear hcz22_5
  try clear hcz24_0
  try clear hcz24_1
  try clear hcz24_2
  try clear hcz24_3
  try clear hcz24_4
  try clear hcz24_5
  try clear hcz26_0
  try clear hcz26_1
  try clear hcz26_2
  try clear hcz26_3
  try clear hcz26_4
  try clear hcz26_5
  try clear hcz28_0
  try clear hcz28_1
  try clear hcz28_2
  try clear hcz28_3
  try clear hcz28_4
  try clear hcz28_5
  try clear hcz30_0
  try clear hcz30_1
  try clear hcz30_2
  try clear hcz30_3
  try clear hcz30_4
  try clear hcz30_5
  try clear hcz34_0
  try clear hcz34_1
  try clear hcz34_2
  try clear hcz34_3
  try clear hcz34_4
  try clear hcz34_5
  try clear hcz36_0
  try clear hcz36_1
  try clear hcz36_2
  try clear hcz36_3
  try clear hcz36_4
  try clear hcz36_5
  try clear hcz38_0
  try clear hcz38_1
  try clear hcz38_2
  try clear hcz38_3
  try clear hcz38_4
  try clear hcz38_5
  try clear hcz40_0
  try clear hcz40_1
  try clear hcz40_2
  try clear hcz40_3
  try clear hcz40_4
  try clear hcz40_5
  try clear hcz42_0
  try clear hcz42_1
  try clear hcz42_2
  try clear hcz42_3
  try clear hcz42_4
  try clear hcz42_5
  try clear hcz44_0
  try clear hcz44_1
  try clear hcz44_2
  try clear hcz44_3
  try clear hcz44_4
  try clear hcz44_5
  try clear hcz6_0
  try clear hcz6_1
  try clear hcz6_2
  try clear hcz6_3
  try clear hcz6_4
  try clear hcz6_5
  try clear hcz8_0
  try clear hcz8_1
  try clear hcz8_2
  try clear hcz8_3
  try clear hcz8_4
  try clear hcz8_5
  try clear hfz18_0
  try clear hfz18_1
  try clear hfz18_2
  try clear hfz18_3
  try clear hfz18_4
  try clear hfz18_5
  try clear hfz20_0
  try clear hfz20_1
  try clear hfz20_2
  try clear hfz20_3
  try clear hfz20_4
  try clear hfz20_5
  try clear hfz22_0
  try clear hfz22_1
  try clear hfz22_2
  try clear hfz22_3
  try clear hfz22_4
  try clear hfz22_5
  try clear hfz24_0
  try clear hfz24_1
  try clear hfz24_2
  try clear hfz24_3
  try clear hfz24_4
  try clear hfz24_5
  try clear hfz26_0
  try clear hfz26_1
  try clear hfz26_2
  try clear hfz26_3
  try clear hfz26_4
  try clear hfz26_5
  try clear hfz28_0
  try clear hfz28_1
  try clear hfz28_2
  try clear hfz28_3
  try clear hfz28_4
  try clear hfz28_5
  try clear hfz30_0
  try clear hfz30_1
  try clear hfz30_2
  try clear hfz30_3
  try clear hfz30_4
  try clear hfz30_5
  try clear hfz34_0
  try clear hfz34_1
  try clear hfz34_2
  try clear hfz34_3
  try clear hfz34_4
  try clear hfz34_5
  try clear hfz36_0
  try clear hfz36_1
  try clear hfz36_2
  try clear hfz36_3
  try clear hfz36_4
  try clear hfz36_5
  try clear hfz38_0
  try clear hfz38_1
  try clear hfz38_2
  try clear hfz38_3
  try clear hfz38_4
  try clear hfz38_5
  try clear hfz40_0
  try clear hfz40_1
  try clear hfz40_2
  try clear hfz40_3
  try clear hfz40_4
  try clear hfz40_5
  try clear hfz42_0
  try clear hfz42_1
  try clear hfz42_2
  try clear hfz42_3
  try clear hfz42_4
  try clear hfz42_5
  try clear hfz44_0
  try clear hfz44_1
  try clear hfz44_2
  try clear hfz44_3
  try clear hfz44_4
  try clear hfz44_5
  try clear hfz6_0
  try clear hfz6_1
  try clear hfz6_2
  try clear hfz6_3
  try clear hfz6_4
  try clear hfz6_5
  try clear hfz8_0
  try clear hfz8_1
  try clear hfz8_2
  try clear hfz8_3
  try clear hfz8_4
  try clear hfz8_5
  obtain ⟨kq, x8_2, rfl, HA, HJ2, BK233, HB⟩ := hcut
  cases kq with
  | zero => exact absurd HA.out (by simp [pred_Check.j0])
  | succ kj2 =>
   have H := HA.out
   clear HA
   simp only [pred_Check.j0] at H
   by_cases c45 : x8_2 = true
   ·
    subst c45
    rw [if_pos rfl] at H
    obtain rfl := Option.some.inj H
    go_wp2
    go_ret
    exact ⟨q0, Short.hB HB⟩
   ·
    replace c45 := Bool.eq_false_iff.mpr c45
    subst c45
    rw [if_neg (show ¬ (false = true) by decide)] at H
    replace H := Option.bind_eq_some_iff.mp H
    obtain ⟨t241, A460, H⟩ := H
    replace H : (if t241 = true then (if 0 ≤ a0_1 then (if a0_1 < (l1.length : Int) then ((dU.f a0_3 a0_4 a0_5 (rd l1 a0_1)).bind fun t243 => (if t243 = true then ((cO.f a0_0 a0_1 a0_2 a0_3 a0_4 a0_5).bind fun t244 => (if t244 = true then (if 0 ≤ a0_2 then (if a0_2 < (l1.length : Int) then (if (rd l1 a0_2) = (rd l1 a0_1) then (some 0) else (some 10)) else (none)) else (none)) else (some 0))) else (some 10))) else (none)) else (none)) else ((cO.f a0_0 a0_1 a0_2 a0_3 a0_4 a0_5).bind fun t247 => (if t247 = true then (if 0 ≤ a0_2 then (if a0_2 < (l1.length : Int) then (if 0 ≤ a0_1 then (if a0_1 < (l1.length : Int) then (if (rd l1 a0_2) = (rd l1 a0_1) then (some 0) else (some 10)) else (none)) else (none)) else (none)) else (none)) else (some 0)))) = some r := H
    have A46 := mk_ A460
    clear A460
    by_cases c47 : t241 = true
    ·
     subst c47
     rw [if_pos rfl] at H
     by_cases c48 : 0 ≤ a0_1
     ·
      rw [if_pos c48] at H
      have c48b0 : decide (0 ≤ a0_1) = true := decide_eq_true c48
      clear c48
      by_cases c49 : a0_1 < (l1.length : Int)
      ·
       rw [if_pos c49] at H
       have c49b0 : decide (a0_1 < (l1.length : Int)) = true := decide_eq_true c49
       clear c49
       replace H := Option.bind_eq_some_iff.mp H
       obtain ⟨t243, A500, H⟩ := H
       replace H : (if t243 = true then ((cO.f a0_0 a0_1 a0_2 a0_3 a0_4 a0_5).bind fun t244 => (if t244 = true then (if 0 ≤ a0_2 then (if a0_2 < (l1.length : Int) then (if (rd l1 a0_2) = (rd l1 a0_1) then (some 0) else (some 10)) else (none)) else (none)) else (some 0))) else (some 10)) = some r := H
       have A50 := mk_ A500
       clear A500
       by_cases c51 : t243 = true
       ·
        subst c51
        rw [if_pos rfl] at H
        replace H := Option.bind_eq_some_iff.mp H
        obtain ⟨t244, A520, H⟩ := H
        replace H : (if t244 = true then (if 0 ≤ a0_2 then (if a0_2 < (l1.length : Int) then (if (rd l1 a0_2) = (rd l1 a0_1) then (some 0) else (some 10)) else (none)) else (none)) else (some 0)) = some r := H
        have A52 := mk_ A520
        clear A520
        by_cases c53 : t244 = true
        ·
         subst c53
         rw [if_pos rfl] at H
         by_cases c54 : 0 ≤ a0_2
         ·
          rw [if_pos c54] at H
          have c54b0 : decide (0 ≤ a0_2) = true := decide_eq_true c54
          clear c54
          by_cases c55 : a0_2 < (l1.length : Int)
          ·
           rw [if_pos c55] at H
           have c55b0 : decide (a0_2 < (l1.length : Int)) = true := decide_eq_true c55
           clear c55
           by_cases c56 : (rd l1 a0_2) = (rd l1 a0_1)
           ·
            rw [if_pos c56] at H
            have c56b0 : ((rd l1 a0_2) == (rd l1 a0_1)) = true := beq_iff_eq.mpr c56
            have c56b1 : ((rd l1 a0_2) != (rd l1 a0_1)) = false := bne_eq_false_iff_eq.mpr c56
            clear c56
            obtain rfl := Option.some.inj H
            try go_wp2
            have n0_ := mk_ (aU BK233.out)
            have n1_ := mk_ (cQ HB.out)
            clear BK233 HB
            revert n0_ n1_
            intro BK233 HB
            have p242 : 0 ≤ (a0_1 : Int) := of_decide_eq_true z4_
            have q242 : a0_1 < (l1.length : Int) := of_decide_eq_true z4_
            obtain ⟨ad242, e242, hx242_0⟩ := Kd.at_int HR1.out a0_1 p242 q242
            have hw242_0 := hx242_0
            cases e242
            replace hx242_0 := up_ HB hx242_0
            replace p242 := eq_true p242
            replace q242 := eq_true q242
            have p245 : 0 ≤ (a0_2 : Int) := of_decide_eq_true z4_
            have q245 : a0_2 < (l1.length : Int) := of_decide_eq_true z4_
            obtain ⟨ad245, e245, hx245_0⟩ := Kd.at_int HR1.out a0_2 p245 q245
            have hw245_0 := hx245_0
            obtain rfl : ad242 = ad245 := (by injection e245)
            replace hx245_0 := up_ HB hx245_0
            replace p245 := eq_true p245
            replace q245 := eq_true q245
            have p246 : 0 ≤ (a0_1 : Int) := of_decide_eq_true z4_
            have q246 : a0_1 < (l1.length : Int) := of_decide_eq_true z4_
            obtain ⟨ad246, e246, hx246_0⟩ := Kd.at_int HR1.out a0_1 p246 q246
            have hw246_0 := hx246_0
            obtain rfl : ad242 = ad246 := (by injection e246)
            replace hx246_0 := up_ HB hx246_0
            replace p246 := eq_true p246
            replace q246 := eq_true q246
            refine dX (n := 31) (S := fun w' => w'.cell? ⟨gb233, 0, none⟩ = some (.int .i64 a0_0) ∧ w'.cell? ⟨gb233, 1, none⟩ = some (.int .i64 a0_1) ∧ w'.cell? ⟨gb233, 2, none⟩ = some (.int .i64 a0_2) ∧ w'.cell? ⟨gb233, 3, none⟩ = some (.int .i64 a0_3) ∧ w'.cell? ⟨gb233, 4, none⟩ = some (.int .i64 a0_4) ∧ w'.cell? ⟨gb233, 5, none⟩ = some (.string a0_5) ∧ w'.cell? (ad242.add (a0_1).toNat) = some (.int .i64 (rd l1 a0_1)) ∧ w'.cell? (ad242.add (a0_2).toNat) = some (.int .i64 (rd l1 a0_2)) ∧ w'.cell? (ad242.add (a0_1).toNat) = some (.int .i64 (rd l1 a0_1))) (ds := []) (Steps.Bs 31 0) z1_ rfl rfl ⟨kc_ BK233 0, kc_ BK233 1, kc_ BK233 2, kc_ BK233 3, kc_ BK233 4, kc_ BK233 5, ((HB.out.cell (World.block_lt_of_cell? w _ hw242_0)).trans hw242_0), ((HB.out.cell (World.block_lt_of_cell? w _ hw245_0)).trans hw245_0), ((HB.out.cell (World.block_lt_of_cell? w _ hw246_0)).trans hw246_0)⟩ (fun hHeld => ?_); refine dB pred_Check.tab4 pred_Check.bits4 (fun HT_ HW_ => ?_)
            generalize wc.drew = w57 at BK233 HB hx242_0 hx245_0 hx246_0 hHeld ⊢
            refine tT HT_ HW_ hHeld 0 46 31 1 ?_
            refine one_ (i := 1) (N := some 47) (Steps.Bs 31 3) rfl rfl (dA HT_.out z1_) z10_ (fun K hK => ?_)
            refine goes_ Try.func67 z1_ rfl #[.agg #[.int .i64 a0_0, .int .i64 a0_1, .int .i64 a0_2, .int .i64 a0_3, .int .i64 a0_4, .string a0_5]] z12_ rfl rfl z6_ ?_
            with_reducible refine (cI.calls a0_0 a0_1 a0_2 a0_3 a0_4 a0_5 true _ A46.out).mono ?_
            rintro e w58 ⟨rfl, hb⟩
            refine ⟨_, rfl, ?_⟩
            have n0_ := mk_ (bB_ BK233 hb)
            have n1_ := mk_ (aG (Short.hB HB) hb)
            clear BK233 HB
            revert n0_ n1_
            intro BK233 HB
            (try clear hb)
            (try clear hb2)
            (try clear hk)
            (try clear hi)
            refine hK.out _ _ ⟨kc_ BK233 0, kc_ BK233 1, kc_ BK233 2, kc_ BK233 3, kc_ BK233 4, kc_ BK233 5, ((HB.out.cell (World.block_lt_of_cell? w _ hw242_0)).trans hw242_0), ((HB.out.cell (World.block_lt_of_cell? w _ hw245_0)).trans hw245_0), ((HB.out.cell (World.block_lt_of_cell? w _ hw246_0)).trans hw246_0)⟩ (fun hHeld => ?_)
            clear hK K
            refine nrm 47 ?_
            refine tI HT_ 2 48 31 7 ?_
            refine tI HT_ 3 49 31 15 ?_
            refine tI HT_ 5 51 31 47 ?_
            refine tI HT_ 6 52 31 111 ?_
            refine tT HT_ HW_ hHeld 4 50 31 127 ?_
            refine tT HT_ HW_ hHeld 7 53 31 255 ?_
            refine tI HT_ 8 54 31 511 ?_
            refine tT HT_ HW_ hHeld 9 55 31 1023 ?_
            refine one_ (i := 10) (N := some 56) (Steps.Bs 31 2047) rfl rfl (dA HT_.out z1_) z10_ (fun K hK => ?_)
            refine goes_ Try.func69 z1_ rfl #[.agg #[.int .i64 a0_3, .int .i64 a0_4, .string a0_5], .int .i64 (rd l1 a0_1)] z12_ rfl rfl z6_ ?_
            with_reducible refine (dU.calls a0_3 a0_4 a0_5 (rd l1 a0_1) true _ A50.out).mono ?_
            rintro e w59 ⟨rfl, hb⟩
            refine ⟨_, rfl, ?_⟩
            have n0_ := mk_ (bB_ BK233 hb)
            have n1_ := mk_ (aG (Short.hB HB) hb)
            clear BK233 HB
            revert n0_ n1_
            intro BK233 HB
            (try clear hb)
            (try clear hb2)
            (try clear hk)
            (try clear hi)
            refine hK.out _ _ ⟨kc_ BK233 0, kc_ BK233 1, kc_ BK233 2, kc_ BK233 3, kc_ BK233 4, kc_ BK233 5, ((HB.out.cell (World.block_lt_of_cell? w _ hw242_0)).trans hw242_0), ((HB.out.cell (World.block_lt_of_cell? w _ hw245_0)).trans hw245_0), ((HB.out.cell (World.block_lt_of_cell? w _ hw246_0)).trans hw246_0)⟩ (fun hHeld => ?_)
            clear hK K
            refine nrm 56 ?_
            refine tI HT_ 11 57 31 4095 ?_
            refine tI HT_ 12 58 31 8191 ?_
            refine tI HT_ 13 59 31 16383 ?_
            refine tT HT_ HW_ hHeld 14 60 31 32767 ?_
            refine one_ (i := 15) (N := some 61) (Steps.Bs 31 65535) rfl rfl (dA HT_.out z1_) z10_ (fun K hK => ?_)
            refine goes_ Try.func66 z1_ rfl #[.agg #[.int .i64 a0_0, .int .i64 a0_1, .int .i64 a0_2, .int .i64 a0_3, .int .i64 a0_4, .string a0_5]] z12_ rfl rfl z6_ ?_
            with_reducible refine (cO.calls a0_0 a0_1 a0_2 a0_3 a0_4 a0_5 true _ A52.out).mono ?_
            rintro e w60 ⟨rfl, hb⟩
            refine ⟨_, rfl, ?_⟩
            have n0_ := mk_ (bB_ BK233 hb)
            have n1_ := mk_ (aG (Short.hB HB) hb)
            clear BK233 HB
            revert n0_ n1_
            intro BK233 HB
            (try clear hb)
            (try clear hb2)
            (try clear hk)
            (try clear hi)
            refine hK.out _ _ ⟨kc_ BK233 0, kc_ BK233 1, kc_ BK233 2, kc_ BK233 3, kc_ BK233 4, kc_ BK233 5, ((HB.out.cell (World.block_lt_of_cell? w _ hw242_0)).trans hw242_0), ((HB.out.cell (World.block_lt_of_cell? w _ hw245_0)).trans hw245_0), ((HB.out.cell (World.block_lt_of_cell? w _ hw246_0)).trans hw246_0)⟩ (fun hHeld => ?_)
            clear hK K
            refine nrm 61 ?_
            refine tI HT_ 16 62 31 131071 ?_
            refine tI HT_ 17 63 31 262143 ?_
            refine tI HT_ 18 64 31 524287 ?_
            refine tI HT_ 22 68 31 4718591 ?_
            refine tI HT_ 23 69 31 13107199 ?_
            refine tT HT_ HW_ hHeld 19 65 31 13631487 ?_
            refine tI HT_ 20 66 31 14680063 ?_
            refine tT HT_ HW_ hHeld 21 67 31 16777215 ?_
            refine tT HT_ HW_ hHeld 24 70 31 33554431 ?_
            refine tI HT_ 25 71 31 67108863 ?_
            refine tT HT_ HW_ hHeld 26 72 31 134217727 ?_
            refine tI HT_ 27 73 31 268435455 ?_
            refine tI HT_ 28 74 31 536870911 ?_
            refine tI HT_ 29 75 31 1073741823 ?_
            refine tI HT_ 30 45 31 2147483647 ?_
            refine done_ (dT HT_.out z1_) ?_
            try go_wp2
            go_ret
            exact ⟨q0, Short.hB HB⟩
           ·
            rw [if_neg c56] at H
            have c56b0 : ((rd l1 a0_2) == (rd l1 a0_1)) = false := beq_eq_false_iff_ne.mpr c56
            have c56b1 : ((rd l1 a0_2) != (rd l1 a0_1)) = true := bne_iff_ne.mpr c56
            obtain rfl := Option.some.inj H
            try go_wp2
            have n0_ := mk_ (aU BK233.out)
            have n1_ := mk_ (cQ HB.out)
            clear BK233 HB
            revert n0_ n1_
            intro BK233 HB
            have p242 : 0 ≤ (a0_1 : Int) := of_decide_eq_true z4_
            have q242 : a0_1 < (l1.length : Int) := of_decide_eq_true z4_
            obtain ⟨ad242, e242, hx242_0⟩ := Kd.at_int HR1.out a0_1 p242 q242
            have hw242_0 := hx242_0
            cases e242
            replace hx242_0 := up_ HB hx242_0
            replace p242 := eq_true p242
            replace q242 := eq_true q242
            have p245 : 0 ≤ (a0_2 : Int) := of_decide_eq_true z4_
            have q245 : a0_2 < (l1.length : Int) := of_decide_eq_true z4_
            obtain ⟨ad245, e245, hx245_0⟩ := Kd.at_int HR1.out a0_2 p245 q245
            have hw245_0 := hx245_0
            obtain rfl : ad242 = ad245 := (by injection e245)
            replace hx245_0 := up_ HB hx245_0
            replace p245 := eq_true p245
            replace q245 := eq_true q245
            have p246 : 0 ≤ (a0_1 : Int) := of_decide_eq_true z4_
            have q246 : a0_1 < (l1.length : Int) := of_decide_eq_true z4_
            obtain ⟨ad246, e246, hx246_0⟩ := Kd.at_int HR1.out a0_1 p246 q246
            have hw246_0 := hx246_0
            obtain rfl : ad242 = ad246 := (by injection e246)
            replace hx246_0 := up_ HB hx246_0
            replace p246 := eq_true p246
            replace q246 := eq_true q246
            refine dX (n := 31) (S := fun w' => w'.cell? ⟨gb233, 0, none⟩ = some (.int .i64 a0_0) ∧ w'.cell? ⟨gb233, 1, none⟩ = some (.int .i64 a0_1) ∧ w'.cell? ⟨gb233, 2, none⟩ = some (.int .i64 a0_2) ∧ w'.cell? ⟨gb233, 3, none⟩ = some (.int .i64 a0_3) ∧ w'.cell? ⟨gb233, 4, none⟩ = some (.int .i64 a0_4) ∧ w'.cell? ⟨gb233, 5, none⟩ = some (.string a0_5) ∧ w'.cell? (ad242.add (a0_1).toNat) = some (.int .i64 (rd l1 a0_1)) ∧ w'.cell? (ad242.add (a0_2).toNat) = some (.int .i64 (rd l1 a0_2)) ∧ w'.cell? (ad242.add (a0_1).toNat) = some (.int .i64 (rd l1 a0_1))) (ds := []) (Steps.Bs 31 0) z1_ rfl rfl ⟨kc_ BK233 0, kc_ BK233 1, kc_ BK233 2, kc_ BK233 3, kc_ BK233 4, kc_ BK233 5, ((HB.out.cell (World.block_lt_of_cell? w _ hw242_0)).trans hw242_0), ((HB.out.cell (World.block_lt_of_cell? w _ hw245_0)).trans hw245_0), ((HB.out.cell (World.block_lt_of_cell? w _ hw246_0)).trans hw246_0)⟩ (fun hHeld => ?_); refine dB pred_Check.tab4 pred_Check.bits4 (fun HT_ HW_ => ?_)
            generalize wc.drew = w61 at BK233 HB hx242_0 hx245_0 hx246_0 hHeld ⊢
            refine tT HT_ HW_ hHeld 0 46 31 1 ?_
            refine one_ (i := 1) (N := some 47) (Steps.Bs 31 3) rfl rfl (dA HT_.out z1_) z10_ (fun K hK => ?_)
            refine goes_ Try.func67 z1_ rfl #[.agg #[.int .i64 a0_0, .int .i64 a0_1, .int .i64 a0_2, .int .i64 a0_3, .int .i64 a0_4, .string a0_5]] z12_ rfl rfl z6_ ?_
            with_reducible refine (cI.calls a0_0 a0_1 a0_2 a0_3 a0_4 a0_5 true _ A46.out).mono ?_
            rintro e w62 ⟨rfl, hb⟩
            refine ⟨_, rfl, ?_⟩
            have n0_ := mk_ (bB_ BK233 hb)
            have n1_ := mk_ (aG (Short.hB HB) hb)
            clear BK233 HB
            revert n0_ n1_
            intro BK233 HB
            (try clear hb)
            (try clear hb2)
            (try clear hk)
            (try clear hi)
            refine hK.out _ _ ⟨kc_ BK233 0, kc_ BK233 1, kc_ BK233 2, kc_ BK233 3, kc_ BK233 4, kc_ BK233 5, ((HB.out.cell (World.block_lt_of_cell? w _ hw242_0)).trans hw242_0), ((HB.out.cell (World.block_lt_of_cell? w _ hw245_0)).trans hw245_0), ((HB.out.cell (World.block_lt_of_cell? w _ hw246_0)).trans hw246_0)⟩ (fun hHeld => ?_)
            clear hK K
            refine nrm 47 ?_
            refine tI HT_ 2 48 31 7 ?_
            refine tI HT_ 3 49 31 15 ?_
            refine tI HT_ 5 51 31 47 ?_
            refine tI HT_ 6 52 31 111 ?_
            refine tT HT_ HW_ hHeld 4 50 31 127 ?_
            refine tT HT_ HW_ hHeld 7 53 31 255 ?_
            refine tI HT_ 8 54 31 511 ?_
            refine tT HT_ HW_ hHeld 9 55 31 1023 ?_
            refine one_ (i := 10) (N := some 56) (Steps.Bs 31 2047) rfl rfl (dA HT_.out z1_) z10_ (fun K hK => ?_)
            refine goes_ Try.func69 z1_ rfl #[.agg #[.int .i64 a0_3, .int .i64 a0_4, .string a0_5], .int .i64 (rd l1 a0_1)] z12_ rfl rfl z6_ ?_
            with_reducible refine (dU.calls a0_3 a0_4 a0_5 (rd l1 a0_1) true _ A50.out).mono ?_
            rintro e w63 ⟨rfl, hb⟩
            refine ⟨_, rfl, ?_⟩
            have n0_ := mk_ (bB_ BK233 hb)
            have n1_ := mk_ (aG (Short.hB HB) hb)
            clear BK233 HB
            revert n0_ n1_
            intro BK233 HB
            (try clear hb)
            (try clear hb2)
            (try clear hk)
            (try clear hi)
            refine hK.out _ _ ⟨kc_ BK233 0, kc_ BK233 1, kc_ BK233 2, kc_ BK233 3, kc_ BK233 4, kc_ BK233 5, ((HB.out.cell (World.block_lt_of_cell? w _ hw242_0)).trans hw242_0), ((HB.out.cell (World.block_lt_of_cell? w _ hw245_0)).trans hw245_0), ((HB.out.cell (World.block_lt_of_cell? w _ hw246_0)).trans hw246_0)⟩ (fun hHeld => ?_)
            clear hK K
            refine nrm 56 ?_
            refine tI HT_ 11 57 31 4095 ?_
            refine tI HT_ 12 58 31 8191 ?_
            refine tI HT_ 13 59 31 16383 ?_
            refine tT HT_ HW_ hHeld 14 60 31 32767 ?_
            refine one_ (i := 15) (N := some 61) (Steps.Bs 31 65535) rfl rfl (dA HT_.out z1_) z10_ (fun K hK => ?_)
            refine goes_ Try.func66 z1_ rfl #[.agg #[.int .i64 a0_0, .int .i64 a0_1, .int .i64 a0_2, .int .i64 a0_3, .int .i64 a0_4, .string a0_5]] z12_ rfl rfl z6_ ?_
            with_reducible refine (cO.calls a0_0 a0_1 a0_2 a0_3 a0_4 a0_5 true _ A52.out).mono ?_
            rintro e w64 ⟨rfl, hb⟩
            refine ⟨_, rfl, ?_⟩
            have n0_ := mk_ (bB_ BK233 hb)
            have n1_ := mk_ (aG (Short.hB HB) hb)
            clear BK233 HB
            revert n0_ n1_
            intro BK233 HB
            (try clear hb)
            (try clear hb2)
            (try clear hk)
            (try clear hi)
            refine hK.out _ _ ⟨kc_ BK233 0, kc_ BK233 1, kc_ BK233 2, kc_ BK233 3, kc_ BK233 4, kc_ BK233 5, ((HB.out.cell (World.block_lt_of_cell? w _ hw242_0)).trans hw242_0), ((HB.out.cell (World.block_lt_of_cell? w _ hw245_0)).trans hw245_0), ((HB.out.cell (World.block_lt_of_cell? w _ hw246_0)).trans hw246_0)⟩ (fun hHeld => ?_)
            clear hK K
            refine nrm 61 ?_
            refine tI HT_ 16 62 31 131071 ?_
            refine tI HT_ 17 63 31 262143 ?_
            refine tI HT_ 18 64 31 524287 ?_
            refine tI HT_ 22 68 31 4718591 ?_
            refine tI HT_ 23 69 31 13107199 ?_
            refine tT HT_ HW_ hHeld 19 65 31 13631487 ?_
            refine tI HT_ 20 66 31 14680063 ?_
            refine tT HT_ HW_ hHeld 21 67 31 16777215 ?_
            refine tT HT_ HW_ hHeld 24 70 31 33554431 ?_
            refine tI HT_ 25 71 31 67108863 ?_
            refine tT HT_ HW_ hHeld 26 72 31 134217727 ?_
            refine tI HT_ 27 73 31 268435455 ?_
            refine tI HT_ 28 74 31 536870911 ?_
            refine tI HT_ 29 75 31 1073741823 ?_
            refine tI HT_ 30 45 31 2147483647 ?_
            refine done_ (dT HT_.out z1_) ?_
            try go_wp2
            go_ret
            exact ⟨q0, Short.hB HB⟩
          ·
           rw [if_neg c55] at H
           exact absurd H (by simp)
         ·
          rw [if_neg c54] at H
          exact absurd H (by simp)
        ·
         replace c53 := Bool.eq_false_iff.mpr c53
         subst c53
         rw [if_neg (show ¬ (false = true) by decide)] at H
         obtain rfl := Option.some.inj H
         try go_wp2
         have n0_ := mk_ (aU BK233.out)
         have n1_ := mk_ (cQ HB.out)
         clear BK233 HB
         revert n0_ n1_
         intro BK233 HB
         have p242 : 0 ≤ (a0_1 : Int) := of_decide_eq_true z4_
         have q242 : a0_1 < (l1.length : Int) := of_decide_eq_true z4_
         obtain ⟨ad242, e242, hx242_0⟩ := Kd.at_int HR1.out a0_1 p242 q242
         have hw242_0 := hx242_0
         cases e242
         replace hx242_0 := up_ HB hx242_0
         replace p242 := eq_true p242
         replace q242 := eq_true q242
         refine dX (n := 31) (S := fun w' => w'.cell? ⟨gb233, 0, none⟩ = some (.int .i64 a0_0) ∧ w'.cell? ⟨gb233, 1, none⟩ = some (.int .i64 a0_1) ∧ w'.cell? ⟨gb233, 2, none⟩ = some (.int .i64 a0_2) ∧ w'.cell? ⟨gb233, 3, none⟩ = some (.int .i64 a0_3) ∧ w'.cell? ⟨gb233, 4, none⟩ = some (.int .i64 a0_4) ∧ w'.cell? ⟨gb233, 5, none⟩ = some (.string a0_5) ∧ w'.cell? (ad242.add (a0_1).toNat) = some (.int .i64 (rd l1 a0_1))) (ds := []) (Steps.Bs 31 0) z1_ rfl rfl ⟨kc_ BK233 0, kc_ BK233 1, kc_ BK233 2, kc_ BK233 3, kc_ BK233 4, kc_ BK233 5, ((HB.out.cell (World.block_lt_of_cell? w _ hw242_0)).trans hw242_0)⟩ (fun hHeld => ?_); refine dB pred_Check.tab4 pred_Check.bits4 (fun HT_ HW_ => ?_)
         generalize wc.drew = w65 at BK233 HB hx242_0 hHeld ⊢
         refine tT HT_ HW_ hHeld 0 46 31 1 ?_
         refine one_ (i := 1) (N := some 47) (Steps.Bs 31 3) rfl rfl (dA HT_.out z1_) z10_ (fun K hK => ?_)
         refine goes_ Try.func67 z1_ rfl #[.agg #[.int .i64 a0_0, .int .i64 a0_1, .int .i64 a0_2, .int .i64 a0_3, .int .i64 a0_4, .string a0_5]] z12_ rfl rfl z6_ ?_
         with_reducible refine (cI.calls a0_0 a0_1 a0_2 a0_3 a0_4 a0_5 true _ A46.out).mono ?_
         rintro e w66 ⟨rfl, hb⟩
         refine ⟨_, rfl, ?_⟩
         have n0_ := mk_ (bB_ BK233 hb)
         have n1_ := mk_ (aG (Short.hB HB) hb)
         clear BK233 HB
         revert n0_ n1_
         intro BK233 HB
         (try clear hb)
         (try clear hb2)
         (try clear hk)
         (try clear hi)
         refine hK.out _ _ ⟨kc_ BK233 0, kc_ BK233 1, kc_ BK233 2, kc_ BK233 3, kc_ BK233 4, kc_ BK233 5, ((HB.out.cell (World.block_lt_of_cell? w _ hw242_0)).trans hw242_0)⟩ (fun hHeld => ?_)
         clear hK K
         refine nrm 47 ?_
         refine tI HT_ 2 48 31 7 ?_
         refine tI HT_ 3 49 31 15 ?_
         refine tI HT_ 5 51 31 47 ?_
         refine tI HT_ 6 52 31 111 ?_
         refine tT HT_ HW_ hHeld 4 50 31 127 ?_
         refine tT HT_ HW_ hHeld 7 53 31 255 ?_
         refine tI HT_ 8 54 31 511 ?_
         refine tT HT_ HW_ hHeld 9 55 31 1023 ?_
         refine one_ (i := 10) (N := some 56) (Steps.Bs 31 2047) rfl rfl (dA HT_.out z1_) z10_ (fun K hK => ?_)
         refine goes_ Try.func69 z1_ rfl #[.agg #[.int .i64 a0_3, .int .i64 a0_4, .string a0_5], .int .i64 (rd l1 a0_1)] z12_ rfl rfl z6_ ?_
         with_reducible refine (dU.calls a0_3 a0_4 a0_5 (rd l1 a0_1) true _ A50.out).mono ?_
         rintro e w67 ⟨rfl, hb⟩
         refine ⟨_, rfl, ?_⟩
         have n0_ := mk_ (bB_ BK233 hb)
         have n1_ := mk_ (aG (Short.hB HB) hb)
         clear BK233 HB
         revert n0_ n1_
         intro BK233 HB
         (try clear hb)
         (try clear hb2)
         (try clear hk)
         (try clear hi)
         refine hK.out _ _ ⟨kc_ BK233 0, kc_ BK233 1, kc_ BK233 2, kc_ BK233 3, kc_ BK233 4, kc_ BK233 5, ((HB.out.cell (World.block_lt_of_cell? w _ hw242_0)).trans hw242_0)⟩ (fun hHeld => ?_)
         clear hK K
         refine nrm 56 ?_
         refine tI HT_ 11 57 31 4095 ?_
         refine tI HT_ 12 58 31 8191 ?_
         refine tI HT_ 13 59 31 16383 ?_
         refine tT HT_ HW_ hHeld 14 60 31 32767 ?_
         refine one_ (i := 15) (N := some 61) (Steps.Bs 31 65535) rfl rfl (dA HT_.out z1_) z10_ (fun K hK => ?_)
         refine goes_ Try.func66 z1_ rfl #[.agg #[.int .i64 a0_0, .int .i64 a0_1, .int .i64 a0_2, .int .i64 a0_3, .int .i64 a0_4, .string a0_5]] z12_ rfl rfl z6_ ?_
         with_reducible refine (cO.calls a0_0 a0_1 a0_2 a0_3 a0_4 a0_5 false _ A52.out).mono ?_
         rintro e w68 ⟨rfl, hb⟩
         refine ⟨_, rfl, ?_⟩
         have n0_ := mk_ (bB_ BK233 hb)
         have n1_ := mk_ (aG (Short.hB HB) hb)
         clear BK233 HB
         revert n0_ n1_
         intro BK233 HB
         (try clear hb)
         (try clear hb2)
         (try clear hk)
         (try clear hi)
         refine hK.out _ _ ⟨kc_ BK233 0, kc_ BK233 1, kc_ BK233 2, kc_ BK233 3, kc_ BK233 4, kc_ BK233 5, ((HB.out.cell (World.block_lt_of_cell? w _ hw242_0)).trans hw242_0)⟩ (fun hHeld => ?_)
         clear hK K
         refine nrm 61 ?_
         refine tI HT_ 16 62 31 131071 ?_
         refine tR HT_ 17 63 31 262143 ?_
         refine tR HT_ 18 64 31 524287 ?_
         refine tR HT_ 19 65 31 1048575 ?_
         refine tR HT_ 20 66 31 2097151 ?_
         refine tR HT_ 21 67 31 4194303 ?_
         refine tR HT_ 22 68 31 8388607 ?_
         refine tR HT_ 23 69 31 16777215 ?_
         refine tR HT_ 24 70 31 33554431 ?_
         refine tR HT_ 25 71 31 67108863 ?_
         refine tR HT_ 26 72 31 134217727 ?_
         refine tR HT_ 27 73 31 268435455 ?_
         refine tI HT_ 28 74 31 536870911 ?_
         refine tI HT_ 29 75 31 1073741823 ?_
         refine tI HT_ 30 45 31 2147483647 ?_
         refine done_ (dT HT_.out z1_) ?_
         try go_wp2
         go_ret
         exact ⟨q0, Short.hB HB⟩
       ·
        replace c51 := Bool.eq_false_iff.mpr c51
        subst c51
        rw [if_neg (show ¬ (false = true) by decide)] at H
        obtain rfl := Option.some.inj H
        try go_wp2
        have n0_ := mk_ (aU BK233.out)
        have n1_ := mk_ (cQ HB.out)
        clear BK233 HB
        revert n0_ n1_
        intro BK233 HB
        have p242 : 0 ≤ (a0_1 : Int) := of_decide_eq_true z4_
        have q242 : a0_1 < (l1.length : Int) := of_decide_eq_true z4_
        obtain ⟨ad242, e242, hx242_0⟩ := Kd.at_int HR1.out a0_1 p242 q242
        have hw242_0 := hx242_0
        cases e242
        replace hx242_0 := up_ HB hx242_0
        replace p242 := eq_true p242
        replace q242 := eq_true q242
        refine dX (n := 31) (S := fun w' => w'.cell? ⟨gb233, 0, none⟩ = some (.int .i64 a0_0) ∧ w'.cell? ⟨gb233, 1, none⟩ = some (.int .i64 a0_1) ∧ w'.cell? ⟨gb233, 2, none⟩ = some (.int .i64 a0_2) ∧ w'.cell? ⟨gb233, 3, none⟩ = some (.int .i64 a0_3) ∧ w'.cell? ⟨gb233, 4, none⟩ = some (.int .i64 a0_4) ∧ w'.cell? ⟨gb233, 5, none⟩ = some (.string a0_5) ∧ w'.cell? (ad242.add (a0_1).toNat) = some (.int .i64 (rd l1 a0_1))) (ds := []) (Steps.Bs 31 0) z1_ rfl rfl ⟨kc_ BK233 0, kc_ BK233 1, kc_ BK233 2, kc_ BK233 3, kc_ BK233 4, kc_ BK233 5, ((HB.out.cell (World.block_lt_of_cell? w _ hw242_0)).trans hw242_0)⟩ (fun hHeld => ?_); refine dB pred_Check.tab4 pred_Check.bits4 (fun HT_ HW_ => ?_)
        generalize wc.drew = w69 at BK233 HB hx242_0 hHeld ⊢
        refine tT HT_ HW_ hHeld 0 46 31 1 ?_
        refine one_ (i := 1) (N := some 47) (Steps.Bs 31 3) rfl rfl (dA HT_.out z1_) z10_ (fun K hK => ?_)
        refine goes_ Try.func67 z1_ rfl #[.agg #[.int .i64 a0_0, .int .i64 a0_1, .int .i64 a0_2, .int .i64 a0_3, .int .i64 a0_4, .string a0_5]] z12_ rfl rfl z6_ ?_
        with_reducible refine (cI.calls a0_0 a0_1 a0_2 a0_3 a0_4 a0_5 true _ A46.out).mono ?_
        rintro e w70 ⟨rfl, hb⟩
        refine ⟨_, rfl, ?_⟩
        have n0_ := mk_ (bB_ BK233 hb)
        have n1_ := mk_ (aG (Short.hB HB) hb)
        clear BK233 HB
        revert n0_ n1_
        intro BK233 HB
        (try clear hb)
        (try clear hb2)
        (try clear hk)
        (try clear hi)
        refine hK.out _ _ ⟨kc_ BK233 0, kc_ BK233 1, kc_ BK233 2, kc_ BK233 3, kc_ BK233 4, kc_ BK233 5, ((HB.out.cell (World.block_lt_of_cell? w _ hw242_0)).trans hw242_0)⟩ (fun hHeld => ?_)
        clear hK K
        refine nrm 47 ?_
        refine tI HT_ 2 48 31 7 ?_
        refine tI HT_ 3 49 31 15 ?_
        refine tI HT_ 5 51 31 47 ?_
        refine tI HT_ 6 52 31 111 ?_
        refine tT HT_ HW_ hHeld 4 50 31 127 ?_
        refine tT HT_ HW_ hHeld 7 53 31 255 ?_
        refine tI HT_ 8 54 31 511 ?_
        refine tT HT_ HW_ hHeld 9 55 31 1023 ?_
        refine one_ (i := 10) (N := some 56) (Steps.Bs 31 2047) rfl rfl (dA HT_.out z1_) z10_ (fun K hK => ?_)
        refine goes_ Try.func69 z1_ rfl #[.agg #[.int .i64 a0_3, .int .i64 a0_4, .string a0_5], .int .i64 (rd l1 a0_1)] z12_ rfl rfl z6_ ?_
        with_reducible refine (dU.calls a0_3 a0_4 a0_5 (rd l1 a0_1) false _ A50.out).mono ?_
        rintro e w71 ⟨rfl, hb⟩
        refine ⟨_, rfl, ?_⟩
        have n0_ := mk_ (bB_ BK233 hb)
        have n1_ := mk_ (aG (Short.hB HB) hb)
        clear BK233 HB
        revert n0_ n1_
        intro BK233 HB
        (try clear hb)
        (try clear hb2)
        (try clear hk)
        (try clear hi)
        refine hK.out _ _ ⟨kc_ BK233 0, kc_ BK233 1, kc_ BK233 2, kc_ BK233 3, kc_ BK233 4, kc_ BK233 5, ((HB.out.cell (World.block_lt_of_cell? w _ hw242_0)).trans hw242_0)⟩ (fun hHeld => ?_)
        clear hK K
        refine nrm 56 ?_
        refine tI HT_ 11 57 31 4095 ?_
        refine tI HT_ 12 58 31 8191 ?_
        refine tI HT_ 13 59 31 16383 ?_
        refine tR HT_ 14 60 31 32767 ?_
        refine tR HT_ 15 61 31 65535 ?_
        refine tR HT_ 16 62 31 131071 ?_
        refine tR HT_ 17 63 31 262143 ?_
        refine tR HT_ 18 64 31 524287 ?_
        refine tR HT_ 19 65 31 1048575 ?_
        refine tR HT_ 20 66 31 2097151 ?_
        refine tR HT_ 21 67 31 4194303 ?_
        refine tR HT_ 22 68 31 8388607 ?_
        refine tR HT_ 23 69 31 16777215 ?_
        refine tR HT_ 24 70 31 33554431 ?_
        refine tR HT_ 25 71 31 67108863 ?_
        refine tR HT_ 26 72 31 134217727 ?_
        refine tR HT_ 27 73 31 268435455 ?_
        refine tR HT_ 28 74 31 536870911 ?_
        refine tI HT_ 29 75 31 1073741823 ?_
        refine tI HT_ 30 45 31 2147483647 ?_
        refine done_ (dT HT_.out z1_) ?_
        try go_wp2
        go_ret
        exact ⟨q0, Short.hB HB⟩
      ·
       rw [if_neg c49] at H
       exact absurd H (by simp)
     ·
      rw [if_neg c48] at H
      exact absurd H (by simp)
    ·
     replace c47 := Bool.eq_false_iff.mpr c47
     subst c47
     rw [if_neg (show ¬ (false = true) by decide)] at H
     replace H := Option.bind_eq_some_iff.mp H
     obtain ⟨t247, A720, H⟩ := H
     replace H : (if t247 = true then (if 0 ≤ a0_2 then (if a0_2 < (l1.length : Int) then (if 0 ≤ a0_1 then (if a0_1 < (l1.length : Int) then (if (rd l1 a0_2) = (rd l1 a0_1) then (some 0) else (some 10)) else (none)) else (none)) else (none)) else (none)) else (some 0)) = some r := H
     have A72 := mk_ A720
     clear A720
     by_cases c73 : t247 = true
     ·
      subst c73
      rw [if_pos rfl] at H
      by_cases c74 : 0 ≤ a0_2
      ·
       rw [if_pos c74] at H
       have c74b0 : decide (0 ≤ a0_2) = true := decide_eq_true c74
       clear c74
       by_cases c75 : a0_2 < (l1.length : Int)
       ·
        rw [if_pos c75] at H
        have c75b0 : decide (a0_2 < (l1.length : Int)) = true := decide_eq_true c75
        clear c75
        by_cases c76 : 0 ≤ a0_1
        ·
         rw [if_pos c76] at H
         have c76b0 : decide (0 ≤ a0_1) = true := decide_eq_true c76
         clear c76
         by_cases c77 : a0_1 < (l1.length : Int)
         ·
          rw [if_pos c77] at H
          have c77b0 : decide (a0_1 < (l1.length : Int)) = true := decide_eq_true c77
          clear c77
          by_cases c78 : (rd l1 a0_2) = (rd l1 a0_1)
          ·
           rw [if_pos c78] at H
           have c78b0 : ((rd l1 a0_2) == (rd l1 a0_1)) = true := beq_iff_eq.mpr c78
           have c78b1 : ((rd l1 a0_2) != (rd l1 a0_1)) = false := bne_eq_false_iff_eq.mpr c78
           clear c78
           obtain rfl := Option.some.inj H
           try go_wp2
           have n0_ := mk_ (aU BK233.out)
           have n1_ := mk_ (cQ HB.out)
           clear BK233 HB
           revert n0_ n1_
           intro BK233 HB
           have p248 : 0 ≤ (a0_2 : Int) := of_decide_eq_true z4_
           have q248 : a0_2 < (l1.length : Int) := of_decide_eq_true z4_
           obtain ⟨ad248, e248, hx248_0⟩ := Kd.at_int HR1.out a0_2 p248 q248
           have hw248_0 := hx248_0
           cases e248
           replace hx248_0 := up_ HB hx248_0
           replace p248 := eq_true p248
           replace q248 := eq_true q248
           have p249 : 0 ≤ (a0_1 : Int) := of_decide_eq_true z4_
           have q249 : a0_1 < (l1.length : Int) := of_decide_eq_true z4_
           obtain ⟨ad249, e249, hx249_0⟩ := Kd.at_int HR1.out a0_1 p249 q249
           have hw249_0 := hx249_0
           obtain rfl : ad248 = ad249 := (by injection e249)
           replace hx249_0 := up_ HB hx249_0
           replace p249 := eq_true p249
           replace q249 := eq_true q249
           refine dX (n := 31) (S := fun w' => w'.cell? ⟨gb233, 0, none⟩ = some (.int .i64 a0_0) ∧ w'.cell? ⟨gb233, 1, none⟩ = some (.int .i64 a0_1) ∧ w'.cell? ⟨gb233, 2, none⟩ = some (.int .i64 a0_2) ∧ w'.cell? ⟨gb233, 3, none⟩ = some (.int .i64 a0_3) ∧ w'.cell? ⟨gb233, 4, none⟩ = some (.int .i64 a0_4) ∧ w'.cell? ⟨gb233, 5, none⟩ = some (.string a0_5) ∧ w'.cell? (ad248.add (a0_2).toNat) = some (.int .i64 (rd l1 a0_2)) ∧ w'.cell? (ad248.add (a0_1).toNat) = some (.int .i64 (rd l1 a0_1))) (ds := []) (Steps.Bs 31 0) z1_ rfl rfl ⟨kc_ BK233 0, kc_ BK233 1, kc_ BK233 2, kc_ BK233 3, kc_ BK233 4, kc_ BK233 5, ((HB.out.cell (World.block_lt_of_cell? w _ hw248_0)).trans hw248_0), ((HB.out.cell (World.block_lt_of_cell? w _ hw249_0)).trans hw249_0)⟩ (fun hHeld => ?_); refine dB pred_Check.tab4 pred_Check.bits4 (fun HT_ HW_ => ?_)
           generalize wc.drew = w79 at BK233 HB hx248_0 hx249_0 hHeld ⊢
           refine tT HT_ HW_ hHeld 0 46 31 1 ?_
           refine one_ (i := 1) (N := some 47) (Steps.Bs 31 3) rfl rfl (dA HT_.out z1_) z10_ (fun K hK => ?_)
           refine goes_ Try.func67 z1_ rfl #[.agg #[.int .i64 a0_0, .int .i64 a0_1, .int .i64 a0_2, .int .i64 a0_3, .int .i64 a0_4, .string a0_5]] z12_ rfl rfl z6_ ?_
           with_reducible refine (cI.calls a0_0 a0_1 a0_2 a0_3 a0_4 a0_5 false _ A46.out).mono ?_
           rintro e w80 ⟨rfl, hb⟩
           refine ⟨_, rfl, ?_⟩
           have n0_ := mk_ (bB_ BK233 hb)
           have n1_ := mk_ (aG (Short.hB HB) hb)
           clear BK233 HB
           revert n0_ n1_
           intro BK233 HB
           (try clear hb)
           (try clear hb2)
           (try clear hk)
           (try clear hi)
           refine hK.out _ _ ⟨kc_ BK233 0, kc_ BK233 1, kc_ BK233 2, kc_ BK233 3, kc_ BK233 4, kc_ BK233 5, ((HB.out.cell (World.block_lt_of_cell? w _ hw248_0)).trans hw248_0), ((HB.out.cell (World.block_lt_of_cell? w _ hw249_0)).trans hw249_0)⟩ (fun hHeld => ?_)
           clear hK K
           refine nrm 47 ?_
           refine tI HT_ 2 48 31 7 ?_
           refine tR HT_ 3 49 31 15 ?_
           refine tR HT_ 4 50 31 31 ?_
           refine tR HT_ 5 51 31 63 ?_
           refine tR HT_ 6 52 31 127 ?_
           refine tR HT_ 7 53 31 255 ?_
           refine tR HT_ 8 54 31 511 ?_
           refine tR HT_ 9 55 31 1023 ?_
           refine tR HT_ 10 56 31 2047 ?_
           refine tR HT_ 11 57 31 4095 ?_
           refine tI HT_ 12 58 31 8191 ?_
           refine tI HT_ 13 59 31 16383 ?_
           refine tT HT_ HW_ hHeld 14 60 31 32767 ?_
           refine one_ (i := 15) (N := some 61) (Steps.Bs 31 65535) rfl rfl (dA HT_.out z1_) z10_ (fun K hK => ?_)
           refine goes_ Try.func66 z1_ rfl #[.agg #[.int .i64 a0_0, .int .i64 a0_1, .int .i64 a0_2, .int .i64 a0_3, .int .i64 a0_4, .string a0_5]] z12_ rfl rfl z6_ ?_
           with_reducible refine (cO.calls a0_0 a0_1 a0_2 a0_3 a0_4 a0_5 true _ A72.out).mono ?_
           rintro e w81 ⟨rfl, hb⟩
           refine ⟨_, rfl, ?_⟩
           have n0_ := mk_ (bB_ BK233 hb)
           have n1_ := mk_ (aG (Short.hB HB) hb)
           clear BK233 HB
           revert n0_ n1_
           intro BK233 HB
           (try clear hb)
           (try clear hb2)
           (try clear hk)
           (try clear hi)
           refine hK.out _ _ ⟨kc_ BK233 0, kc_ BK233 1, kc_ BK233 2, kc_ BK233 3, kc_ BK233 4, kc_ BK233 5, ((HB.out.cell (World.block_lt_of_cell? w _ hw248_0)).trans hw248_0), ((HB.out.cell (World.block_lt_of_cell? w _ hw249_0)).trans hw249_0)⟩ (fun hHeld => ?_)
           clear hK K
           refine nrm 61 ?_
           refine tI HT_ 16 62 31 131071 ?_
           refine tI HT_ 17 63 31 262143 ?_
           refine tI HT_ 18 64 31 524287 ?_
           refine tI HT_ 22 68 31 4718591 ?_
           refine tI HT_ 23 69 31 13107199 ?_
           refine tT HT_ HW_ hHeld 19 65 31 13631487 ?_
           refine tI HT_ 20 66 31 14680063 ?_
           refine tT HT_ HW_ hHeld 21 67 31 16777215 ?_
           refine tT HT_ HW_ hHeld 24 70 31 33554431 ?_
           refine tI HT_ 25 71 31 67108863 ?_
           refine tT HT_ HW_ hHeld 26 72 31 134217727 ?_
           refine tI HT_ 27 73 31 268435455 ?_
           refine tI HT_ 28 74 31 536870911 ?_
           refine tI HT_ 29 75 31 1073741823 ?_
           refine tI HT_ 30 45 31 2147483647 ?_
           refine done_ (dT HT_.out z1_) ?_
           try go_wp2
           go_ret
           exact ⟨q0, Short.hB HB⟩
          ·
           rw [if_neg c78] at H
           have c78b0 : ((rd l1 a0_2) == (rd l1 a0_1)) = false := beq_eq_false_iff_ne.mpr c78
           have c78b1 : ((rd l1 a0_2) != (rd l1 a0_1)) = true := bne_iff_ne.mpr c78
           obtain rfl := Option.some.inj H
           try go_wp2
           have n0_ := mk_ (aU BK233.out)
           have n1_ := mk_ (cQ HB.out)
           clear BK233 HB
           revert n0_ n1_
           intro BK233 HB
           have p248 : 0 ≤ (a0_2 : Int) := of_decide_eq_true z4_
           have q248 : a0_2 < (l1.length : Int) := of_decide_eq_true z4_
           obtain ⟨ad248, e248, hx248_0⟩ := Kd.at_int HR1.out a0_2 p248 q248
           have hw248_0 := hx248_0
           cases e248
           replace hx248_0 := up_ HB hx248_0
           replace p248 := eq_true p248
           replace q248 := eq_true q248
           have p249 : 0 ≤ (a0_1 : Int) := of_decide_eq_true z4_
           have q249 : a0_1 < (l1.length : Int) := of_decide_eq_true z4_
           obtain ⟨ad249, e249, hx249_0⟩ := Kd.at_int HR1.out a0_1 p249 q249
           have hw249_0 := hx249_0
           obtain rfl : ad248 = ad249 := (by injection e249)
           replace hx249_0 := up_ HB hx249_0
           replace p249 := eq_true p249
           replace q249 := eq_true q249
           refine dX (n := 31) (S := fun w' => w'.cell? ⟨gb233, 0, none⟩ = some (.int .i64 a0_0) ∧ w'.cell? ⟨gb233, 1, none⟩ = some (.int .i64 a0_1) ∧ w'.cell? ⟨gb233, 2, none⟩ = some (.int .i64 a0_2) ∧ w'.cell? ⟨gb233, 3, none⟩ = some (.int .i64 a0_3) ∧ w'.cell? ⟨gb233, 4, none⟩ = some (.int .i64 a0_4) ∧ w'.cell? ⟨gb233, 5, none⟩ = some (.string a0_5) ∧ w'.cell? (ad248.add (a0_2).toNat) = some (.int .i64 (rd l1 a0_2)) ∧ w'.cell? (ad248.add (a0_1).toNat) = some (.int .i64 (rd l1 a0_1))) (ds := []) (Steps.Bs 31 0) z1_ rfl rfl ⟨kc_ BK233 0, kc_ BK233 1, kc_ BK233 2, kc_ BK233 3, kc_ BK233 4, kc_ BK233 5, ((HB.out.cell (World.block_lt_of_cell? w _ hw248_0)).trans hw248_0), ((HB.out.cell (World.block_lt_of_cell? w _ hw249_0)).trans hw249_0)⟩ (fun hHeld => ?_); refine dB pred_Check.tab4 pred_Check.bits4 (fun HT_ HW_ => ?_)
           generalize wc.drew = w82 at BK233 HB hx248_0 hx249_0 hHeld ⊢
           refine tT HT_ HW_ hHeld 0 46 31 1 ?_
           refine one_ (i := 1) (N := some 47) (Steps.Bs 31 3) rfl rfl (dA HT_.out z1_) z10_ (fun K hK => ?_)
           refine goes_ Try.func67 z1_ rfl #[.agg #[.int .i64 a0_0, .int .i64 a0_1, .int .i64 a0_2, .int .i64 a0_3, .int .i64 a0_4, .string a0_5]] z12_ rfl rfl z6_ ?_
           with_reducible refine (cI.calls a0_0 a0_1 a0_2 a0_3 a0_4 a0_5 false _ A46.out).mono ?_
           rintro e w83 ⟨rfl, hb⟩
           refine ⟨_, rfl, ?_⟩
           have n0_ := mk_ (bB_ BK233 hb)
           have n1_ := mk_ (aG (Short.hB HB) hb)
           clear BK233 HB
           revert n0_ n1_
           intro BK233 HB
           (try clear hb)
           (try clear hb2)
           (try clear hk)
           (try clear hi)
           refine hK.out _ _ ⟨kc_ BK233 0, kc_ BK233 1, kc_ BK233 2, kc_ BK233 3, kc_ BK233 4, kc_ BK233 5, ((HB.out.cell (World.block_lt_of_cell? w _ hw248_0)).trans hw248_0), ((HB.out.cell (World.block_lt_of_cell? w _ hw249_0)).trans hw249_0)⟩ (fun hHeld => ?_)
           clear hK K
           refine nrm 47 ?_
           refine tI HT_ 2 48 31 7 ?_
           refine tR HT_ 3 49 31 15 ?_
           refine tR HT_ 4 50 31 31 ?_
           refine tR HT_ 5 51 31 63 ?_
           refine tR HT_ 6 52 31 127 ?_
           refine tR HT_ 7 53 31 255 ?_
           refine tR HT_ 8 54 31 511 ?_
           refine tR HT_ 9 55 31 1023 ?_
           refine tR HT_ 10 56 31 2047 ?_
           refine tR HT_ 11 57 31 4095 ?_
           refine tI HT_ 12 58 31 8191 ?_
           refine tI HT_ 13 59 31 16383 ?_
           refine tT HT_ HW_ hHeld 14 60 31 32767 ?_
           refine one_ (i := 15) (N := some 61) (Steps.Bs 31 65535) rfl rfl (dA HT_.out z1_) z10_ (fun K hK => ?_)
           refine goes_ Try.func66 z1_ rfl #[.agg #[.int .i64 a0_0, .int .i64 a0_1, .int .i64 a0_2, .int .i64 a0_3, .int .i64 a0_4, .string a0_5]] z12_ rfl rfl z6_ ?_
           with_reducible refine (cO.calls a0_0 a0_1 a0_2 a0_3 a0_4 a0_5 true _ A72.out).mono ?_
           rintro e w84 ⟨rfl, hb⟩
           refine ⟨_, rfl, ?_⟩
           have n0_ := mk_ (bB_ BK233 hb)
           have n1_ := mk_ (aG (Short.hB HB) hb)
           clear BK233 HB
           revert n0_ n1_
           intro BK233 HB
           (try clear hb)
           (try clear hb2)
           (try clear hk)
           (try clear hi)
           refine hK.out _ _ ⟨kc_ BK233 0, kc_ BK233 1, kc_ BK233 2, kc_ BK233 3, kc_ BK233 4, kc_ BK233 5, ((HB.out.cell (World.block_lt_of_cell? w _ hw248_0)).trans hw248_0), ((HB.out.cell (World.block_lt_of_cell? w _ hw249_0)).trans hw249_0)⟩ (fun hHeld => ?_)
           clear hK K
           refine nrm 61 ?_
           refine tI HT_ 16 62 31 131071 ?_
           refine tI HT_ 17 63 31 262143 ?_
           refine tI HT_ 18 64 31 524287 ?_
           refine tI HT_ 22 68 31 4718591 ?_
           refine tI HT_ 23 69 31 13107199 ?_
           refine tT HT_ HW_ hHeld 19 65 31 13631487 ?_
           refine tI HT_ 20 66 31 14680063 ?_
           refine tT HT_ HW_ hHeld 21 67 31 16777215 ?_
           refine tT HT_ HW_ hHeld 24 70 31 33554431 ?_
           refine tI HT_ 25 71 31 67108863 ?_
           refine tT HT_ HW_ hHeld 26 72 31 134217727 ?_
           refine tI HT_ 27 73 31 268435455 ?_
           refine tI HT_ 28 74 31 536870911 ?_
           refine tI HT_ 29 75 31 1073741823 ?_
           refine tI HT_ 30 45 31 2147483647 ?_
           refine done_ (dT HT_.out z1_) ?_
           try go_wp2
           go_ret
           exact ⟨q0, Short.hB HB⟩
         ·
          rw [if_neg c77] at H
          exact absurd H (by simp)
        ·
         rw [if_neg c76] at H
         exact absurd H (by simp)
       ·
        rw [if_neg c75] at H
        exact absurd H (by simp)
      ·
       rw [if_neg c74] at H
       exact absurd H (by simp)
     ·
      replace c73 := Bool.eq_false_iff.mpr c73
      subst c73
      rw [if_neg (show ¬ (false = true) by decide)] at H
      obtain rfl := Option.some.inj H
      try go_wp2
      have n0_ := mk_ (aU BK233.out)
      have n1_ := mk_ (cQ HB.out)
      clear BK233 HB
      revert n0_ n1_
      intro BK233 HB
      refine dX (n := 31) (S := fun w' => w'.cell? ⟨gb233, 0, none⟩ = some (.int .i64 a0_0) ∧ w'.cell? ⟨gb233, 1, none⟩ = some (.int .i64 a0_1) ∧ w'.cell? ⟨gb233, 2, none⟩ = some (.int .i64 a0_2) ∧ w'.cell? ⟨gb233, 3, none⟩ = some (.int .i64 a0_3) ∧ w'.cell? ⟨gb233, 4, none⟩ = some (.int .i64 a0_4) ∧ w'.cell? ⟨gb233, 5, none⟩ = some (.string a0_5)) (ds := []) (Steps.Bs 31 0) z1_ rfl rfl ⟨kc_ BK233 0, kc_ BK233 1, kc_ BK233 2, kc_ BK233 3, kc_ BK233 4, kc_ BK233 5⟩ (fun hHeld => ?_); refine dB pred_Check.tab4 pred_Check.bits4 (fun HT_ HW_ => ?_)
      generalize wc.drew = w85 at BK233 HB hHeld ⊢
      refine tT HT_ HW_ hHeld 0 46 31 1 ?_
      refine one_ (i := 1) (N := some 47) (Steps.Bs 31 3) rfl rfl (dA HT_.out z1_) z10_ (fun K hK => ?_)
      refine goes_ Try.func67 z1_ rfl #[.agg #[.int .i64 a0_0, .int .i64 a0_1, .int .i64 a0_2, .int .i64 a0_3, .int .i64 a0_4, .string a0_5]] z12_ rfl rfl z6_ ?_
      with_reducible refine (cI.calls a0_0 a0_1 a0_2 a0_3 a0_4 a0_5 false _ A46.out).mono ?_
      rintro e w86 ⟨rfl, hb⟩
      refine ⟨_, rfl, ?_⟩
      have n0_ := mk_ (bB_ BK233 hb)
      have n1_ := mk_ (aG (Short.hB HB) hb)
      clear BK233 HB
      revert n0_ n1_
      intro BK233 HB
      (try clear hb)
      (try clear hb2)
      (try clear hk)
      (try clear hi)
      refine hK.out _ _ ⟨kc_ BK233 0, kc_ BK233 1, kc_ BK233 2, kc_ BK233 3, kc_ BK233 4, kc_ BK233 5⟩ (fun hHeld => ?_)
      clear hK K
      refine nrm 47 ?_
      refine tI HT_ 2 48 31 7 ?_
      refine tR HT_ 3 49 31 15 ?_
      refine tR HT_ 4 50 31 31 ?_
      refine tR HT_ 5 51 31 63 ?_
      refine tR HT_ 6 52 31 127 ?_
      refine tR HT_ 7 53 31 255 ?_
      refine tR HT_ 8 54 31 511 ?_
      refine tR HT_ 9 55 31 1023 ?_
      refine tR HT_ 10 56 31 2047 ?_
      refine tR HT_ 11 57 31 4095 ?_
      refine tI HT_ 12 58 31 8191 ?_
      refine tI HT_ 13 59 31 16383 ?_
      refine tT HT_ HW_ hHeld 14 60 31 32767 ?_
      refine one_ (i := 15) (N := some 61) (Steps.Bs 31 65535) rfl rfl (dA HT_.out z1_) z10_ (fun K hK => ?_)
      refine goes_ Try.func66 z1_ rfl #[.agg #[.int .i64 a0_0, .int .i64 a0_1, .int .i64 a0_2, .int .i64 a0_3, .int .i64 a0_4, .string a0_5]] z12_ rfl rfl z6_ ?_
      with_reducible refine (cO.calls a0_0 a0_1 a0_2 a0_3 a0_4 a0_5 false _ A72.out).mono ?_
      rintro e w87 ⟨rfl, hb⟩
      refine ⟨_, rfl, ?_⟩
      have n0_ := mk_ (bB_ BK233 hb)
      have n1_ := mk_ (aG (Short.hB HB) hb)
      clear BK233 HB
      revert n0_ n1_
      intro BK233 HB
      (try clear hb)
      (try clear hb2)
      (try clear hk)
      (try clear hi)
      refine hK.out _ _ ⟨kc_ BK233 0, kc_ BK233 1, kc_ BK233 2, kc_ BK233 3, kc_ BK233 4, kc_ BK233 5⟩ (fun hHeld => ?_)
      clear hK K
      refine nrm 61 ?_
      refine tI HT_ 16 62 31 131071 ?_
      refine tR HT_ 17 63 31 262143 ?_
      refine tR HT_ 18 64 31 524287 ?_
      refine tR HT_ 19 65 31 1048575 ?_
      refine tR HT_ 20 66 31 2097151 ?_
      refine tR HT_ 21 67 31 4194303 ?_
      refine tR HT_ 22 68 31 8388607 ?_
      refine tR HT_ 23 69 31 16777215 ?_
      refine tR HT_ 24 70 31 33554431 ?_
      refine tR HT_ 25 71 31 67108863 ?_
      refine tR HT_ 26 72 31 134217727 ?_
      refine tR HT_ 27 73 31 268435455 ?_
      refine tI HT_ 28 74 31 536870911 ?_
      refine tI HT_ 29 75 31 1073741823 ?_
      refine tI HT_ 30 45 31 2147483647 ?_
      refine done_ (dT HT_.out z1_) ?_
      try go_wp2
      go_ret
      exact ⟨q0, Short.hB HB⟩
end Go.Proofs.Ytimbbaoodjhdoaa.PAll
end
