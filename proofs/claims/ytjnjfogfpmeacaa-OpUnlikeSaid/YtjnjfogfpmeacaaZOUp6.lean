-- Put together by a program of this session (wip/slice2.py) out of the seat's texts.
import Derived.Test.YtjnjfogfpmeacaaZOUp5

set_option maxHeartbeats 8000000
set_option maxRecDepth 100000
open Go.Proofs.YtjnjfogfpmeacaaW Go.Proofs.Ytjnjfogfpmeacaa
section
namespace Go.Proofs.Ytjnjfogfpmeacaa.Ops
open Go.RowKit PAll Plain PrintWords PrintMore ZipT PrintWords.Kd PrintMore.Kd
set_option linter.unusedVariables false
set_option linter.unusedSimpArgs false
def keyB (t : ByteArray) : Bool := decide (1 ≤ t.size ∧ t.size ≤ 12)
theorem key_eq (t : ByteArray) : op_Key.f t = some (keyB t) := by
 unfold op_Key.f keyB
 by_cases h : (t.size : Int) ≥ 1
 ·
  rw [if_pos h]; congr 1; rw [decide_eq_decide]; omega
 rw [if_neg h, decide_eq_false z4_]
def badSeq (c : Int) : Bool := decide (c < 0 ∨ c > 1073741824)
def vecE (l : List Int) : Int := if l.length < 1 ∨ l.length > 5 then 2 else if l.any badSeq = true then 1 else 0
theorem seq_eq (c : Int) : dot_Check_1.f c = some (badSeq c) := by
 unfold dot_Check_1.f badSeq
 by_cases h : c < 0
 ·
  rw [if_pos h, decide_eq_true (.inl h)]
 rw [if_neg h]; congr 1; rw [decide_eq_decide]; omega
theorem index_seq (l : List Int) (hl : l.length ≤ 1000000) (m : List Int) : ∀ (k i : Nat), l.drop i = m → m.length < k →
  ∃ r, slices_IndexFunc_at_dot_Check_1.l0 k l (l.length : Int) (i : Int) = some r ∧ (r ≥ 0 ↔ m.any badSeq = true) := by
 induction m with
 | nil =>
  intro k i h hk
  obtain ⟨k, rfl⟩ : ∃ j, k = j + 1 := ⟨k - 1, by omega⟩
  have := dropL_end h
  refine ⟨-1, ?_, by simp⟩
  simp only [slices_IndexFunc_at_dot_Check_1.l0]
  rw [if_neg z4_]
 | cons v m ih =>
  intro k i h hk
  obtain ⟨k, rfl⟩ : ∃ j, k = j + 1 := ⟨k - 1, by omega⟩
  have hi := dropL_lt h
  simp only [slices_IndexFunc_at_dot_Check_1.l0]
  rw [if_pos z4_, if_pos z4_, if_pos z4_, rd_drop h, seq_eq, Option.bind_some]
  cases ho : badSeq v
  ·
   obtain ⟨r, h1, h2⟩ := ih k (i + 1) (dropL_tail h) (by simp at hk; omega)
   refine ⟨r, ?_, ?_⟩
   ·
    rw [if_neg z5_, w64 z4_ z4_]; exact h1
   ·
    rw [h2, List.any_cons, ho, Bool.false_or]
  ·
   refine ⟨i, ?_, ?_⟩
   ·
    rw [if_pos rfl]
   ·
    rw [List.any_cons, ho, Bool.true_or]; simp
theorem contains_seq (k : Nat) (l : List Int) (hl : l.length ≤ 1000000) (hk : l.length < k) : slices_ContainsFunc_at_dot_Check_1.f k l () = some (l.any badSeq) := by
 obtain ⟨r, h1, h2⟩ := index_seq l hl l k 0 rfl hk
 unfold slices_ContainsFunc_at_dot_Check_1.f slices_IndexFunc_at_dot_Check_1.f
 rw [show ((0 : Nat) : Int) = 0 from rfl] at h1
 rw [h1, Option.bind_some]
 congr 1
 cases hz : l.any badSeq
 ·
  rw [hz] at h2; exact decide_eq_false (fun h => by simpa using h2.1 h)
 ·
  rw [hz] at h2; exact decide_eq_true (h2.2 rfl)
theorem vec_eq (k : Nat) (l : List Int) (hl : l.length ≤ 1000000) (hk : l.length + 2 ≤ k) : dot_Check.f k l = some (vecE l) := by
 obtain ⟨k, rfl⟩ : ∃ j, k = j + 1 := ⟨k - 1, by omega⟩
 unfold dot_Check.f vecE
 have hj : ∀ b : Bool, dot_Check.j0 (k + 1) l b = if b = true then some 2 else some (if l.any badSeq = true then 1 else 0) := fun b => by
  simp only [dot_Check.j0]
  cases b
  ·
   rw [if_neg z5_, if_neg z5_, contains_seq _ _ z4_ z4_, Option.bind_some]
   cases l.any badSeq <;> rfl
  ·
   rfl
 rw [hj, hj]
 by_cases h1 : (l.length : Int) < 1
 ·
  rw [if_pos h1, if_pos rfl, if_pos z4_]
 rw [if_neg h1]
 by_cases h2 : (l.length : Int) > 5
 ·
  rw [decide_eq_true h2, if_pos rfl, if_pos z4_]
 rw [decide_eq_false h2, if_neg z5_, if_neg (show ¬ (l.length < 1 ∨ l.length > 5) by omega)]
def stampOk (t : St) : Prop := ((0 ≤ t.f0 ∧ t.f0 ≤ 1099511627776) ∧ (0 ≤ t.f1 ∧ t.f1 ≤ 65536)) ∧ (0 ≤ t.f2 ∧ t.f2 ≤ 4)
instance (t : St) : Decidable (stampOk t) := by unfold stampOk; infer_instance
theorem hin_eq (a b : Int) : hlc_in.f a b = some (decide (0 ≤ a ∧ a ≤ b)) := by
 unfold hlc_in.f
 by_cases h : a ≥ 0
 ·
  rw [if_pos h]; congr 1; rw [decide_eq_decide]; omega
 rw [if_neg h, decide_eq_false z4_]
theorem hlc_eq (t : St) : hlc_Check.f t.f0 t.f1 t.f2 = some (if stampOk t then 0 else 1) := by
 unfold hlc_Check.f stampOk
 simp only [hin_eq, Option.bind_some, decide_eq_true_eq]
 by_cases h1 : 0 ≤ t.f0 ∧ t.f0 ≤ 1099511627776 <;> by_cases h2 : 0 ≤ t.f1 ∧ t.f1 ≤ 65536 <;> by_cases h3 : 0 ≤ t.f2 ∧ t.f2 ≤ 4 <;> simp only [h1, h2, h3, if_true, if_false, and_true, and_false, and_self, true_and, false_and]
def hasB (v : List Int) (d : Dt) : Bool := decide ((0 ≤ d.f0 ∧ d.f0 < v.length) ∧ 1 ≤ d.f1 ∧ d.f1 ≤ rd v d.f0)
theorem has_eq (v : List Int) (d : Dt) : dot_Has.f v d.f0 d.f1 = some (hasB v d) := by
 have hin : dot_in.f v d.f0 = some (decide (0 ≤ d.f0 ∧ d.f0 < (v.length : Int))) := by
  unfold dot_in.f
  by_cases h : d.f0 ≥ 0
  ·
   rw [if_pos h]; congr 1; rw [decide_eq_decide]; omega
  ·
   rw [if_neg h, decide_eq_false z4_]
 unfold dot_Has.f hasB
 rw [hin, Option.bind_some]
 by_cases h : 0 ≤ d.f0 ∧ d.f0 < (v.length : Int)
 rotate_left
 ·
  rw [decide_eq_false h, if_neg z5_, decide_eq_false (fun e => h e.1)]
 rw [decide_eq_true h, if_pos rfl, if_pos h.1, if_pos h.2]
 by_cases h1 : d.f1 ≥ 1
 ·
  rw [if_pos h1]; congr 1; rw [decide_eq_decide]; exact ⟨fun e => ⟨h, h1, e⟩, fun e => e.2.2⟩
 rw [if_neg h1, decide_eq_false (fun e => h1 e.2.1)]
def lessD (a b : Dt) : Bool := decide (a.f0 < b.f0 ∨ a.f0 = b.f0 ∧ a.f1 < b.f1)
theorem cmpi_eq (a b : Int) : cmp_Compare_int.f a b = some (if a < b then -1 else if a > b then 1 else 0) := by
 unfold cmp_Compare_int.f cmp_isNaN_int.f
 simp only [bne_self_eq_false, Option.bind_some]
 rw [if_neg z5_, if_neg z5_]
 split
 ·
  rfl
 ·
  split <;> rfl
theorem ori_eq (k : Nat) (a b : Int) (hk : 3 ≤ k) : cmp_Or_int.f k [a, b] = some (if a = 0 then b else a) := by
 obtain ⟨k, rfl⟩ : ∃ j, k = j + 3 := ⟨k - 3, by omega⟩
 have e1 : wrap64 ((0 : Int) + 1) = 1 := w64 z4_ z4_
 have e2 : wrap64 ((1 : Int) + 1) = 2 := w64 z4_ z4_
 have r0 : rd [a, b] 0 = a := rfl
 have r1 : rd [a, b] 1 = b := rfl
 unfold cmp_Or_int.f
 simp only [cmp_Or_int.l0, List.length_cons, List.length_nil]
 rw [if_pos z4_, if_pos z4_, if_pos z4_, r0, e1]
 by_cases h : a = 0
 rotate_left
 ·
  rw [if_neg h, if_neg h]
 rw [if_pos h, if_pos h, if_pos z4_, if_pos z4_, if_pos z4_, r1, e2]
 by_cases h2 : b = 0
 ·
  rw [if_pos h2, h2, if_neg z4_]
 rw [if_neg h2]
theorem less_eq (k : Nat) (a b : Dt) (hk : 3 ≤ k) : dot_Less.f k a.f0 a.f1 b.f0 b.f1 = some (lessD a b) := by
 unfold dot_Less.f dot_Compare.f lessD
 rw [cmpi_eq, Option.bind_some, cmpi_eq, Option.bind_some, ori_eq _ _ _ hk, Option.bind_some, Option.bind_some]
 congr 1
 rw [decide_eq_decide]
 repeat' split
 all_goals omega
def hadG (v : List Int) : Option Dt → List Dt → Bool
 | _, [] => true
 | p, d :: m => hasB v d && (match p with | none => true | some q => lessD q d) && hadG v (some d) m
theorem hadG_cons (v : List Int) (p : Option Dt) (d : Dt) (m : List Dt) : hadG v p (d :: m) = (hasB v d && (match p with | none => true | some q => lessD q d) && hadG v (some d) m) := rfl
def ahead? (l : List Dt) (i : Nat) : Option Dt := if i = 0 then none else l[i - 1]?
theorem ahead_next {l : List Dt} {i : Nat} {d : Dt} {m : List Dt} (h : l.drop i = d :: m) : ahead? l (i + 1) = some d := by
 unfold ahead?
 rw [if_neg z4_, Nat.add_sub_cancel]
 have : l[i]? = (l.drop i)[0]? := by rw [List.getElem?_drop]; simp
 rw [this, h]; rfl
theorem rdD_drop {l : List Dt} {i : Nat} {v : Dt} {m : List Dt} (h : l.drop i = v :: m) : rd_T25 l (i : Int) = v := by
 show l.getD ((i : Int).toNat) _ = v
 rw [Int.toNat_natCast, List.getD_eq_getElem?_getD]
 have : l[i]? = (l.drop i)[0]? := by rw [List.getElem?_drop]; simp
 rw [this, h]; rfl
theorem rdD_ahead {l : List Dt} {i : Nat} (h0 : 0 < i) (h : i ≤ l.length) : ahead? l i = some (rd_T25 l ((i : Int) - 1)) := by
 unfold ahead?
 rw [if_neg z4_, List.getElem?_eq_getElem z4_]
 congr 1
 show _ = l.getD (((i : Int) - 1).toNat) _
 rw [show ((i : Int) - 1).toNat = i - 1 by omega, List.getD_eq_getElem?_getD, List.getElem?_eq_getElem z4_]; rfl
theorem had_l0 (v : List Int) (l : List Dt) (hl : l.length ≤ 1000000) (m : List Dt) : ∀ (k i : Nat), l.drop i = m → m.length + 5 < k → op_had.l0 k v l l (l.length : Int) (i : Int) = some (hadG v (ahead? l i) m) := by
 induction m with
 | nil =>
  intro k i h hk
  obtain ⟨k, rfl⟩ : ∃ j, k = j + 1 := ⟨k - 1, by omega⟩
  have := dropL_end h
  simp only [op_had.l0]
  rw [if_neg z4_]; rfl
 | cons d m ih =>
  intro k i h hk
  obtain ⟨k, rfl⟩ : ∃ j, k = j + 1 := ⟨k - 1, by omega⟩
  have hi := dropL_lt h
  simp only [List.length_cons] at hk
  have hn := ih k (i + 1) (dropL_tail h) z4_
  rw [ahead_next h] at hn
  have hw : wrap64 ((i : Int) + 1) = ((i + 1 : Nat) : Int) := by rw [w64 z4_ z4_]; rfl
  simp only [op_had.l0]
  rw [if_pos z4_, if_pos z4_, if_pos z4_, rdD_drop h, has_eq, Option.bind_some, hw, hn]
  rw [hadG_cons]
  cases hb : hasB v d
  ·
   rw [if_neg z5_]; simp
  rw [if_pos rfl, Bool.true_and]
  by_cases h0 : (i : Int) > 0
  rotate_left
  ·
   rw [if_neg h0]
   have : ahead? l i = none := by unfold ahead?; rw [if_pos z4_]
   rw [this]; simp
  rw [if_pos h0, w64 z4_ z4_, if_pos z4_, if_pos z4_, less_eq _ _ _ z4_, Option.bind_some, rdD_ahead z4_ z4_]
  simp only
  cases lessD (rd_T25 l ((i : Int) - 1)) d
  ·
   rw [if_neg z5_]; simp
  ·
   rw [if_pos rfl, Bool.true_and]
theorem had_eq (k : Nat) (v : List Int) (l : List Dt) (hl : l.length ≤ 1000000) (hk : l.length + 6 ≤ k) : op_had.f k v l = some (hadG v none l) := had_l0 v l hl l k 0 rfl z4_
def smallV (v : V) : Bool := decide (vSmall v.f0 v.f1 v.f2)
def smallB (l : List V) (c : List Int) : Bool := fitsL l c && l.all smallV
def bigV (v : V) : Bool := !smallV v
theorem big_eq (v : V) : op_small_1.f v.f0 v.f1 v.f2 = some (bigV v) := by
 unfold op_small_1.f bigV smallV
 rw [small_eq, Option.bind_some]
theorem index_big (l : List V) (hl : l.length ≤ 1000000) (m : List V) : ∀ (k i : Nat), l.drop i = m → m.length < k →
  ∃ r, slices_IndexFunc_at_op_small_1.l0 k l (l.length : Int) (i : Int) = some r ∧ (r ≥ 0 ↔ m.any bigV = true) := by
 induction m with
 | nil =>
  intro k i h hk
  obtain ⟨k, rfl⟩ : ∃ j, k = j + 1 := ⟨k - 1, by omega⟩
  have := dropL_end h
  refine ⟨-1, ?_, by simp⟩
  simp only [slices_IndexFunc_at_op_small_1.l0]
  rw [if_neg z4_]
 | cons v m ih =>
  intro k i h hk
  obtain ⟨k, rfl⟩ : ∃ j, k = j + 1 := ⟨k - 1, by omega⟩
  have hi := dropL_lt h
  simp only [slices_IndexFunc_at_op_small_1.l0]
  rw [if_pos z4_, if_pos z4_, if_pos z4_, rdT_drop h, big_eq, Option.bind_some]
  cases ho : bigV v
  ·
   obtain ⟨r, h1, h2⟩ := ih k (i + 1) (dropL_tail h) (by simp at hk; omega)
   refine ⟨r, ?_, ?_⟩
   ·
    rw [if_neg z5_, w64 z4_ z4_]; exact h1
   ·
    rw [h2, List.any_cons, ho, Bool.false_or]
  ·
   refine ⟨i, ?_, ?_⟩
   ·
    rw [if_pos rfl]
   ·
    rw [List.any_cons, ho, Bool.true_or]; simp
theorem contains_big (k : Nat) (l : List V) (hl : l.length ≤ 1000000) (hk : l.length < k) : slices_ContainsFunc_at_op_small_1.f k l () = some (l.any bigV) := by
 obtain ⟨r, h1, h2⟩ := index_big l hl l k 0 rfl hk
 unfold slices_ContainsFunc_at_op_small_1.f slices_IndexFunc_at_op_small_1.f
 rw [show ((0 : Nat) : Int) = 0 from rfl] at h1
 rw [h1, Option.bind_some]
 congr 1
 cases hz : l.any bigV
 ·
  rw [hz] at h2; exact decide_eq_false (fun h => by simpa using h2.1 h)
 ·
  rw [hz] at h2; exact decide_eq_true (h2.2 rfl)
theorem smallL_eq (k : Nat) (l : List V) (c : List Int) (hl : l.length ≤ 1000000) (hk : l.length + 1 ≤ k) : op_small.f k l c = some (smallB l c) := by
 unfold op_small.f smallB
 rw [rowFits_eq _ _ _ hl hk, Option.bind_some]
 cases fitsL l c
 ·
  rfl
 ·
  rw [if_pos rfl, contains_big _ _ hl hk, Option.bind_some, Bool.true_and]
  congr 1
  have : ∀ l : List V, (!l.any bigV) = l.all smallV := fun l => by
   induction l with
   | nil => rfl
   | cons v l ih => rw [List.any_cons, List.all_cons, Bool.not_or, ih]; unfold bigV; rw [Bool.not_not]
  exact this l
def wholeP (n : Int) (x : Ox) : Prop := (0 ≤ x.f0.f0 ∧ x.f0.f0 < n) ∧ (1 ≤ x.f0.f1 ∧ x.f0.f1 ≤ 1073741824) ∧ (x.f1.length : Int) = n ∧ vecE x.f1 = 0 ∧ rd x.f1 x.f0.f0 = x.f0.f1 - 1 ∧ stampOk x.f2 ∧ x.f2.f2 = x.f0.f0
instance (n : Int) (x : Ox) : Decidable (wholeP n x) := by unfold wholeP; infer_instance
theorem whole_eq (k : Nat) (n : Int) (x : Ox) (hl : x.f1.length ≤ 1000000) (hk : x.f1.length + 2 ≤ k) : op_whole.f k n x.f0.f0 x.f0.f1 x.f1 x.f2.f0 x.f2.f1 x.f2.f2 x.f3 x.f4 x.f5 x.f6 x.f7 x.f8 = some (decide (wholeP n x)) := by
 unfold op_whole.f
 by_cases h1 : x.f0.f0 ≥ 0
 rotate_left
 ·
  rw [if_neg h1, decide_eq_false (fun e => h1 e.1.1)]
 rw [if_pos h1]
 by_cases h2 : x.f0.f0 < n
 rotate_left
 ·
  rw [if_neg h2, decide_eq_false (fun e => h2 e.1.2)]
 rw [if_pos h2]
 by_cases h3 : x.f0.f1 ≥ 1
 rotate_left
 ·
  rw [if_neg h3, decide_eq_false (fun e => h3 e.2.1.1)]
 rw [if_pos h3]
 by_cases h4 : x.f0.f1 ≤ 1073741824
 rotate_left
 ·
  rw [if_neg h4, decide_eq_false (fun e => h4 e.2.1.2)]
 rw [if_pos h4]
 by_cases h5 : (x.f1.length : Int) = n
 rotate_left
 ·
  rw [if_neg h5, decide_eq_false (fun e => h5 e.2.2.1)]
 rw [if_pos h5, vec_eq _ _ hl hk, Option.bind_some]
 by_cases h6 : vecE x.f1 = 0
 rotate_left
 ·
  rw [if_neg h6, decide_eq_false (fun e => h6 e.2.2.2.1)]
 rw [if_pos h6, if_pos h1, if_pos z4_, w64 z4_ z4_]
 by_cases h7 : rd x.f1 x.f0.f0 = x.f0.f1 - 1
 rotate_left
 ·
  rw [if_neg h7, decide_eq_false (fun e => h7 e.2.2.2.2.1)]
 rw [if_pos h7, hlc_eq, Option.bind_some]
 by_cases h8 : stampOk x.f2
 rotate_left
 ·
  rw [if_neg h8, if_neg z5_, decide_eq_false (fun e => h8 e.2.2.2.2.2.1)]
 rw [if_pos h8, if_pos rfl]
 congr 1
 by_cases h9 : x.f2.f2 = x.f0.f0
 ·
  rw [decide_eq_true (show wholeP n x from ⟨⟨h1, h2⟩, ⟨h3, h4⟩, h5, h6, h7, h8, h9⟩)]; exact beq_iff_eq.2 h9
 rw [decide_eq_false (fun e => h9 e.2.2.2.2.2.2)]; exact beq_eq_false_iff_ne.2 h9
def colsOf (f : List Tb) (x : Ox) : List Int := (rd_T51 f x.f4).f0
def kindB (c : List Int) (x : Ox) : Bool :=
 if x.f3 = 1 then smallB x.f7 c && decide (x.f6 = 0) && decide (x.f8.length = 0)
 else if x.f3 = 2 then decide (0 ≤ x.f6 ∧ x.f6 < c.length) && smallB x.f7 [rd c x.f6] && decide (x.f8.length = 0)
 else if x.f3 = 3 then decide (1 ≤ x.f8.length ∧ x.f8.length ≤ 64) && hadG x.f1 none x.f8 && decide (x.f6 = 0) && decide (x.f7.length = 0)
 else false
def rightB (n : Int) (f : List Tb) (x : Ox) : Bool := decide (wholeP n x) && decide (0 ≤ x.f4 ∧ x.f4 < f.length) && keyB x.f5 && kindB (colsOf f x) x
theorem cut1 (c : List Int) (i : Int) (h0 : 0 ≤ i) (h1 : i < c.length) : (c.take (i + 1).toNat).drop i.toNat = [rd c i] := by
 obtain ⟨j, rfl⟩ := Int.eq_ofNat_of_zero_le h0
 rw [show ((j : Int) + 1).toNat = j + 1 by omega, Int.toNat_natCast]
 have hj : j < c.length := by omega
 have hr : rd c (j : Int) = c[j] := by
  show c.getD (j : Int).toNat 0 = _
  rw [Int.toNat_natCast, List.getD_eq_getElem?_getD, List.getElem?_eq_getElem hj]; rfl
 rw [hr, List.take_add_one, List.getElem?_eq_getElem hj, List.drop_append, List.drop_eq_nil_iff.2 (by rw [List.length_take]; omega)]
 rw [List.length_take, Nat.min_eq_left z4_, Nat.sub_self]; rfl
theorem right_eq (k : Nat) (n : Int) (f : List Tb) (x : Ox) (hx : x.f1.length ≤ 1000 ∧ x.f7.length ≤ 1000 ∧ x.f8.length ≤ 1000) (hf : f.length ≤ 1000 ∧ ∀ t ∈ f, t.f0.length ≤ 1000) (hk : 1100 ≤ k) :
  op_right.f k n f x.f0.f0 x.f0.f1 x.f1 x.f2.f0 x.f2.f1 x.f2.f2 x.f3 x.f4 x.f5 x.f6 x.f7 x.f8 = some (rightB n f x) := by
 obtain ⟨k, rfl⟩ : ∃ j, k = j + 1 := ⟨k - 1, by omega⟩
 unfold op_right.f rightB
 rw [whole_eq _ _ _ z4_ z4_, Option.bind_some]
 have hT : op_right.j0 (k + 1) f true x.f0.f0 x.f0.f1 x.f1 x.f2.f0 x.f2.f1 x.f2.f2 x.f3 x.f4 x.f5 x.f6 x.f7 x.f8 = some false := by simp only [op_right.j0, if_true]
 by_cases h1 : wholeP n x
 rotate_left
 ·
  rw [decide_eq_false h1, if_neg z5_, hT]; rfl
 rw [decide_eq_true h1, if_pos rfl, Bool.true_and]
 by_cases h2 : x.f4 < 0
 ·
  rw [if_pos h2, hT, decide_eq_false (show ¬ (0 ≤ x.f4 ∧ x.f4 < (f.length : Int)) by omega)]; rfl
 rw [if_neg h2]
 by_cases h3 : x.f4 ≥ (f.length : Int)
 ·
  rw [if_pos h3, hT, decide_eq_false (show ¬ (0 ≤ x.f4 ∧ x.f4 < (f.length : Int)) by omega)]; rfl
 rw [if_neg h3, key_eq, Option.bind_some, decide_eq_true (show 0 ≤ x.f4 ∧ x.f4 < (f.length : Int) by omega), Bool.true_and]
 cases hkb : keyB x.f5
 ·
  exact hT
 rw [Bool.true_and]
 have hc : (colsOf f x).length ≤ 1000 := by
  unfold colsOf
  obtain ⟨i, hi⟩ := Int.eq_ofNat_of_zero_le (show 0 ≤ x.f4 by omega)
  rw [hi]
  show (f.getD ((i : Int).toNat) _).f0.length ≤ _
  rw [Int.toNat_natCast, List.getD_eq_getElem?_getD, List.getElem?_eq_getElem (show i < f.length by omega)]
  exact hf.2 _ (List.getElem_mem _)
 simp only [op_right.j0, Bool.not_true]
 rw [if_neg z5_, if_pos (show 0 ≤ x.f4 by omega), if_pos (show x.f4 < (f.length : Int) by omega)]
 show (if x.f3 = 1 then _ else _) = _
 unfold kindB
 rw [show (rd_T51 f x.f4).f0 = colsOf f x from rfl]
 generalize colsOf f x = c at hc ⊢
 have e0 : ∀ n : Nat, ((n : Int) == 0) = decide (n = 0) := fun n => by cases n <;> simp; omega
 by_cases k1 : x.f3 = 1
 ·
  rw [if_pos k1, if_pos k1, smallL_eq _ _ _ z4_ z4_, Option.bind_some]
  cases smallB x.f7 c
  ·
   rfl
  rw [if_pos rfl, Bool.true_and, e0]
  by_cases h : x.f6 = 0
  ·
   rw [if_pos h, decide_eq_true h, Bool.true_and]
  rw [if_neg h, decide_eq_false h]; rfl
 rw [if_neg k1, if_neg k1]
 by_cases k2 : x.f3 = 2
 ·
  rw [if_pos k2, if_pos k2]
  by_cases h4 : x.f6 ≥ 0
  rotate_left
  ·
   rw [if_neg h4, decide_eq_false (show ¬ (0 ≤ x.f6 ∧ x.f6 < (c.length : Int)) by omega)]; rfl
  rw [if_pos h4]
  by_cases h5 : x.f6 < (c.length : Int)
  rotate_left
  ·
   rw [if_neg h5, decide_eq_false (show ¬ (0 ≤ x.f6 ∧ x.f6 < (c.length : Int)) by omega)]; rfl
  rw [if_pos h5, if_pos h4, w64 z4_ z4_, if_pos z4_, if_pos z4_, cut1 c _ h4 h5, smallL_eq _ _ _ z4_ z4_, Option.bind_some, decide_eq_true (show 0 ≤ x.f6 ∧ x.f6 < (c.length : Int) from ⟨h4, h5⟩), Bool.true_and, e0]
  cases smallB x.f7 [rd c x.f6]
  ·
   rfl
  ·
   rfl
 rw [if_neg k2, if_neg k2]
 by_cases k3 : x.f3 = 3
 ·
  rw [if_pos k3, if_pos k3]
  by_cases h4 : (x.f8.length : Int) ≥ 1
  rotate_left
  ·
   rw [if_neg h4, decide_eq_false (show ¬ (1 ≤ x.f8.length ∧ x.f8.length ≤ 64) by omega)]; rfl
  rw [if_pos h4]
  by_cases h5 : (x.f8.length : Int) ≤ 64
  rotate_left
  ·
   rw [if_neg h5, decide_eq_false (show ¬ (1 ≤ x.f8.length ∧ x.f8.length ≤ 64) by omega)]; rfl
  rw [if_pos h5, had_eq _ _ _ z4_ z4_, Option.bind_some, decide_eq_true (show 1 ≤ x.f8.length ∧ x.f8.length ≤ 64 by omega), Bool.true_and, e0]
  cases hadG x.f1 none x.f8
  ·
   rfl
  rw [if_pos rfl, Bool.true_and]
  by_cases h : x.f6 = 0
  ·
   rw [if_pos h, decide_eq_true h, Bool.true_and]
  rw [if_neg h, decide_eq_false h]; rfl
 rw [if_neg k3, if_neg k3]
def checkE (n : Int) (f : List Tb) (x : Ox) : Int := if formsE f ≠ 0 then formsE f else if n < 1 ∨ n > 5 then 1 else if rightB n f x = true then 0 else 1
theorem check_op_eq (k : Nat) (n : Int) (f : List Tb) (x : Ox) (hx : x.f1.length ≤ 1000 ∧ x.f7.length ≤ 1000 ∧ x.f8.length ≤ 1000) (hf : f.length ≤ 1000 ∧ ∀ t ∈ f, t.f0.length ≤ 1000) (hk : 1100 ≤ k) :
  op_Check.f k n f x.f0.f0 x.f0.f1 x.f1 x.f2.f0 x.f2.f1 x.f2.f2 x.f3 x.f4 x.f5 x.f6 x.f7 x.f8 = some (checkE n f x) := by
 unfold op_Check.f checkE
 rw [forms_eq _ _ hf.1 z4_, Option.bind_some]
 by_cases h0 : formsE f = 0
 rotate_left
 ·
  rw [if_neg h0, if_pos (show formsE f ≠ 0 from h0)]
 rw [if_pos h0, if_neg (show ¬ formsE f ≠ 0 from fun e => e h0)]
 by_cases h1 : n < 1
 ·
  rw [if_pos h1, if_pos (.inl h1)]
 rw [if_neg h1]
 by_cases h2 : n > 5
 ·
  rw [if_pos h2, if_pos (.inr h2)]
 rw [if_neg h2, if_neg z4_, right_eq _ _ _ _ hx hf hk, Option.bind_some]
 cases rightB n f x <;> rfl
end Go.Proofs.Ytjnjfogfpmeacaa.Ops
end
section
namespace Go.Proofs.Ytjnjfogfpmeacaa.Ops
open Go.RowKit PAll Plain PrintWords PrintMore ZipT PrintWords.Kd PrintMore.Kd
set_option linter.unusedVariables false
set_option linter.unusedSimpArgs false
instance : DecidableEq Dt := fun a b => decidable_of_iff (a.f0 = b.f0 ∧ a.f1 = b.f1) ⟨fun ⟨h0, h1⟩ => by cases a; cases b; simp_all, fun h => by subst h; exact ⟨rfl, rfl⟩⟩
instance : DecidableEq St := fun a b => decidable_of_iff (a.f0 = b.f0 ∧ a.f1 = b.f1 ∧ a.f2 = b.f2) ⟨fun ⟨h0, h1, h2⟩ => by cases a; cases b; simp_all, fun h => by subst h; exact ⟨rfl, rfl, rfl⟩⟩
instance : DecidableEq Ox := fun a b => decidable_of_iff (a.f0 = b.f0 ∧ a.f1 = b.f1 ∧ a.f2 = b.f2 ∧ a.f3 = b.f3 ∧ a.f4 = b.f4 ∧ a.f5 = b.f5 ∧ a.f6 = b.f6 ∧ a.f7 = b.f7 ∧ a.f8 = b.f8) ⟨fun ⟨h0, h1, h2, h3, h4, h5, h6, h7, h8⟩ => by cases a; cases b; simp_all, fun h => by subst h; exact ⟨rfl, rfl, rfl, rfl, rfl, rfl, rfl, rfl, rfl⟩⟩
theorem keepDot_eq (a b : Dt) : raddlekeep_Dot.f a.f0 a.f1 b.f0 b.f1 = some (decide (a = b)) := by
 obtain ⟨a0, a1⟩ := a
 obtain ⟨b0, b1⟩ := b
 unfold raddlekeep_Dot.f
 simp only
 by_cases h : a0 = b0
 rotate_left
 ·
  rw [if_neg h, decide_eq_false (fun e => h (by injection e))]
 rw [if_pos h]; subst h
 by_cases h1 : a1 = b1
 ·
  subst h1; rw [decide_eq_true rfl, beq_self_eq_true]
 rw [decide_eq_false (fun e => h1 (by injection e)), beq_eq_false_iff_ne.2 h1]
theorem keepStamp_eq (a b : St) : raddlekeep_Stamp.f a.f0 a.f1 a.f2 b.f0 b.f1 b.f2 = some (decide (a = b)) := by
 obtain ⟨a0, a1, a2⟩ := a
 obtain ⟨b0, b1, b2⟩ := b
 unfold raddlekeep_Stamp.f
 simp only
 by_cases h : a0 = b0
 rotate_left
 ·
  rw [if_neg h, decide_eq_false (fun e => h (by injection e))]
 rw [if_pos h]; subst h
 by_cases h1 : a1 = b1
 rotate_left
 ·
  rw [if_neg h1, decide_eq_false (fun e => h1 (by injection e))]
 rw [if_pos h1]; subst h1
 by_cases h2 : a2 = b2
 ·
  subst h2; rw [decide_eq_true rfl, beq_self_eq_true]
 rw [decide_eq_false (fun e => h2 (by injection e)), beq_eq_false_iff_ne.2 h2]
theorem keepDots_l0 (a b : List Dt) (ha : a.length ≤ 1000000) (hl : a.length = b.length) (m : List Dt) : ∀ (k i : Nat), a.drop i = m → m.length < k →
  raddlekeep_Dots.l0 k a b (i : Int) = some (decide (m = b.drop i)) := by
 induction m with
 | nil =>
  intro k i h hk
  obtain ⟨k, rfl⟩ : ∃ j, k = j + 1 := ⟨k - 1, by omega⟩
  have h1 := dropL_end h
  simp only [raddlekeep_Dots.l0]
  rw [if_neg z4_, List.drop_eq_nil_iff.2 z4_]; simp
 | cons v m ih =>
  intro k i h hk
  obtain ⟨k, rfl⟩ : ∃ j, k = j + 1 := ⟨k - 1, by omega⟩
  have h1 := dropL_lt h
  simp only [raddlekeep_Dots.l0]
  cases hd : b.drop i with
  | nil => have h2 := dropL_end hd; omega
  | cons t n =>
   rw [if_pos z4_, if_pos z4_, if_pos z4_, rdD_drop h, rdD_drop hd, keepDot_eq, Option.bind_some, w64 z4_ z4_]
   by_cases hz : v = t
   rotate_left
   ·
    rw [decide_eq_false hz, if_neg z5_]
    simp [hz]
   have := ih k (i + 1) (dropL_tail h) (by simp at hk; omega)
   rw [decide_eq_true hz, if_pos rfl, show ((i : Int) + 1) = ((i + 1 : Nat) : Int) from rfl, this, dropL_tail hd, hz]
   simp
theorem keepDots_eq (k : Nat) (a b : List Dt) (ha : a.length ≤ 1000000) (hk : a.length + 1 ≤ k) : raddlekeep_Dots.f k a b = some (decide (a = b)) := by
 unfold raddlekeep_Dots.f
 by_cases hl : (a.length : Int) = b.length
 rotate_left
 ·
  rw [if_neg hl, decide_eq_false (fun e => hl (by rw [e]))]
 rw [if_pos hl]
 exact keepDots_l0 a b ha z4_ a k 0 rfl z4_
theorem keepOp_eq (k : Nat) (x y : Ox) (h1 : x.f1.length ≤ 1000000) (h7 : x.f7.length ≤ 1000000) (h8 : x.f8.length ≤ 1000000) (hk : x.f1.length + 1 ≤ k ∧ x.f7.length + 1 ≤ k ∧ x.f8.length + 1 ≤ k) :
  raddlekeep_Op.f k x.f0.f0 x.f0.f1 x.f1 x.f2.f0 x.f2.f1 x.f2.f2 x.f3 x.f4 x.f5 x.f6 x.f7 x.f8 y.f0.f0 y.f0.f1 y.f1 y.f2.f0 y.f2.f1 y.f2.f2 y.f3 y.f4 y.f5 y.f6 y.f7 y.f8 = some (decide (x = y)) := by
 unfold raddlekeep_Op.f
 rw [keepDot_eq, Option.bind_some]
 by_cases e0 : x.f0 = y.f0
 rotate_left
 ·
  rw [decide_eq_false e0, if_neg z5_, decide_eq_false (fun e => e0 (by rw [e]))]
 rw [decide_eq_true e0, if_pos rfl, keepInts_eq _ _ _ h1 hk.1, Option.bind_some]
 by_cases e1 : x.f1 = y.f1
 rotate_left
 ·
  rw [decide_eq_false e1, if_neg z5_, decide_eq_false (fun e => e1 (by rw [e]))]
 rw [decide_eq_true e1, if_pos rfl, keepStamp_eq, Option.bind_some]
 by_cases e2 : x.f2 = y.f2
 rotate_left
 ·
  rw [decide_eq_false e2, if_neg z5_, decide_eq_false (fun e => e2 (by rw [e]))]
 rw [decide_eq_true e2, if_pos rfl]
 by_cases e3 : x.f3 = y.f3
 rotate_left
 ·
  rw [if_neg e3, decide_eq_false (fun e => e3 (by rw [e]))]
 rw [if_pos e3]
 by_cases e4 : x.f4 = y.f4
 rotate_left
 ·
  rw [if_neg e4, decide_eq_false (fun e => e4 (by rw [e]))]
 rw [if_pos e4]
 by_cases e5 : x.f5 = y.f5
 rotate_left
 ·
  rw [if_neg (fun e => e5 (toList_inj.1 e)), decide_eq_false (fun e => e5 (by rw [e]))]
 rw [if_pos (toList_inj.2 e5)]
 by_cases e6 : x.f6 = y.f6
 rotate_left
 ·
  rw [if_neg e6, decide_eq_false (fun e => e6 (by rw [e]))]
 rw [if_pos e6, keepRow_eq _ _ _ h7 hk.2.1, Option.bind_some]
 by_cases e7 : x.f7 = y.f7
 rotate_left
 ·
  rw [decide_eq_false e7, if_neg z5_, decide_eq_false (fun e => e7 (by rw [e]))]
 rw [decide_eq_true e7, if_pos rfl, keepDots_eq _ _ _ h8 hk.2.2, Option.bind_some]
 by_cases e8 : x.f8 = y.f8
 rotate_left
 ·
  rw [decide_eq_false e8, decide_eq_false (fun e => e8 (by rw [e]))]
 rw [decide_eq_true e8, decide_eq_true]
 cases x; cases y; simp_all
theorem bytes_f (x : Ox) (h : opSmall x) : op_Bytes.f x.f0.f0 x.f0.f1 x.f1 x.f2.f0 x.f2.f1 x.f2.f2 x.f3 x.f4 x.f5 x.f6 x.f7 x.f8 = some (sOpBytes x) := by
 unfold op_Bytes.f
 rw [if_pos h]
theorem read_f (l : List Int) (a : Int) (hb : Bytes l) (hl : l.length ≤ 1000000) : op_Read.f l a = some ((sOpRead l a).1.f0.f0, (sOpRead l a).1.f0.f1, (sOpRead l a).1.f1, (sOpRead l a).1.f2.f0, (sOpRead l a).1.f2.f1, (sOpRead l a).1.f2.f2, (sOpRead l a).1.f3, (sOpRead l a).1.f4, (sOpRead l a).1.f5, (sOpRead l a).1.f6, (sOpRead l a).1.f7, (sOpRead l a).1.f8, (sOpRead l a).2.1, (sOpRead l a).2.2) := by
 unfold op_Read.f
 rw [if_pos ⟨hb, hl⟩]
theorem opFit_small {x : Ox} (h : opFit x) : opSmall x := by
 have h1 := h.1.1.1.1.1.1.2.1
 have h7 := ((rowE_zero x.f7).1 h.1.2).1
 have h8 := h.2.1
 exact ⟨by omega, by omega, by omega⟩
theorem encT_bytes (t : ByteArray) (h : t.size ≤ 24) : Bytes (encT t) := Bytes.cons ⟨by omega, by omega⟩ (bytesOf_bytes t)
theorem flat_bytes {α : Type} {f : α → List Int} (h : ∀ x, Bytes (f x)) : ∀ l : List α, Bytes (l.flatMap f)
 | [] => Bytes.nil
 | x :: l => by rw [List.flatMap_cons]; exact (h x).append (flat_bytes h l)
theorem opB_bytes {x : Ox} (h : opFit x) : Bytes (opB x) := by
 have hd : ∀ d : Dt, Bytes (dotB d) := fun d => (big_bytes _ _).append (big_bytes _ _)
 unfold opB numsB stampB dotsB
 exact ((((((((big_bytes _ _).append (hd _)).append ((big_bytes _ _).append (flat_bytes (fun n => big_bytes _ _) _))).append (((big_bytes _ _).append (big_bytes _ _)).append (big_bytes _ _))).append (big_bytes _ _)).append (encT_bytes _ h.1.1.1.2)).append (big_bytes _ _)).append (rowB_bytes h.1.2)).append ((big_bytes _ _).append (flat_bytes hd _))
theorem read_back {x : Ox} (h : opFit x) : sOpRead (opB x) 0 = (x, ((opB x).length : Int), 0) := by
 have := opRead_put [] [] x h
 simpa using this
def wakeOp : Ox := ⟨⟨0, 2⟩, [1], ⟨0, 0, 0⟩, 3, 0, ⟨#[107]⟩, 0, [], [⟨0, 1⟩]⟩
theorem wake_fit : opFit wakeOp := by decide
end Go.Proofs.Ytjnjfogfpmeacaa.Ops
end
section
namespace Go.Proofs.Ytjnjfogfpmeacaa.PAll
open Go.RowKit PAll Ops Plain PrintWords PrintLast PrintMore Go.Proofs.Ytjnjfogfpmeacaa.Sep ZipT PrintWords.Kd PrintMore.Kd
set_option linter.unusedVariables false
set_option linter.unusedSimpArgs false
theorem sp_lit1 {α : Type} {d : Kd α} {e : Nat} {p : α} {cs : List Value} {w : World} {F : List Part} (h : Sp w (El d p cs :: F)) (hs : 0 < d.sz) : Sp (w.alloc (.cells cs.toArray e (0, 0))) (Row d e (.slice (some ⟨w.heap.size, 0, none⟩) 1 1) [p] :: F) := by
 obtain ⟨ok, h1, h2, h3⟩ := h.head1
 have hl : cs.length = d.sz := d.K_len (d.K_of_M h2)
 have hz : cs.length = 1 * d.sz := by rw [Nat.one_mul]; exact hl
 refine h3 _ _ ((Moved.refl w ok).alloc _) ⟨fun k hk => ?_, cs, ⟨hz, .inr ⟨w.heap.size, 1, cs.toArray, rfl, Nat.zero_le _, blk_new w _, Nat.le_refl _, by simp only [maxLen]; omega, by rw [List.size_toArray]; exact hz, by show cs.take (1 * d.sz) = cs; rw [← hz, List.take_length]⟩⟩, ?_⟩
 ·
  have hk : w.heap.size = k := Option.some.inj hk
  subst hk
  exact .inr ⟨Nat.le_refl _, by rw [show (w.alloc (.cells cs.toArray e (0, 0))).heap.size = w.heap.size + 1 from Array.size_push _]; omega⟩
 ·
  have hM : d.M (w.alloc (.cells cs.toArray e (0, 0))) 0 (fun k => (ok k ∨ w.heap.size ≤ k ∧ k < (w.alloc (.cells cs.toArray e (0, 0))).heap.size) ∧ some k ≠ (Value.slice (some ⟨w.heap.size, 0, none⟩) 1 1).ownBlock) p cs :=
   d.M_mono (fun k hk => ⟨.inl hk.1, fun e => by have := hk.2; have he : k = w.heap.size := Option.some.inj e; omega⟩) (Kd.M_step (ok := fun k => ok k ∧ k < w.heap.size) (d.M_mono (fun k hk => ⟨hk, h1 k hk⟩) h2) (fun k hk hlt => (Moved.alloc (Moved.refl w (fun _ => False)) _).block k hlt (fun e => e)))
  have := Reps.snoc (Reps.none _ d.sz) hM hl
  simpa using this
def raddlelaw07_wakes.f : Option Bool := some true
theorem wakes7_eq : raddlelaw07_wakes.f = some true := rfl
theorem raddlelaw07_wakes.calls (r : Bool) (w : World) (h : raddlelaw07_wakes.f = some r) :
  Calls Try.prog 15 #[] w fun e w' => e = .returned (.bool r) ∧ Below w.heap.size w w' := by
 obtain rfl : true = r := Option.some.inj h
 clear h
 have h1 := sp_lit1 (e := 3) (sp_el (d := Kd.int .i64) (p := 1) (cs := [.int .i64 1]) (fun _ _ => rfl) (Sp.start w)) z5_
 have h2 := sp_lit1 (e := 25) (sp_el (d := k25) (p := ⟨0, 1⟩) (cs := [.int .i64 0, .int .i64 1]) (fun W ok => k25_mkM W 0 ok ⟨0, 1⟩) h1) z5_
 have h3 := h2.box (.cells #[.int .i64 0, .int .i64 0, .slice none 0 0, .int .i64 0, .int .i64 0, .int .i64 0, .int .i64 0, .int .i64 0, .string ⟨#[]⟩, .int .i64 0, .slice none 0 0, .slice none 0 0] 32 (0, 0))
 have e1 : (w.alloc (.cells #[.int .i64 1] 3 (0, 0))).heap.size = w.heap.size + 1 := Array.size_push _
 have e2 : ((w.alloc (.cells #[.int .i64 1] 3 (0, 0))).alloc (.cells #[.int .i64 0, .int .i64 1] 25 (0, 0))).heap.size = w.heap.size + 1 + 1 := by rw [show ((w.alloc (.cells #[.int .i64 1] 3 (0, 0))).alloc (.cells #[.int .i64 0, .int .i64 1] 25 (0, 0))).heap.size = (w.alloc (.cells #[.int .i64 1] 3 (0, 0))).heap.size + 1 from Array.size_push _, e1]
 replace h3 : Sp (((w.alloc (.cells #[.int .i64 1] 3 (0, 0))).alloc (.cells #[.int .i64 0, .int .i64 1] 25 (0, 0))).alloc (.cells #[.int .i64 0, .int .i64 0, .slice none 0 0, .int .i64 0, .int .i64 0, .int .i64 0, .int .i64 0, .int .i64 0, .string ⟨#[]⟩, .int .i64 0, .slice none 0 0, .slice none 0 0] 32 (0, 0))) [Blk (w.heap.size + 1 + 1) (.cells #[.int .i64 0, .int .i64 0, .slice none 0 0, .int .i64 0, .int .i64 0, .int .i64 0, .int .i64 0, .int .i64 0, .string ⟨#[]⟩, .int .i64 0, .slice none 0 0, .slice none 0 0] 32 (0, 0)), Row k25 25 (.slice (some ⟨w.heap.size + 1, 0, none⟩) 1 1) [⟨0, 1⟩], Row (Kd.int .i64) 3 (.slice (some ⟨w.heap.size, 0, none⟩) 1 1) [1], Old w] := by
  rw [← e2, ← e1]; exact h3
 have h4 := sp_storeRow h3 #[.int .i64 0, .int .i64 2, .slice (some ⟨w.heap.size, 0, none⟩) 1 1, .int .i64 0, .int .i64 0, .int .i64 0, .int .i64 3, .int .i64 0, .string ⟨#[107]⟩, .int .i64 0, .slice none 0 0, .slice (some ⟨w.heap.size + 1, 0, none⟩) 1 1]
 have HX := mk_ h4
 obtain ⟨b, hb⟩ : ∃ b, opB wakeOp = b := ⟨_, rfl⟩
 have hl := (opB_len _ wake_fit).2
 have hbb := opB_bytes wake_fit
 have hrb := read_back wake_fit
 have hQ : ∀ W : World, Kd.C (Kd.int .i64) W (some ⟨w.heap.size, 0, none⟩) 1 [1] → Kd.C k84 W none 0 [] → Kd.C k25 W (some ⟨w.heap.size + 1, 0, none⟩) 1 [⟨0, 1⟩] → Calls Try.prog 16 #[.agg #[.int .i64 0, .int .i64 2, .slice (some ⟨w.heap.size, 0, none⟩) 1 1, .int .i64 0, .int .i64 0, .int .i64 0, .int .i64 3, .int .i64 0, .string ⟨#[107]⟩, .int .i64 0, .slice none 0 0, .slice (some ⟨w.heap.size + 1, 0, none⟩) 1 1]] W fun e w' => ∃ v, e = .returned (.tuple #[v, .int .i64 0]) ∧ Sp w' [Row (Kd.int .u8) 5 v b, Old W] := fun W a1 a7 a8 => by
  have := bytes_sp wakeOp (some ⟨w.heap.size, 0, none⟩) none (some ⟨w.heap.size + 1, 0, none⟩) 1 0 1 a1 (Nat.le_refl _) a7 (Nat.le_refl _) a8 (Nat.le_refl _) (opFit_small wake_fit)
  rw [opBytes_eq, if_pos wake_fit, hb] at this
  exact this
 have hR : ∀ (W : World) (A : Option Addr) (c : Nat), Kd.C (Kd.int .u8) W A b.length b → b.length ≤ c → Calls Try.prog 11 #[.slice A b.length c, .int .i64 0] W fun e w' => ∃ v1 v7 v8, e = .returned (.tuple #[.agg #[.int .i64 0, .int .i64 2, v1, .int .i64 0, .int .i64 0, .int .i64 0, .int .i64 3, .int .i64 0, .string ⟨#[107]⟩, .int .i64 0, v7, v8], .int .i64 (b.length : Int), .int .i64 0]) ∧
   Sp w' [Row (Kd.int .i64) 3 v1 [1], Row k84 84 v7 [], Row k25 25 v8 [⟨0, 1⟩], Old W] := fun W A c a1 a2 => by
  have := read_sp a1 a2 (by rw [← hb]; exact hbb) (by rw [← hb]; omega) 0
  rw [← hb] at this ⊢
  rw [hrb] at this
  exact this
 have HQ := mk_ hQ
 have HR := mk_ hR
 have HK := mk_ (show raddlekeep_Op.f 100 0 2 [1] 0 0 0 3 0 (⟨#[107]⟩ : ByteArray) 0 ([] : List S84) [⟨0, 1⟩] 0 2 [1] 0 0 0 3 0 (⟨#[107]⟩ : ByteArray) 0 ([] : List S84) [⟨0, 1⟩] = some true from (keepOp_eq 100 wakeOp wakeOp z5_ z5_ z5_ z5_).trans (congrArg some (decide_eq_true rfl)))
 have HCK := mk_ (show op_Check.f 1100 1 [⟨[3]⟩] 0 2 [1] 0 0 0 3 0 (⟨#[107]⟩ : ByteArray) 0 ([] : List S84) [⟨0, 1⟩] = some 0 from (check_op_eq 1100 1 [⟨[3]⟩] wakeOp z5_ z5_ (Nat.le_refl _)).trans (congrArg some z5_))
 have HY := mk_ (show op_Key.f (⟨#[107]⟩ : ByteArray) = some true from by rw [key_eq]; rfl)
 have hC : ∀ {α : Type} {d : Kd α} {e n c : Nat} {A : Option Addr} {xs : List α} {W : World} {F : List Part}, Sp W (Row d e (.slice A n c) xs :: F) → n = xs.length ∧ xs.length ≤ c ∧ Kd.C d W A xs.length xs := fun h => by
  obtain ⟨A', c', he, hc, hC⟩ := h.row
  injection he with e1 e2 e3
  subst e1; subst e3
  exact ⟨e2, hc, hC⟩
 clear h1 h2 h4 hl hbb hrb hb hQ hR e1 e2
 go_enter Try.func15, Try.ntmps15
 go_wp2_with (first
  | ((with_reducible refine gate_st (ty := 32) (x := .tmp 1) (y := .tmp 11) rfl ?_); refine wpList_store_row rfl 32 (.tmp 1) (.tmp 11) rfl (w.heap.size + 1 + 1) #[.int .i64 0, .int .i64 2, .slice (some ⟨w.heap.size, 0, none⟩) 1 1, .int .i64 0, .int .i64 0, .int .i64 0, .int .i64 3, .int .i64 0, .string ⟨#[107]⟩, .int .i64 0, .slice none 0 0, .slice (some ⟨w.heap.size + 1, 0, none⟩) 1 1] rfl rfl 32 #[.int .i64 0, .int .i64 0, .slice none 0 0, .int .i64 0, .int .i64 0, .int .i64 0, .int .i64 0, .int .i64 0, .string ⟨#[]⟩, .int .i64 0, .slice none 0 0, .slice none 0 0] h3.blk z0_ rfl (by first | decide | rfl | simp [Value.oneCell']) ?_; have kx := blk_cell HX.out.blk)
  | (go_at_call 16; refine (HQ.out _ (hC HX.out.s2).2.2 (hC (sp_nil (d := k84) (e := 84) HX.out)).2.2 (hC HX.out.s1).2.2).mono ?_; rintro e V1 ⟨v, rfl, h5⟩; obtain ⟨Ab, cb, rfl, hcb, hCb⟩ := h5.row; have HX1 := mk_ (Sp.frame HX.out (X := [_]) h5); have HCB := mk_ hCb; have HLB := mk_ hcb; clear h5 hcb hCb kx)
  | (go_at_call 11; refine (HR.out _ Ab cb HCB.out HLB.out).mono ?_; rintro e V2 ⟨v1, v7, v8, rfl, h6⟩; obtain ⟨B1, d1, rfl, _, _⟩ := h6.row; obtain ⟨B7, d7, rfl, _, _⟩ := h6.s1.row; obtain ⟨B8, d8, rfl, _, _⟩ := h6.s2.row; have HX2 := mk_ (Sp.frame HX1.out (X := [_, _, _]) h6); clear h6)
  | ((with_reducible refine gate_st (ty := 32) (x := .tmp 4) (y := .tmp 20) rfl ?_); refine wpList_store_row rfl 32 (.tmp 4) (.tmp 20) rfl V2.heap.size #[.int .i64 0, .int .i64 2, .slice B1 1 d1, .int .i64 0, .int .i64 0, .int .i64 0, .int .i64 3, .int .i64 0, .string ⟨#[107]⟩, .int .i64 0, .slice B7 0 d7, .slice B8 1 d8] rfl rfl 32 #[.int .i64 0, .int .i64 0, .slice none 0 0, .int .i64 0, .int .i64 0, .int .i64 0, .int .i64 0, .int .i64 0, .string ⟨#[]⟩, .int .i64 0, .slice none 0 0, .slice none 0 0] (HX2.out.box (.cells #[.int .i64 0, .int .i64 0, .slice none 0 0, .int .i64 0, .int .i64 0, .int .i64 0, .int .i64 0, .int .i64 0, .string ⟨#[]⟩, .int .i64 0, .slice none 0 0, .slice none 0 0] 32 (0, 0))).blk z0_ rfl (by first | decide | rfl | simp [Value.oneCell']) ?_; have HX3 := mk_ (sp_storeRow (HX2.out.box (.cells #[.int .i64 0, .int .i64 0, .slice none 0 0, .int .i64 0, .int .i64 0, .int .i64 0, .int .i64 0, .int .i64 0, .string ⟨#[]⟩, .int .i64 0, .slice none 0 0, .slice none 0 0] 32 (0, 0))) #[.int .i64 0, .int .i64 2, .slice B1 1 d1, .int .i64 0, .int .i64 0, .int .i64 0, .int .i64 3, .int .i64 0, .string ⟨#[107]⟩, .int .i64 0, .slice B7 0 d7, .slice B8 1 d8]); have ky := blk_cell HX3.out.blk; have kx := blk_cell HX3.out.s5.blk)
  | (go_at_call 13; refine (raddlekeep_Op.calls 100 0 2 (some ⟨w.heap.size, 0, none⟩) 1 [1] 0 0 0 3 0 ⟨#[107]⟩ 0 none 0 [] (some ⟨w.heap.size + 1, 0, none⟩) 1 [⟨0, 1⟩] 0 2 B1 d1 [1] 0 0 0 3 0 ⟨#[107]⟩ 0 B7 d7 [] B8 d8 [⟨0, 1⟩] true _ (hC HX3.out.tail.tail.tail.tail.tail.s2).2.2 (Nat.le_refl _) (hC (sp_nil (d := k84) (e := 84) HX3.out)).2.2 (Nat.le_refl _) (hC HX3.out.tail.tail.tail.tail.tail.s1).2.2 (Nat.le_refl _) (hC HX3.out.s1).2.2 (hC HX3.out.s1).2.1 (hC HX3.out.s2).2.2 (hC HX3.out.s2).2.1 (hC HX3.out.s3).2.2 (hC HX3.out.s3).2.1 HK.out).mono ?_; rintro e V3 ⟨rfl, h7⟩; have HX4 := mk_ (HX3.out.below h7); have kx := blk_cell ((HX4.out.alloc (.cells #[.int .i64 3] 3 (0, 0))).alloc (.cells #[.slice (some ⟨V3.heap.size, 0, none⟩) 1 1] 51 (0, 0))).s5.blk; clear h7 ky)
  | (go_at_call 19; have hF := sp_lit1 (e := 51) (Sp.as (sp_lit1 (e := 3) (sp_el (d := Kd.int .i64) (p := 3) (cs := [.int .i64 3]) (fun _ _ => rfl) HX4.out) z5_) (b := El k51 ⟨[3]⟩ [.slice (some ⟨V3.heap.size, 0, none⟩) 1 1]) (fun ok h => ⟨_, rfl, h⟩)) z5_; rw [show (V3.alloc (.cells #[.int .i64 3] 3 (0, 0))).heap.size = V3.heap.size + 1 from Array.size_push _] at hF; refine (op_Check.calls 1100 1 (some ⟨V3.heap.size + 1, 0, none⟩) 1 [⟨[3]⟩] 0 2 (some ⟨w.heap.size, 0, none⟩) 1 [1] 0 0 0 3 0 ⟨#[107]⟩ 0 none 0 [] (some ⟨w.heap.size + 1, 0, none⟩) 1 [⟨0, 1⟩] 0 _ (hC hF).2.2 (Nat.le_refl _) (hC hF.tail.tail.tail.tail.tail.tail.s2).2.2 (Nat.le_refl _) (hC (sp_nil (d := k84) (e := 84) hF)).2.2 (Nat.le_refl _) (hC hF.tail.tail.tail.tail.tail.tail.s1).2.2 (Nat.le_refl _) HCK.out).mono ?_; rintro e V4 ⟨rfl, h8⟩; have HX5 := mk_ (hF.below h8); clear h8 hF kx) | (go_at_call 25; refine (op_Key.calls ⟨#[107]⟩ true _ HY.out).mono ?_; rintro e V5 ⟨rfl, h9⟩; have HX6 := mk_ (HX5.out.below h9.below); clear h9))
 go_ret
 exact ⟨rfl, HX6.out.tail.tail.tail.tail.tail.tail.tail.tail.tail.old⟩
end Go.Proofs.Ytjnjfogfpmeacaa.PAll
end
section
namespace Go.Proofs.Ytjnjfogfpmeacaa.PAll
open Go.RowKit PAll Ops Plain PrintWords PrintLast PrintMore Go.Proofs.Ytjnjfogfpmeacaa.Sep ZipT PrintWords.Kd PrintMore.Kd
set_option linter.unusedVariables false
set_option linter.unusedSimpArgs false
theorem C_lit2 {α : Type} {d : Kd α} {e : Nat} {p1 p2 : α} {cs1 cs2 : List Value} {W : World} (h1 : d.K W p1 cs1) (h2 : d.K W p2 cs2) : Kd.C d (W.alloc (.cells (cs1 ++ cs2).toArray e (0, 0))) (some ⟨W.heap.size, 0, none⟩) 2 [p1, p2] := by
 refine ⟨rfl, by omega, fun _ => ⟨_, rfl, fun j q hq => ?_⟩⟩
 have hb : Below W.heap.size W (W.alloc (.cells (cs1 ++ cs2).toArray e (0, 0))) := below_alloc (Below.refl _ _) _
 have hcell := blk_cell (blk_new W (.cells (cs1 ++ cs2).toArray e (0, 0)))
 have l1 := d.K_len h1
 match j, hq with
 | 0, hq =>
  obtain rfl : p1 = q := by simpa using hq
  refine ⟨cs1, l1, d.K_below hb h1, fun i u hu => ?_⟩
  rw [show (⟨W.heap.size, 0, none⟩ : Addr).add (0 * d.sz + i) = ⟨W.heap.size, i, none⟩ by rw [add_plain]; congr 1; omega, hcell]
  have hi : i < cs1.length := (List.getElem?_eq_some_iff.1 hu).1
  show (cs1 ++ cs2).toArray[i]? = some u
  rw [List.getElem?_toArray, List.getElem?_append_left hi]; exact hu
 | 1, hq =>
  obtain rfl : p2 = q := by simpa using hq
  refine ⟨cs2, d.K_len h2, d.K_below hb h2, fun i u hu => ?_⟩
  rw [show (⟨W.heap.size, 0, none⟩ : Addr).add (1 * d.sz + i) = ⟨W.heap.size, d.sz + i, none⟩ by rw [add_plain]; congr 1; omega, hcell]
  show (cs1 ++ cs2).toArray[d.sz + i]? = some u
  rw [List.getElem?_toArray, List.getElem?_append_right z4_, l1, Nat.add_sub_cancel_left]; exact hu
def raddlelaw07_Heavy2.f (a0_0 : Int) (a0_1 : Int) (l0_2 : List Int) (a0_3 : Int) (a0_4 : Int) (a0_5 : Int) (a0_6 : Int) (a0_7 : Int) (a0_8 : ByteArray) (a0_9 : Int) (l0_10 : List V) (l0_11 : List Dt) (a1_0 : Int) (a1_1 : Int) (l1_2 : List Int) (a1_3 : Int) (a1_4 : Int) (a1_5 : Int) (a1_6 : Int) (a1_7 : Int) (a1_8 : ByteArray) (a1_9 : Int) (l1_10 : List V) (l1_11 : List Dt) : Option Bool := raddlelaw07_Heavy.f 500 [(⟨⟨a0_0, a0_1⟩, l0_2, ⟨a0_3, a0_4, a0_5⟩, a0_6, a0_7, a0_8, a0_9, l0_10, l0_11⟩ : Ox), (⟨⟨a1_0, a1_1⟩, l1_2, ⟨a1_3, a1_4, a1_5⟩, a1_6, a1_7, a1_8, a1_9, l1_10, l1_11⟩ : Ox)]
theorem raddlelaw07_Heavy2.calls (a0_0 : Int) (a0_1 : Int) (A0_2 : Option Addr) (c0_2 : Nat) (l0_2 : List Int) (a0_3 : Int) (a0_4 : Int) (a0_5 : Int) (a0_6 : Int) (a0_7 : Int) (a0_8 : ByteArray) (a0_9 : Int) (A0_10 : Option Addr) (c0_10 : Nat) (l0_10 : List V) (A0_11 : Option Addr) (c0_11 : Nat) (l0_11 : List Dt) (a1_0 : Int) (a1_1 : Int) (A1_2 : Option Addr) (c1_2 : Nat) (l1_2 : List Int) (a1_3 : Int) (a1_4 : Int) (a1_5 : Int) (a1_6 : Int) (a1_7 : Int) (a1_8 : ByteArray) (a1_9 : Int) (A1_10 : Option Addr) (c1_10 : Nat) (l1_10 : List V) (A1_11 : Option Addr) (c1_11 : Nat) (l1_11 : List Dt) (r : Bool) (W : World) (hr0_2 : Kd.C (Kd.int .i64) W A0_2 l0_2.length l0_2) (hc0_2 : l0_2.length ≤ c0_2) (hr0_10 : Kd.C k84 W A0_10 l0_10.length l0_10) (hc0_10 : l0_10.length ≤ c0_10) (hr0_11 : Kd.C k25 W A0_11 l0_11.length l0_11) (hc0_11 : l0_11.length ≤ c0_11) (hr1_2 : Kd.C (Kd.int .i64) W A1_2 l1_2.length l1_2) (hc1_2 : l1_2.length ≤ c1_2) (hr1_10 : Kd.C k84 W A1_10 l1_10.length l1_10) (hc1_10 : l1_10.length ≤ c1_10) (hr1_11 : Kd.C k25 W A1_11 l1_11.length l1_11) (hc1_11 : l1_11.length ≤ c1_11) (h : raddlelaw07_Heavy2.f a0_0 a0_1 l0_2 a0_3 a0_4 a0_5 a0_6 a0_7 a0_8 a0_9 l0_10 l0_11 a1_0 a1_1 l1_2 a1_3 a1_4 a1_5 a1_6 a1_7 a1_8 a1_9 l1_10 l1_11 = some r) :
  Calls Try.prog 18 #[.slice (some ⟨W.heap.size, 0, none⟩) 2 2] (W.alloc (.cells #[.int .i64 a0_0, .int .i64 a0_1, .slice A0_2 l0_2.length c0_2, .int .i64 a0_3, .int .i64 a0_4, .int .i64 a0_5, .int .i64 a0_6, .int .i64 a0_7, .string a0_8, .int .i64 a0_9, .slice A0_10 l0_10.length c0_10, .slice A0_11 l0_11.length c0_11, .int .i64 a1_0, .int .i64 a1_1, .slice A1_2 l1_2.length c1_2, .int .i64 a1_3, .int .i64 a1_4, .int .i64 a1_5, .int .i64 a1_6, .int .i64 a1_7, .string a1_8, .int .i64 a1_9, .slice A1_10 l1_10.length c1_10, .slice A1_11 l1_11.length c1_11] 32 (0, 0))) fun e w' => e = .returned (.bool r) ∧ Below W.heap.size W w' :=
 Calls.mono (h := raddlelaw07_Heavy.calls 500 (some ⟨W.heap.size, 0, none⟩) 2 [(⟨⟨a0_0, a0_1⟩, l0_2, ⟨a0_3, a0_4, a0_5⟩, a0_6, a0_7, a0_8, a0_9, l0_10, l0_11⟩ : Ox), (⟨⟨a1_0, a1_1⟩, l1_2, ⟨a1_3, a1_4, a1_5⟩, a1_6, a1_7, a1_8, a1_9, l1_10, l1_11⟩ : Ox)] r _ (C_lit2 (cs1 := [.int .i64 a0_0, .int .i64 a0_1, .slice A0_2 l0_2.length c0_2, .int .i64 a0_3, .int .i64 a0_4, .int .i64 a0_5, .int .i64 a0_6, .int .i64 a0_7, .string a0_8, .int .i64 a0_9, .slice A0_10 l0_10.length c0_10, .slice A0_11 l0_11.length c0_11]) (cs2 := [.int .i64 a1_0, .int .i64 a1_1, .slice A1_2 l1_2.length c1_2, .int .i64 a1_3, .int .i64 a1_4, .int .i64 a1_5, .int .i64 a1_6, .int .i64 a1_7, .string a1_8, .int .i64 a1_9, .slice A1_10 l1_10.length c1_10, .slice A1_11 l1_11.length c1_11]) (k32_mk W (⟨⟨a0_0, a0_1⟩, l0_2, ⟨a0_3, a0_4, a0_5⟩, a0_6, a0_7, a0_8, a0_9, l0_10, l0_11⟩ : Ox) hc0_2 hr0_2 hc0_10 hr0_10 hc0_11 hr0_11) (k32_mk W (⟨⟨a1_0, a1_1⟩, l1_2, ⟨a1_3, a1_4, a1_5⟩, a1_6, a1_7, a1_8, a1_9, l1_10, l1_11⟩ : Ox) hc1_2 hr1_2 hc1_10 hr1_10 hc1_11 hr1_11)) (Nat.le_refl _) h) (hr := fun e w' h => ⟨h.1, below_step (below_alloc (Below.refl _ _) _) h.2.below⟩)
end Go.Proofs.Ytjnjfogfpmeacaa.PAll
end
section
namespace Go.Proofs.Ytjnjfogfpmeacaa.PAll
open Go.RowKit PrintWords PrintLast PrintMore ZipT PrintWords.Kd PrintMore.Kd
attribute [local go_sem] max2_int min2_int max_two min_two max_three min_three max_four min_four   -- for this text's walks alone
set_option linter.unusedVariables false
set_option linter.unusedSimpArgs false
mutual
def raddlelaw07_OpUnlike.j0 : Nat → Int → List (S51) → Int → Bool → Int → Int → List Int → Int → Int → Int → Int → Int → ByteArray → Int → List (S84) → List (S25) → Int → Int → List Int → Int → Int → Int → Int → Int → ByteArray → Int → List (S84) → List (S25) → Option (Bool)
 | 0, _, _, _, _, _, _, _, _, _, _, _, _, _, _, _, _, _, _, _, _, _, _, _, _, _, _, _, _ => none
 | k + 1, x0, x1, x4, x25, x555000, x555001, x555002, x555003, x555004, x555005, x555006, x555007, x555008, x555009, x555010, x555011, x556000, x556001, x556002, x556003, x556004, x556005, x556006, x556007, x556008, x556009, x556010, x556011 => if x25 = true then (some true) else ((op_Bytes.f x555000 x555001 x555002 x555003 x555004 x555005 x555006 x555007 x555008 x555009 x555010 x555011).bind fun bt558 => ((op_Bytes.f x556000 x556001 x556002 x556003 x556004 x556005 x556006 x556007 x556008 x556009 x556010 x556011).bind fun bt562 => ((op_Check.f k x0 x1 x555000 x555001 x555002 x555003 x555004 x555005 x555006 x555007 x555008 x555009 x555010 x555011).bind fun t566 => (if t566 = 0 then (raddlelaw07_OpUnlike.j1 k x4 bt558.1 bt558.2 bt562.1 bt562.2 (bt558.2 != 0) x555000 x555001 x555002 x555003 x555004 x555005 x555006 x555007 x555008 x555009 x555010 x555011 x556000 x556001 x556002 x556003 x556004 x556005 x556006 x556007 x556008 x556009 x556010 x556011) else (raddlelaw07_OpUnlike.j1 k x4 bt558.1 bt558.2 bt562.1 bt562.2 false x555000 x555001 x555002 x555003 x555004 x555005 x555006 x555007 x555008 x555009 x555010 x555011 x556000 x556001 x556002 x556003 x556004 x556005 x556006 x556007 x556008 x556009 x556010 x556011)))))
def raddlelaw07_OpUnlike.j1 : Nat → Int → List Int → Int → List Int → Int → Bool → Int → Int → List Int → Int → Int → Int → Int → Int → ByteArray → Int → List (S84) → List (S25) → Int → Int → List Int → Int → Int → Int → Int → Int → ByteArray → Int → List (S84) → List (S25) → Option (Bool)
 | 0, _, _, _, _, _, _, _, _, _, _, _, _, _, _, _, _, _, _, _, _, _, _, _, _, _, _, _, _, _, _ => none
 | k + 1, x4, x11, x12, x13, x14, x44, x555000, x555001, x555002, x555003, x555004, x555005, x555006, x555007, x555008, x555009, x555010, x555011, x556000, x556001, x556002, x556003, x556004, x556005, x556006, x556007, x556008, x556009, x556010, x556011 => if x44 = true then (some false) else (if x12 = 0 then (raddlelaw07_OpUnlike.j2 k x4 x11 x12 x13 x14 (x14 != 0) x555000 x555001 x555002 x555003 x555004 x555005 x555006 x555007 x555008 x555009 x555010 x555011 x556000 x556001 x556002 x556003 x556004 x556005 x556006 x556007 x556008 x556009 x556010 x556011) else (raddlelaw07_OpUnlike.j2 k x4 x11 x12 x13 x14 true x555000 x555001 x555002 x555003 x555004 x555005 x555006 x555007 x555008 x555009 x555010 x555011 x556000 x556001 x556002 x556003 x556004 x556005 x556006 x556007 x556008 x556009 x556010 x556011))
def raddlelaw07_OpUnlike.j2 : Nat → Int → List Int → Int → List Int → Int → Bool → Int → Int → List Int → Int → Int → Int → Int → Int → ByteArray → Int → List (S84) → List (S25) → Int → Int → List Int → Int → Int → Int → Int → Int → ByteArray → Int → List (S84) → List (S25) → Option (Bool)
 | 0, _, _, _, _, _, _, _, _, _, _, _, _, _, _, _, _, _, _, _, _, _, _, _, _, _, _, _, _, _, _ => none
 | k + 1, x4, x11, x12, x13, x14, x50, x555000, x555001, x555002, x555003, x555004, x555005, x555006, x555007, x555008, x555009, x555010, x555011, x556000, x556001, x556002, x556003, x556004, x556005, x556006, x556007, x556008, x556009, x556010, x556011 => if x50 = true then (if x12 = 0 then (if x14 = 0 then ((raddlelaw07_wakes.f).bind fun t567 => (some t567)) else (if (x13.length : Int) = 0 then ((raddlelaw07_wakes.f).bind fun t568 => (some t568)) else (some false))) else (if (x11.length : Int) = 0 then (if x14 = 0 then ((raddlelaw07_wakes.f).bind fun t569 => (some t569)) else (if (x13.length : Int) = 0 then ((raddlelaw07_wakes.f).bind fun t570 => (some t570)) else (some false))) else (some false))) else (if (x11.length : Int) = 0 then (raddlelaw07_OpUnlike.j3 k x4 x11 true) else ((raddlekeep_Bytes.f k x11 x13).bind fun t571 => ((raddlekeep_Op.f k x555000 x555001 x555002 x555003 x555004 x555005 x555006 x555007 x555008 x555009 x555010 x555011 x556000 x556001 x556002 x556003 x556004 x556005 x556006 x556007 x556008 x556009 x556010 x556011).bind fun t572 => (raddlelaw07_OpUnlike.j3 k x4 x11 (t571 != t572)))))
def raddlelaw07_OpUnlike.j3 : Nat → Int → List Int → Bool → Option (Bool)
 | 0, _, _, _ => none
 | k + 1, x4, x11, x81 => if x81 = true then (some false) else (if (IntKind.u64.wrap ((x11.length : Int))) = 0 then (none) else (if 0 ≤ (wrap64 (Int.tmod (IntKind.u64.wrap (x4)) (IntKind.u64.wrap ((x11.length : Int))))) then (if (wrap64 (Int.tmod (IntKind.u64.wrap (x4)) (IntKind.u64.wrap ((x11.length : Int))))) ≤ (x11.length : Int) then ((op_Read.f (x11.take ((wrap64 (Int.tmod (IntKind.u64.wrap (x4)) (IntKind.u64.wrap ((x11.length : Int))))) : Int).toNat) 0).bind fun bt577 => (if bt577.2.2.2.2.2.2.2.2.2.2.2.2.2 = 3 then (if bt577.2.2.2.2.2.2.2.2.2.2.2.2.1 = 0 then ((raddlekeep_Op.f k bt577.1 bt577.2.1 bt577.2.2.1 bt577.2.2.2.1 bt577.2.2.2.2.1 bt577.2.2.2.2.2.1 bt577.2.2.2.2.2.2.1 bt577.2.2.2.2.2.2.2.1 bt577.2.2.2.2.2.2.2.2.1 bt577.2.2.2.2.2.2.2.2.2.1 bt577.2.2.2.2.2.2.2.2.2.2.1 bt577.2.2.2.2.2.2.2.2.2.2.2.1 0 0 ([] : List Int) 0 0 0 0 0 (⟨#[]⟩ : ByteArray) 0 ([] : List (S84)) ([] : List (S25))).bind fun t598 => (if t598 = true then ((raddlelaw07_wakes.f).bind fun t599 => (some t599)) else (some false))) else (some false)) else (some false))) else (none)) else (none)))
end
def raddlelaw07_OpUnlike.f (k : Nat) (a0 : Int) (l1 : List (S51)) (a2_0 : Int) (a2_1 : Int) (l2_2 : List Int) (a2_3 : Int) (a2_4 : Int) (a2_5 : Int) (a2_6 : Int) (a2_7 : Int) (a2_8 : ByteArray) (a2_9 : Int) (l2_10 : List (S84)) (l2_11 : List (S25)) (a3_0 : Int) (a3_1 : Int) (l3_2 : List Int) (a3_3 : Int) (a3_4 : Int) (a3_5 : Int) (a3_6 : Int) (a3_7 : Int) (a3_8 : ByteArray) (a3_9 : Int) (l3_10 : List (S84)) (l3_11 : List (S25)) (a4 : Int) : Option (Bool) := (raddlelaw07_HeavyForms.f k l1).bind fun t556 => (if t556 = true then (raddlelaw07_OpUnlike.j0 k a0 l1 a4 true a2_0 a2_1 l2_2 a2_3 a2_4 a2_5 a2_6 a2_7 a2_8 a2_9 l2_10 l2_11 a3_0 a3_1 l3_2 a3_3 a3_4 a3_5 a3_6 a3_7 a3_8 a3_9 l3_10 l3_11) else ((raddlelaw07_Heavy2.f a2_0 a2_1 l2_2 a2_3 a2_4 a2_5 a2_6 a2_7 a2_8 a2_9 l2_10 l2_11 a3_0 a3_1 l3_2 a3_3 a3_4 a3_5 a3_6 a3_7 a3_8 a3_9 l3_10 l3_11).bind fun t557 => (raddlelaw07_OpUnlike.j0 k a0 l1 a4 t557 a2_0 a2_1 l2_2 a2_3 a2_4 a2_5 a2_6 a2_7 a2_8 a2_9 l2_10 l2_11 a3_0 a3_1 l3_2 a3_3 a3_4 a3_5 a3_6 a3_7 a3_8 a3_9 l3_10 l3_11)))
def raddlelaw07_OpUnlike.T9 : Bool × List (List Nat × List Nat) := (true, [([], []), ([0], [0]), ([1], [1]), ([2], [2]), ([3], [3]), ([3], [3]), ([4, 5, 3, 3], [3, 4, 5]), ([3], [3]), ([3], [3]), ([7, 8, 6, 3], [3, 7, 8]), ([6, 9, 3], [3, 6, 9]), ([3, 10], [3, 10])])
def raddlelaw07_OpUnlike.B9 : List Nat := [0, 1, 3, 7, 15, 15, 63, 15, 15, 511, 1023, 2047]
theorem raddlelaw07_OpUnlike.tab9 : rtab .any (opsOf Try.f4 9) = raddlelaw07_OpUnlike.T9 := by kernel_rfl
theorem raddlelaw07_OpUnlike.bits9 : waitsOk raddlelaw07_OpUnlike.T9.2 raddlelaw07_OpUnlike.B9 = true := by kernel_rfl
theorem raddlelaw07_OpUnlike.calls (k : Nat) (a0 : Int) (A1 : Option Addr) (c1 : Nat) (l1 : List (S51)) (a2_0 : Int) (a2_1 : Int) (A2_2 : Option Addr) (c2_2 : Nat) (l2_2 : List Int) (a2_3 : Int) (a2_4 : Int) (a2_5 : Int) (a2_6 : Int) (a2_7 : Int) (a2_8 : ByteArray) (a2_9 : Int) (A2_10 : Option Addr) (c2_10 : Nat) (l2_10 : List (S84)) (A2_11 : Option Addr) (c2_11 : Nat) (l2_11 : List (S25)) (a3_0 : Int) (a3_1 : Int) (A3_2 : Option Addr) (c3_2 : Nat) (l3_2 : List Int) (a3_3 : Int) (a3_4 : Int) (a3_5 : Int) (a3_6 : Int) (a3_7 : Int) (a3_8 : ByteArray) (a3_9 : Int) (A3_10 : Option Addr) (c3_10 : Nat) (l3_10 : List (S84)) (A3_11 : Option Addr) (c3_11 : Nat) (l3_11 : List (S25)) (a4 : Int) (r : Bool) (w : World) (hr1 : Kd.C k51 w A1 l1.length l1) (hc1 : l1.length ≤ c1) (hr2_2 : Kd.C (Kd.int .i64) w A2_2 l2_2.length l2_2) (hc2_2 : l2_2.length ≤ c2_2) (hr2_10 : Kd.C k84 w A2_10 l2_10.length l2_10) (hc2_10 : l2_10.length ≤ c2_10) (hr2_11 : Kd.C k25 w A2_11 l2_11.length l2_11) (hc2_11 : l2_11.length ≤ c2_11) (hr3_2 : Kd.C (Kd.int .i64) w A3_2 l3_2.length l3_2) (hc3_2 : l3_2.length ≤ c3_2) (hr3_10 : Kd.C k84 w A3_10 l3_10.length l3_10) (hc3_10 : l3_10.length ≤ c3_10) (hr3_11 : Kd.C k25 w A3_11 l3_11.length l3_11) (hc3_11 : l3_11.length ≤ c3_11) (hrt : r = true) (h : raddlelaw07_OpUnlike.f k a0 l1 a2_0 a2_1 l2_2 a2_3 a2_4 a2_5 a2_6 a2_7 a2_8 a2_9 l2_10 l2_11 a3_0 a3_1 l3_2 a3_3 a3_4 a3_5 a3_6 a3_7 a3_8 a3_9 l3_10 l3_11 a4 = some r) :
  Calls Try.prog 4 #[.int .i64 a0, .slice A1 l1.length c1, .agg #[.int .i64 a2_0, .int .i64 a2_1, .slice A2_2 l2_2.length c2_2, .int .i64 a2_3, .int .i64 a2_4, .int .i64 a2_5, .int .i64 a2_6, .int .i64 a2_7, .string a2_8, .int .i64 a2_9, .slice A2_10 l2_10.length c2_10, .slice A2_11 l2_11.length c2_11], .agg #[.int .i64 a3_0, .int .i64 a3_1, .slice A3_2 l3_2.length c3_2, .int .i64 a3_3, .int .i64 a3_4, .int .i64 a3_5, .int .i64 a3_6, .int .i64 a3_7, .string a3_8, .int .i64 a3_9, .slice A3_10 l3_10.length c3_10, .slice A3_11 l3_11.length c3_11], .int .i64 a4] w fun e w' => e = .returned (.bool r) ∧ Below w.heap.size w w' := by
 have hu32 := Try.underlying32
 have HR1 := mk_ hr1
 have HC1 := mk_ hc1
 clear hr1 hc1
 have HR2_2 := mk_ hr2_2
 have HC2_2 := mk_ hc2_2
 clear hr2_2 hc2_2
 have HR2_10 := mk_ hr2_10
 have HC2_10 := mk_ hc2_10
 clear hr2_10 hc2_10
 have HR2_11 := mk_ hr2_11
 have HC2_11 := mk_ hc2_11
 clear hr2_11 hc2_11
 have HR3_2 := mk_ hr3_2
 have HC3_2 := mk_ hc3_2
 clear hr3_2 hc3_2
 have HR3_10 := mk_ hr3_10
 have HC3_10 := mk_ hc3_10
 clear hr3_10 hc3_10
 have HR3_11 := mk_ hr3_11
 have HC3_11 := mk_ hc3_11
 clear hr3_11 hc3_11
 have HB := mk_ (Below.refl w.heap.size w)
 have H : ((raddlelaw07_HeavyForms.f k l1).bind fun t556 => (if t556 = true then (raddlelaw07_OpUnlike.j0 k a0 l1 a4 true a2_0 a2_1 l2_2 a2_3 a2_4 a2_5 a2_6 a2_7 a2_8 a2_9 l2_10 l2_11 a3_0 a3_1 l3_2 a3_3 a3_4 a3_5 a3_6 a3_7 a3_8 a3_9 l3_10 l3_11) else ((raddlelaw07_Heavy2.f a2_0 a2_1 l2_2 a2_3 a2_4 a2_5 a2_6 a2_7 a2_8 a2_9 l2_10 l2_11 a3_0 a3_1 l3_2 a3_3 a3_4 a3_5 a3_6 a3_7 a3_8 a3_9 l3_10 l3_11).bind fun t557 => (raddlelaw07_OpUnlike.j0 k a0 l1 a4 t557 a2_0 a2_1 l2_2 a2_3 a2_4 a2_5 a2_6 a2_7 a2_8 a2_9 l2_10 l2_11 a3_0 a3_1 l3_2 a3_3 a3_4 a3_5 a3_6 a3_7 a3_8 a3_9 l3_10 l3_11)))) = some r := h
 clear h
 have HC6 := mk_ H
 clear H
 go_enter Try.func4, Try.ntmps4
 go_upto_region 1 with (first | ((with_reducible refine gate_dst (N := 7) rfl ?_); refine box_event ?hg (N := 7) ?hd (cs := #[.int .i64 a2_0, .int .i64 a2_1, .slice A2_2 l2_2.length c2_2, .int .i64 a2_3, .int .i64 a2_4, .int .i64 a2_5, .int .i64 a2_6, .int .i64 a2_7, .string a2_8, .int .i64 a2_9, .slice A2_10 l2_10.length c2_10, .slice A2_11 l2_11.length c2_11]) (t := 32) ?hr ?_; (case hd => rfl); (case hg => rfl); (case hr => first | (go_simp; done) | (go_simp; rfl)); intro gb554 hg w7 hbox hb; have n0_ := mk_ (below_step (Short.hB HB) hb); have n1_ := mk_ (hbox); have n2_ := mk_ ((by rw [hg]; exact (below_size (Short.hB HB)) : w.heap.size ≤ gb554)); have n3_ := mk_ ((by rw [hg]; exact (below_size (Short.hB HB)) : w.heap.size ≤ gb554)); clear HB; revert n0_ n1_ n2_ n3_; intro HB BK554 GW554 GE554; clear hb hbox hg) | ((with_reducible refine gate_dst (N := 8) rfl ?_); refine box_event ?hg (N := 8) ?hd (cs := #[.int .i64 a3_0, .int .i64 a3_1, .slice A3_2 l3_2.length c3_2, .int .i64 a3_3, .int .i64 a3_4, .int .i64 a3_5, .int .i64 a3_6, .int .i64 a3_7, .string a3_8, .int .i64 a3_9, .slice A3_10 l3_10.length c3_10, .slice A3_11 l3_11.length c3_11]) (t := 32) ?hr ?_; (case hd => rfl); (case hg => rfl); (case hr => first | (go_simp; done) | (go_simp; rfl)); intro gb555 hg w8 hbox hb; have n0_ := mk_ (bB_ BK554 hb); have n1_ := mk_ (below_step (Short.hB HB) hb); have n2_ := mk_ (hbox); have n3_ := mk_ ((by rw [hg]; exact (below_size (Short.hB HB)) : w.heap.size ≤ gb555)); have n4_ := mk_ ((by rw [hg]; exact (below_size (Short.hB HB)) : w.heap.size ≤ gb555)); have n5_ := mk_ ((by rw [hg]; exact Nat.ne_of_lt (blk_lt (Short.bK BK554)) : gb554 ≠ gb555)); have n6_ := mk_ ((by rw [hg]; exact Nat.ne_of_gt (blk_lt (Short.bK BK554)) : gb555 ≠ gb554)); clear BK554 HB; revert n0_ n1_ n2_ n3_ n4_ n5_ n6_; intro BK554 HB BK555 GW555 GE555 NB554_555 NB555_554; clear hb hbox hg))
 (try simp only [Act.put, List.setIfInBounds_toArray, List.set_cons_zero, List.set_cons_succ])
 go_cut [25] (fun v25 wc => ∃ (kq : Nat) (x25_5 : Bool), v25 = .bool x25_5 ∧ Aside0 (raddlelaw07_OpUnlike.j0 kq a0 l1 a4 x25_5 a2_0 a2_1 l2_2 a2_3 a2_4 a2_5 a2_6 a2_7 a2_8 a2_9 l2_10 l2_11 a3_0 a3_1 l3_2 a3_3 a3_4 a3_5 a3_6 a3_7 a3_8 a3_9 l3_10 l3_11 = some r) ∧ Aside0 (kq ≤ k) ∧ Aside0 (wc.heap[gb554]? = some (.cells #[.int .i64 a2_0, .int .i64 a2_1, (.slice A2_2 l2_2.length c2_2), .int .i64 a2_3, .int .i64 a2_4, .int .i64 a2_5, .int .i64 a2_6, .int .i64 a2_7, .string a2_8, .int .i64 a2_9, (.slice A2_10 l2_10.length c2_10), (.slice A2_11 l2_11.length c2_11)] 32 (0, 0))) ∧ Aside0 (wc.heap[gb555]? = some (.cells #[.int .i64 a3_0, .int .i64 a3_1, (.slice A3_2 l3_2.length c3_2), .int .i64 a3_3, .int .i64 a3_4, .int .i64 a3_5, .int .i64 a3_6, .int .i64 a3_7, .string a3_8, .int .i64 a3_9, (.slice A3_10 l3_10.length c3_10), (.slice A3_11 l3_11.length c3_11)] 32 (0, 0))) ∧ Aside0 (Below w.heap.size w wc))
 case first =>
  have H := HC6.out
  clear HC6
  replace H := Option.bind_eq_some_iff.mp H
  obtain ⟨t556, A90, H⟩ := H
  replace H : (if t556 = true then (raddlelaw07_OpUnlike.j0 k a0 l1 a4 true a2_0 a2_1 l2_2 a2_3 a2_4 a2_5 a2_6 a2_7 a2_8 a2_9 l2_10 l2_11 a3_0 a3_1 l3_2 a3_3 a3_4 a3_5 a3_6 a3_7 a3_8 a3_9 l3_10 l3_11) else ((raddlelaw07_Heavy2.f a2_0 a2_1 l2_2 a2_3 a2_4 a2_5 a2_6 a2_7 a2_8 a2_9 l2_10 l2_11 a3_0 a3_1 l3_2 a3_3 a3_4 a3_5 a3_6 a3_7 a3_8 a3_9 l3_10 l3_11).bind fun t557 => (raddlelaw07_OpUnlike.j0 k a0 l1 a4 t557 a2_0 a2_1 l2_2 a2_3 a2_4 a2_5 a2_6 a2_7 a2_8 a2_9 l2_10 l2_11 a3_0 a3_1 l3_2 a3_3 a3_4 a3_5 a3_6 a3_7 a3_8 a3_9 l3_10 l3_11))) = some r := H
  have A9 := mk_ A90
  clear A90
  by_cases c10 : t556 = true
  ·
   subst c10
   rw [if_pos rfl] at H
   have H' := mk_ H
   clear H
   go_wp2_with (first | ((with_reducible refine gate_callee (f := 17) rfl ?_); refine Short.gL (some 19) Try.func17 #[.slice A1 l1.length c1] (h := ?_); (with_reducible refine (raddlelaw07_HeavyForms.calls k _ _ l1 true _ ?side1 ?side2 A9.out).mono ?_); (case side1 => exact cX_ (C_below HR1.out HB.out)); (case side2 => exact HC1.out); rintro e w' ⟨rfl, ⟨nd, rfl⟩⟩; refine ⟨_, rfl, ?_⟩))
   go_meet
   case rel => exact ⟨_, (true), z3_, H', ⟨by first | omega | exact Nat.le_refl _⟩, ⟨by (with_reducible repeat (first | refine blk_drewN ?_ _ | refine blk_drew ?_ | refine blk_alloc ?_ _)); exact BK554.out⟩, ⟨by (with_reducible repeat (first | refine blk_drewN ?_ _ | refine blk_drew ?_ | refine blk_alloc ?_ _)); exact BK555.out⟩, ⟨Short.hB HB⟩⟩
  replace c10 := Bool.eq_false_iff.mpr c10
  subst c10
  rw [if_neg (show ¬ (false = true) by decide)] at H
  replace H := Option.bind_eq_some_iff.mp H
  obtain ⟨t557, A110, H⟩ := H
  replace H : (raddlelaw07_OpUnlike.j0 k a0 l1 a4 t557 a2_0 a2_1 l2_2 a2_3 a2_4 a2_5 a2_6 a2_7 a2_8 a2_9 l2_10 l2_11 a3_0 a3_1 l3_2 a3_3 a3_4 a3_5 a3_6 a3_7 a3_8 a3_9 l3_10 l3_11) = some r := H
  have A11 := mk_ A110
  clear A110
  have H' := mk_ H
  clear H
  go_wp2_with (first | ((with_reducible refine gate_callee (f := 17) rfl ?_); refine Short.gL (some 19) Try.func17 #[.slice A1 l1.length c1] (h := ?_); (with_reducible refine (raddlelaw07_HeavyForms.calls k _ _ l1 false _ ?side1 ?side2 A9.out).mono ?_); (case side1 => exact cX_ (C_below HR1.out HB.out)); (case side2 => exact HC1.out); rintro e w' ⟨rfl, ⟨nd, rfl⟩⟩; refine ⟨_, rfl, ?_⟩; have hnb12 := NB554_555.out; have hnc12 := NB555_554.out; have hcz13_0 : w8.cell? ⟨gb554, 0, none⟩ = some (.int .i64 a2_0) := kc_ BK554 0; have hcz13_1 : w8.cell? ⟨gb554, 1, none⟩ = some (.int .i64 a2_1) := kc_ BK554 1; have hcz13_2 : w8.cell? ⟨gb554, 2, none⟩ = some (.slice A2_2 l2_2.length c2_2) := kc_ BK554 2; have hcz13_3 : w8.cell? ⟨gb554, 3, none⟩ = some (.int .i64 a2_3) := kc_ BK554 3; have hcz13_4 : w8.cell? ⟨gb554, 4, none⟩ = some (.int .i64 a2_4) := kc_ BK554 4; have hcz13_5 : w8.cell? ⟨gb554, 5, none⟩ = some (.int .i64 a2_5) := kc_ BK554 5; have hcz13_6 : w8.cell? ⟨gb554, 6, none⟩ = some (.int .i64 a2_6) := kc_ BK554 6; have hcz13_7 : w8.cell? ⟨gb554, 7, none⟩ = some (.int .i64 a2_7) := kc_ BK554 7; have hcz13_8 : w8.cell? ⟨gb554, 8, none⟩ = some (.string a2_8) := kc_ BK554 8; have hcz13_9 : w8.cell? ⟨gb554, 9, none⟩ = some (.int .i64 a2_9) := kc_ BK554 9; have hcz13_10 : w8.cell? ⟨gb554, 10, none⟩ = some (.slice A2_10 l2_10.length c2_10) := kc_ BK554 10; have hcz13_11 : w8.cell? ⟨gb554, 11, none⟩ = some (.slice A2_11 l2_11.length c2_11) := kc_ BK554 11; have hfz13_0 := blk_frozen BK554.out 0; have hfz13_1 := blk_frozen BK554.out 1; have hfz13_2 := blk_frozen BK554.out 2; have hfz13_3 := blk_frozen BK554.out 3; have hfz13_4 := blk_frozen BK554.out 4; have hfz13_5 := blk_frozen BK554.out 5; have hfz13_6 := blk_frozen BK554.out 6; have hfz13_7 := blk_frozen BK554.out 7; have hfz13_8 := blk_frozen BK554.out 8; have hfz13_9 := blk_frozen BK554.out 9; have hfz13_10 := blk_frozen BK554.out 10; have hfz13_11 := blk_frozen BK554.out 11; have hcz14_0 : w8.cell? ⟨gb555, 0, none⟩ = some (.int .i64 a3_0) := kc_ BK555 0; have hcz14_1 : w8.cell? ⟨gb555, 1, none⟩ = some (.int .i64 a3_1) := kc_ BK555 1; have hcz14_2 : w8.cell? ⟨gb555, 2, none⟩ = some (.slice A3_2 l3_2.length c3_2) := kc_ BK555 2; have hcz14_3 : w8.cell? ⟨gb555, 3, none⟩ = some (.int .i64 a3_3) := kc_ BK555 3; have hcz14_4 : w8.cell? ⟨gb555, 4, none⟩ = some (.int .i64 a3_4) := kc_ BK555 4; have hcz14_5 : w8.cell? ⟨gb555, 5, none⟩ = some (.int .i64 a3_5) := kc_ BK555 5; have hcz14_6 : w8.cell? ⟨gb555, 6, none⟩ = some (.int .i64 a3_6) := kc_ BK555 6; have hcz14_7 : w8.cell? ⟨gb555, 7, none⟩ = some (.int .i64 a3_7) := kc_ BK555 7; have hcz14_8 : w8.cell? ⟨gb555, 8, none⟩ = some (.string a3_8) := kc_ BK555 8; have hcz14_9 : w8.cell? ⟨gb555, 9, none⟩ = some (.int .i64 a3_9) := kc_ BK555 9; have hcz14_10 : w8.cell? ⟨gb555, 10, none⟩ = some (.slice A3_10 l3_10.length c3_10) := kc_ BK555 10; have hcz14_11 : w8.cell? ⟨gb555, 11, none⟩ = some (.slice A3_11 l3_11.length c3_11) := kc_ BK555 11; have hfz14_0 := blk_frozen BK555.out 0; have hfz14_1 := blk_frozen BK555.out 1; have hfz14_2 := blk_frozen BK555.out 2; have hfz14_3 := blk_frozen BK555.out 3; have hfz14_4 := blk_frozen BK555.out 4; have hfz14_5 := blk_frozen BK555.out 5; have hfz14_6 := blk_frozen BK555.out 6; have hfz14_7 := blk_frozen BK555.out 7; have hfz14_8 := blk_frozen BK555.out 8; have hfz14_9 := blk_frozen BK555.out 9; have hfz14_10 := blk_frozen BK555.out 10; have hfz14_11 := blk_frozen BK555.out 11) | (go_at_call 18; (refine (raddlelaw07_Heavy2.calls a2_0 a2_1 _ _ l2_2 a2_3 a2_4 a2_5 a2_6 a2_7 a2_8 a2_9 _ _ l2_10 _ _ l2_11 a3_0 a3_1 _ _ l3_2 a3_3 a3_4 a3_5 a3_6 a3_7 a3_8 a3_9 _ _ l3_10 _ _ l3_11 t557 _ ?side1 ?side2 ?side3 ?side4 ?side5 ?side6 ?side7 ?side8 ?side9 ?side10 ?side11 ?side12 A11.out).mono ?_); (case side1 => exact cX_ (C_below HR2_2.out (Short.hB HB))); (case side2 => exact HC2_2.out); (case side3 => exact cX_ (C_below HR2_10.out (Short.hB HB))); (case side4 => exact HC2_10.out); (case side5 => exact cX_ (C_below HR2_11.out (Short.hB HB))); (case side6 => exact HC2_11.out); (case side7 => exact cX_ (C_below HR3_2.out (Short.hB HB))); (case side8 => exact HC3_2.out); (case side9 => exact cX_ (C_below HR3_10.out (Short.hB HB))); (case side10 => exact HC3_10.out); (case side11 => exact cX_ (C_below HR3_11.out (Short.hB HB))); (case side12 => exact HC3_11.out); rintro e w15 ⟨rfl, hb⟩; have n0_ := mk_ (bB_ BK554 hb); have n1_ := mk_ (bB_ BK555 hb); have n2_ := mk_ (below_step (Short.hB HB) hb); clear BK554 BK555 HB; revert n0_ n1_ n2_; intro BK554 BK555 HB; (try clear hb); (try clear hb2); (try clear hk); (try clear hi)))
  go_meet
  case rel => exact ⟨_, (t557), z3_, H', ⟨by first | omega | exact Nat.le_refl _⟩, ⟨by (with_reducible repeat (first | refine blk_drewN ?_ _ | refine blk_drew ?_ | refine blk_alloc ?_ _)); exact BK554.out⟩, ⟨by (with_reducible repeat (first | refine blk_drewN ?_ _ | refine blk_drew ?_ | refine blk_alloc ?_ _)); exact BK555.out⟩, ⟨Short.hB HB⟩⟩
 case rest =>
  clear HC6
  try clear c1
  try clear c2
  try clear p2
  try clear c3
  try clear c4
  try clear c10
  try clear c12
  try clear hcz13_0
  try clear hcz13_1
  try clear hcz13_10
  try clear hcz13_11
  try clear hcz13_2
  try clear hcz13_3
  try clear hcz13_4
  try clear hcz13_5
  try clear hcz13_6
  try clear hcz13_7
  try clear hcz13_8
  try clear hcz13_9
  try clear hcz14_0
  try clear hcz14_1
  try clear hcz14_10
  try clear hcz14_11
  try clear hcz14_2
  try clear hcz14_3
  try clear hcz14_4
  try clear hcz14_5
  try clear hcz14_6
  try clear hcz14_7
  try clear hcz14_8
  try clear hcz14_9
  try clear hfz13_0
  try clear hfz13_1
  try clear hfz13_10
  try clear hfz13_11
  try clear hfz13_2
  try clear hfz13_3
  try clear hfz13_4
  try clear hfz13_5
  try clear hfz13_6
  try clear hfz13_7
  try clear hfz13_8
  try clear hfz13_9
  try clear hfz14_0
  try clear hfz14_1
  try clear hfz14_10
  try clear hfz14_11
  try clear hfz14_2
  try clear hfz14_3
  try clear hfz14_4
  try clear hfz14_5
  try clear hfz14_6
  try clear hfz14_7
  try clear hfz14_8
  try clear hfz14_9
  obtain ⟨kq, x25_5, rfl, HA, HJ5, BK554, BK555, HB⟩ := hcut
  cases kq with
  | zero => exact absurd HA.out (by simp [raddlelaw07_OpUnlike.j0])
  | succ kj5 =>
   have H := HA.out
   clear HA
   simp only [raddlelaw07_OpUnlike.j0] at H
   by_cases c16 : x25_5 = true
   ·
    subst c16
    rw [if_pos rfl] at H
    obtain rfl := Option.some.inj H
    go_wp2
    go_ret
    exact ⟨q0, Short.hB HB⟩
   replace c16 := Bool.eq_false_iff.mpr c16
   subst c16
   rw [if_neg (show ¬ (false = true) by decide)] at H
   replace H := Option.bind_eq_some_iff.mp H
   obtain ⟨⟨t558, t561⟩, A170, H⟩ := H
   replace H : ((op_Bytes.f a3_0 a3_1 l3_2 a3_3 a3_4 a3_5 a3_6 a3_7 a3_8 a3_9 l3_10 l3_11).bind fun bt562 => ((op_Check.f kj5 a0 l1 a2_0 a2_1 l2_2 a2_3 a2_4 a2_5 a2_6 a2_7 a2_8 a2_9 l2_10 l2_11).bind fun t566 => (if t566 = 0 then (raddlelaw07_OpUnlike.j1 kj5 a4 t558 t561 bt562.1 bt562.2 (t561 != 0) a2_0 a2_1 l2_2 a2_3 a2_4 a2_5 a2_6 a2_7 a2_8 a2_9 l2_10 l2_11 a3_0 a3_1 l3_2 a3_3 a3_4 a3_5 a3_6 a3_7 a3_8 a3_9 l3_10 l3_11) else (raddlelaw07_OpUnlike.j1 kj5 a4 t558 t561 bt562.1 bt562.2 false a2_0 a2_1 l2_2 a2_3 a2_4 a2_5 a2_6 a2_7 a2_8 a2_9 l2_10 l2_11 a3_0 a3_1 l3_2 a3_3 a3_4 a3_5 a3_6 a3_7 a3_8 a3_9 l3_10 l3_11)))) = some r := H
   have A17 := mk_ A170
   clear A170
   replace H := Option.bind_eq_some_iff.mp H
   obtain ⟨⟨t562, t565⟩, A180, H⟩ := H
   replace H : ((op_Check.f kj5 a0 l1 a2_0 a2_1 l2_2 a2_3 a2_4 a2_5 a2_6 a2_7 a2_8 a2_9 l2_10 l2_11).bind fun t566 => (if t566 = 0 then (raddlelaw07_OpUnlike.j1 kj5 a4 t558 t561 t562 t565 (t561 != 0) a2_0 a2_1 l2_2 a2_3 a2_4 a2_5 a2_6 a2_7 a2_8 a2_9 l2_10 l2_11 a3_0 a3_1 l3_2 a3_3 a3_4 a3_5 a3_6 a3_7 a3_8 a3_9 l3_10 l3_11) else (raddlelaw07_OpUnlike.j1 kj5 a4 t558 t561 t562 t565 false a2_0 a2_1 l2_2 a2_3 a2_4 a2_5 a2_6 a2_7 a2_8 a2_9 l2_10 l2_11 a3_0 a3_1 l3_2 a3_3 a3_4 a3_5 a3_6 a3_7 a3_8 a3_9 l3_10 l3_11))) = some r := H
   have A18 := mk_ A180
   clear A180
   have HC19 := mk_ H
   clear H
   have hnb20 := NB554_555.out
   have hnc20 := NB555_554.out
   have hcz21_0 : wc.cell? ⟨gb554, 0, none⟩ = some (.int .i64 a2_0) := kc_ BK554 0
   have hcz21_1 : wc.cell? ⟨gb554, 1, none⟩ = some (.int .i64 a2_1) := kc_ BK554 1
   have hcz21_2 : wc.cell? ⟨gb554, 2, none⟩ = some (.slice A2_2 l2_2.length c2_2) := kc_ BK554 2
   have hcz21_3 : wc.cell? ⟨gb554, 3, none⟩ = some (.int .i64 a2_3) := kc_ BK554 3
   have hcz21_4 : wc.cell? ⟨gb554, 4, none⟩ = some (.int .i64 a2_4) := kc_ BK554 4
   have hcz21_5 : wc.cell? ⟨gb554, 5, none⟩ = some (.int .i64 a2_5) := kc_ BK554 5
   have hcz21_6 : wc.cell? ⟨gb554, 6, none⟩ = some (.int .i64 a2_6) := kc_ BK554 6
   have hcz21_7 : wc.cell? ⟨gb554, 7, none⟩ = some (.int .i64 a2_7) := kc_ BK554 7
   have hcz21_8 : wc.cell? ⟨gb554, 8, none⟩ = some (.string a2_8) := kc_ BK554 8
   have hcz21_9 : wc.cell? ⟨gb554, 9, none⟩ = some (.int .i64 a2_9) := kc_ BK554 9
   have hcz21_10 : wc.cell? ⟨gb554, 10, none⟩ = some (.slice A2_10 l2_10.length c2_10) := kc_ BK554 10
   have hcz21_11 : wc.cell? ⟨gb554, 11, none⟩ = some (.slice A2_11 l2_11.length c2_11) := kc_ BK554 11
   have hfz21_0 := blk_frozen BK554.out 0
   have hfz21_1 := blk_frozen BK554.out 1
   have hfz21_2 := blk_frozen BK554.out 2
   have hfz21_3 := blk_frozen BK554.out 3
   have hfz21_4 := blk_frozen BK554.out 4
   have hfz21_5 := blk_frozen BK554.out 5
   have hfz21_6 := blk_frozen BK554.out 6
   have hfz21_7 := blk_frozen BK554.out 7
   have hfz21_8 := blk_frozen BK554.out 8
   have hfz21_9 := blk_frozen BK554.out 9
   have hfz21_10 := blk_frozen BK554.out 10
   have hfz21_11 := blk_frozen BK554.out 11
   go_upto_region 5 with (first | ((with_reducible refine gate_callee (f := 16) rfl ?_); refine Short.gL (some 28) Try.func16 #[.agg #[.int .i64 a2_0, .int .i64 a2_1, .slice A2_2 l2_2.length c2_2, .int .i64 a2_3, .int .i64 a2_4, .int .i64 a2_5, .int .i64 a2_6, .int .i64 a2_7, .string a2_8, .int .i64 a2_9, .slice A2_10 l2_10.length c2_10, .slice A2_11 l2_11.length c2_11]] (h := ?_); (with_reducible refine (op_Bytes.calls a2_0 a2_1 _ _ l2_2 a2_3 a2_4 a2_5 a2_6 a2_7 a2_8 a2_9 _ _ l2_10 _ _ l2_11 t558 t561 _ ?side1 ?side2 ?side3 ?side4 ?side5 ?side6 A17.out).mono ?_); (case side1 => exact cX_ (C_below HR2_2.out HB.out)); (case side2 => exact HC2_2.out); (case side3 => exact cX_ (C_below HR2_10.out HB.out)); (case side4 => exact HC2_10.out); (case side5 => exact cX_ (C_below HR2_11.out HB.out)); (case side6 => exact HC2_11.out); rintro e w22 ⟨v559, rfl, ho0, hb⟩; refine ⟨_, rfl, ?_⟩; have n0_ := mk_ (R_lower ho0 (below_size (Short.hB HB))); have n1_ := mk_ (bB_ BK554 hb); have n2_ := mk_ (bB_ BK555 hb); have n3_ := mk_ (below_step (Short.hB HB) hb); clear BK554 BK555 HB; revert n0_ n1_ n2_ n3_; intro HO560 BK554 BK555 HB; (try clear hb ho0); have hcz23_0 : w22.cell? ⟨gb555, 0, none⟩ = some (.int .i64 a3_0) := kc_ BK555 0; have hcz23_1 : w22.cell? ⟨gb555, 1, none⟩ = some (.int .i64 a3_1) := kc_ BK555 1; have hcz23_2 : w22.cell? ⟨gb555, 2, none⟩ = some (.slice A3_2 l3_2.length c3_2) := kc_ BK555 2; have hcz23_3 : w22.cell? ⟨gb555, 3, none⟩ = some (.int .i64 a3_3) := kc_ BK555 3; have hcz23_4 : w22.cell? ⟨gb555, 4, none⟩ = some (.int .i64 a3_4) := kc_ BK555 4; have hcz23_5 : w22.cell? ⟨gb555, 5, none⟩ = some (.int .i64 a3_5) := kc_ BK555 5; have hcz23_6 : w22.cell? ⟨gb555, 6, none⟩ = some (.int .i64 a3_6) := kc_ BK555 6; have hcz23_7 : w22.cell? ⟨gb555, 7, none⟩ = some (.int .i64 a3_7) := kc_ BK555 7; have hcz23_8 : w22.cell? ⟨gb555, 8, none⟩ = some (.string a3_8) := kc_ BK555 8; have hcz23_9 : w22.cell? ⟨gb555, 9, none⟩ = some (.int .i64 a3_9) := kc_ BK555 9; have hcz23_10 : w22.cell? ⟨gb555, 10, none⟩ = some (.slice A3_10 l3_10.length c3_10) := kc_ BK555 10; have hcz23_11 : w22.cell? ⟨gb555, 11, none⟩ = some (.slice A3_11 l3_11.length c3_11) := kc_ BK555 11; have hfz23_0 := blk_frozen BK555.out 0; have hfz23_1 := blk_frozen BK555.out 1; have hfz23_2 := blk_frozen BK555.out 2; have hfz23_3 := blk_frozen BK555.out 3; have hfz23_4 := blk_frozen BK555.out 4; have hfz23_5 := blk_frozen BK555.out 5; have hfz23_6 := blk_frozen BK555.out 6; have hfz23_7 := blk_frozen BK555.out 7; have hfz23_8 := blk_frozen BK555.out 8; have hfz23_9 := blk_frozen BK555.out 9; have hfz23_10 := blk_frozen BK555.out 10; have hfz23_11 := blk_frozen BK555.out 11) | ((with_reducible refine gate_callee (f := 16) rfl ?_); refine Short.gL (some 33) Try.func16 #[.agg #[.int .i64 a3_0, .int .i64 a3_1, .slice A3_2 l3_2.length c3_2, .int .i64 a3_3, .int .i64 a3_4, .int .i64 a3_5, .int .i64 a3_6, .int .i64 a3_7, .string a3_8, .int .i64 a3_9, .slice A3_10 l3_10.length c3_10, .slice A3_11 l3_11.length c3_11]] (h := ?_); (with_reducible refine (op_Bytes.calls a3_0 a3_1 _ _ l3_2 a3_3 a3_4 a3_5 a3_6 a3_7 a3_8 a3_9 _ _ l3_10 _ _ l3_11 t562 t565 _ ?side1 ?side2 ?side3 ?side4 ?side5 ?side6 A18.out).mono ?_); (case side1 => exact cX_ (C_below HR3_2.out HB.out)); (case side2 => exact HC3_2.out); (case side3 => exact cX_ (C_below HR3_10.out HB.out)); (case side4 => exact HC3_10.out); (case side5 => exact cX_ (C_below HR3_11.out HB.out)); (case side6 => exact HC3_11.out); rintro e w24 ⟨v563, rfl, ho0, hb⟩; refine ⟨_, rfl, ?_⟩; have n0_ := mk_ (R_elder' (ZKR HO560) (R_base ho0) hb); have n1_ := mk_ (R_lower (R_new' ho0 (R_lt (ZKR HO560))) (below_size (Short.hB HB))); have n2_ := mk_ (bB_ BK554 hb); have n3_ := mk_ (bB_ BK555 hb); have n4_ := mk_ (below_step (Short.hB HB) hb); clear HO560 BK554 BK555 HB; revert n0_ n1_ n2_ n3_ n4_; intro HO560 HO564 BK554 BK555 HB; (try clear hb ho0)))
   (try simp only [Act.put, List.setIfInBounds_toArray, List.set_cons_zero, List.set_cons_succ])
   go_cut [44] (fun v44 wc => ∃ (kq : Nat) (x44_18 : Bool), v44 = .bool x44_18 ∧ Aside0 (raddlelaw07_OpUnlike.j1 kq a4 t558 t561 t562 t565 x44_18 a2_0 a2_1 l2_2 a2_3 a2_4 a2_5 a2_6 a2_7 a2_8 a2_9 l2_10 l2_11 a3_0 a3_1 l3_2 a3_3 a3_4 a3_5 a3_6 a3_7 a3_8 a3_9 l3_10 l3_11 = some r) ∧ Aside0 (kq ≤ kj5) ∧ Aside0 (Kd.R (Kd.int .u8) 5 wc w.heap.size (fun k_ => nb_ k_ (v563)) v559 t558) ∧ Aside0 (Kd.R (Kd.int .u8) 5 wc w.heap.size (fun k_ => nb_ k_ (v559)) v563 t562) ∧ Aside0 (wc.heap[gb554]? = some (.cells #[.int .i64 a2_0, .int .i64 a2_1, (.slice A2_2 l2_2.length c2_2), .int .i64 a2_3, .int .i64 a2_4, .int .i64 a2_5, .int .i64 a2_6, .int .i64 a2_7, .string a2_8, .int .i64 a2_9, (.slice A2_10 l2_10.length c2_10), (.slice A2_11 l2_11.length c2_11)] 32 (0, 0))) ∧ Aside0 (wc.heap[gb555]? = some (.cells #[.int .i64 a3_0, .int .i64 a3_1, (.slice A3_2 l3_2.length c3_2), .int .i64 a3_3, .int .i64 a3_4, .int .i64 a3_5, .int .i64 a3_6, .int .i64 a3_7, .string a3_8, .int .i64 a3_9, (.slice A3_10 l3_10.length c3_10), (.slice A3_11 l3_11.length c3_11)] 32 (0, 0))) ∧ Aside0 (Below w.heap.size w wc))
   case first =>
    have H := HC19.out
    clear HC19
    replace H := Option.bind_eq_some_iff.mp H
    obtain ⟨t566, A250, H⟩ := H
    replace H : (if t566 = 0 then (raddlelaw07_OpUnlike.j1 kj5 a4 t558 t561 t562 t565 (t561 != 0) a2_0 a2_1 l2_2 a2_3 a2_4 a2_5 a2_6 a2_7 a2_8 a2_9 l2_10 l2_11 a3_0 a3_1 l3_2 a3_3 a3_4 a3_5 a3_6 a3_7 a3_8 a3_9 l3_10 l3_11) else (raddlelaw07_OpUnlike.j1 kj5 a4 t558 t561 t562 t565 false a2_0 a2_1 l2_2 a2_3 a2_4 a2_5 a2_6 a2_7 a2_8 a2_9 l2_10 l2_11 a3_0 a3_1 l3_2 a3_3 a3_4 a3_5 a3_6 a3_7 a3_8 a3_9 l3_10 l3_11)) = some r := H
    have A25 := mk_ A250
    clear A250
    by_cases c26 : t566 = 0
    rotate_left
    ·
     rw [if_neg c26] at H
     have c26b0 : (t566 == 0) = false := beq_eq_false_iff_ne.mpr c26
     have c26b1 : (t566 != 0) = true := bne_iff_ne.mpr c26
     (first | rw [c26b0] | (simp only [i64_w, i32_w]; rw [c26b0]) | skip)
     have H' := mk_ H
     clear H
     have hnb30 := NB554_555.out
     have hnc30 := NB555_554.out
     have hcz31_0 : w24.cell? ⟨gb554, 0, none⟩ = some (.int .i64 a2_0) := kc_ BK554 0
     have hcz31_1 : w24.cell? ⟨gb554, 1, none⟩ = some (.int .i64 a2_1) := kc_ BK554 1
     have hcz31_2 : w24.cell? ⟨gb554, 2, none⟩ = some (.slice A2_2 l2_2.length c2_2) := kc_ BK554 2
     have hcz31_3 : w24.cell? ⟨gb554, 3, none⟩ = some (.int .i64 a2_3) := kc_ BK554 3
     have hcz31_4 : w24.cell? ⟨gb554, 4, none⟩ = some (.int .i64 a2_4) := kc_ BK554 4
     have hcz31_5 : w24.cell? ⟨gb554, 5, none⟩ = some (.int .i64 a2_5) := kc_ BK554 5
     have hcz31_6 : w24.cell? ⟨gb554, 6, none⟩ = some (.int .i64 a2_6) := kc_ BK554 6
     have hcz31_7 : w24.cell? ⟨gb554, 7, none⟩ = some (.int .i64 a2_7) := kc_ BK554 7
     have hcz31_8 : w24.cell? ⟨gb554, 8, none⟩ = some (.string a2_8) := kc_ BK554 8
     have hcz31_9 : w24.cell? ⟨gb554, 9, none⟩ = some (.int .i64 a2_9) := kc_ BK554 9
     have hcz31_10 : w24.cell? ⟨gb554, 10, none⟩ = some (.slice A2_10 l2_10.length c2_10) := kc_ BK554 10
     have hcz31_11 : w24.cell? ⟨gb554, 11, none⟩ = some (.slice A2_11 l2_11.length c2_11) := kc_ BK554 11
     have hfz31_0 := blk_frozen BK554.out 0
     have hfz31_1 := blk_frozen BK554.out 1
     have hfz31_2 := blk_frozen BK554.out 2
     have hfz31_3 := blk_frozen BK554.out 3
     have hfz31_4 := blk_frozen BK554.out 4
     have hfz31_5 := blk_frozen BK554.out 5
     have hfz31_6 := blk_frozen BK554.out 6
     have hfz31_7 := blk_frozen BK554.out 7
     have hfz31_8 := blk_frozen BK554.out 8
     have hfz31_9 := blk_frozen BK554.out 9
     have hfz31_10 := blk_frozen BK554.out 10
     have hfz31_11 := blk_frozen BK554.out 11
     go_wp2_with (first | ((with_reducible refine gate_callee (f := 19) rfl ?_); refine Short.gL (some 39) Try.func19 #[.int .i64 a0, .slice A1 l1.length c1, .agg #[.int .i64 a2_0, .int .i64 a2_1, .slice A2_2 l2_2.length c2_2, .int .i64 a2_3, .int .i64 a2_4, .int .i64 a2_5, .int .i64 a2_6, .int .i64 a2_7, .string a2_8, .int .i64 a2_9, .slice A2_10 l2_10.length c2_10, .slice A2_11 l2_11.length c2_11]] (h := ?_); (with_reducible refine (op_Check.calls kj5 a0 _ _ l1 a2_0 a2_1 _ _ l2_2 a2_3 a2_4 a2_5 a2_6 a2_7 a2_8 a2_9 _ _ l2_10 _ _ l2_11 t566 _ ?side1 ?side2 ?side3 ?side4 ?side5 ?side6 ?side7 ?side8 A25.out).mono ?_); (case side1 => exact cX_ (C_below HR1.out HB.out)); (case side2 => exact HC1.out); (case side3 => exact cX_ (C_below HR2_2.out HB.out)); (case side4 => exact HC2_2.out); (case side5 => exact cX_ (C_below HR2_10.out HB.out)); (case side6 => exact HC2_10.out); (case side7 => exact cX_ (C_below HR2_11.out HB.out)); (case side8 => exact HC2_11.out); rintro e w32 ⟨rfl, hb⟩; refine ⟨_, rfl, ?_⟩; have n0_ := mk_ (R_below (ZKR HO560) hb); have n1_ := mk_ (R_below (ZKR HO564) hb); have n2_ := mk_ (bB_ BK554 hb); have n3_ := mk_ (bB_ BK555 hb); have n4_ := mk_ (below_step (Short.hB HB) hb); clear HO560 HO564 BK554 BK555 HB; revert n0_ n1_ n2_ n3_ n4_; intro HO560 HO564 BK554 BK555 HB; (try clear hb)))
     go_meet
     case rel => exact ⟨_, (false), z3_, H', ⟨by have := HJ5.out; first | omega | exact Nat.le_refl _⟩, ⟨by (with_reducible repeat (first | apply R_alloc | apply R_drewN | apply R_drew)); exact R_mono HO560.out (fun _ hk => hk.2)⟩, ⟨by (with_reducible repeat (first | apply R_alloc | apply R_drewN | apply R_drew)); exact R_mono HO564.out (fun _ hk => hk.2)⟩, ⟨by (with_reducible repeat (first | refine blk_drewN ?_ _ | refine blk_drew ?_ | refine blk_alloc ?_ _)); exact BK554.out⟩, ⟨by (with_reducible repeat (first | refine blk_drewN ?_ _ | refine blk_drew ?_ | refine blk_alloc ?_ _)); exact BK555.out⟩, ⟨Short.hB HB⟩⟩
    rw [if_pos c26] at H
    have c26b0 : (t566 == 0) = true := beq_iff_eq.mpr c26
    have c26b1 : (t566 != 0) = false := bne_eq_false_iff_eq.mpr c26
    clear c26
    (first | rw [c26b0] | (simp only [i64_w, i32_w]; rw [c26b0]) | skip)
    have H' := mk_ H
    clear H
    have hnb27 := NB554_555.out
    have hnc27 := NB555_554.out
    have hcz28_0 : w24.cell? ⟨gb554, 0, none⟩ = some (.int .i64 a2_0) := kc_ BK554 0
    have hcz28_1 : w24.cell? ⟨gb554, 1, none⟩ = some (.int .i64 a2_1) := kc_ BK554 1
    have hcz28_2 : w24.cell? ⟨gb554, 2, none⟩ = some (.slice A2_2 l2_2.length c2_2) := kc_ BK554 2
    have hcz28_3 : w24.cell? ⟨gb554, 3, none⟩ = some (.int .i64 a2_3) := kc_ BK554 3
    have hcz28_4 : w24.cell? ⟨gb554, 4, none⟩ = some (.int .i64 a2_4) := kc_ BK554 4
    have hcz28_5 : w24.cell? ⟨gb554, 5, none⟩ = some (.int .i64 a2_5) := kc_ BK554 5
    have hcz28_6 : w24.cell? ⟨gb554, 6, none⟩ = some (.int .i64 a2_6) := kc_ BK554 6
    have hcz28_7 : w24.cell? ⟨gb554, 7, none⟩ = some (.int .i64 a2_7) := kc_ BK554 7
    have hcz28_8 : w24.cell? ⟨gb554, 8, none⟩ = some (.string a2_8) := kc_ BK554 8
    have hcz28_9 : w24.cell? ⟨gb554, 9, none⟩ = some (.int .i64 a2_9) := kc_ BK554 9
    have hcz28_10 : w24.cell? ⟨gb554, 10, none⟩ = some (.slice A2_10 l2_10.length c2_10) := kc_ BK554 10
    have hcz28_11 : w24.cell? ⟨gb554, 11, none⟩ = some (.slice A2_11 l2_11.length c2_11) := kc_ BK554 11
    have hfz28_0 := blk_frozen BK554.out 0
    have hfz28_1 := blk_frozen BK554.out 1
    have hfz28_2 := blk_frozen BK554.out 2
    have hfz28_3 := blk_frozen BK554.out 3
    have hfz28_4 := blk_frozen BK554.out 4
    have hfz28_5 := blk_frozen BK554.out 5
    have hfz28_6 := blk_frozen BK554.out 6
    have hfz28_7 := blk_frozen BK554.out 7
    have hfz28_8 := blk_frozen BK554.out 8
    have hfz28_9 := blk_frozen BK554.out 9
    have hfz28_10 := blk_frozen BK554.out 10
    have hfz28_11 := blk_frozen BK554.out 11
    go_wp2_with (first | ((with_reducible refine gate_callee (f := 19) rfl ?_); refine Short.gL (some 39) Try.func19 #[.int .i64 a0, .slice A1 l1.length c1, .agg #[.int .i64 a2_0, .int .i64 a2_1, .slice A2_2 l2_2.length c2_2, .int .i64 a2_3, .int .i64 a2_4, .int .i64 a2_5, .int .i64 a2_6, .int .i64 a2_7, .string a2_8, .int .i64 a2_9, .slice A2_10 l2_10.length c2_10, .slice A2_11 l2_11.length c2_11]] (h := ?_); (with_reducible refine (op_Check.calls kj5 a0 _ _ l1 a2_0 a2_1 _ _ l2_2 a2_3 a2_4 a2_5 a2_6 a2_7 a2_8 a2_9 _ _ l2_10 _ _ l2_11 t566 _ ?side1 ?side2 ?side3 ?side4 ?side5 ?side6 ?side7 ?side8 A25.out).mono ?_); (case side1 => exact cX_ (C_below HR1.out HB.out)); (case side2 => exact HC1.out); (case side3 => exact cX_ (C_below HR2_2.out HB.out)); (case side4 => exact HC2_2.out); (case side5 => exact cX_ (C_below HR2_10.out HB.out)); (case side6 => exact HC2_10.out); (case side7 => exact cX_ (C_below HR2_11.out HB.out)); (case side8 => exact HC2_11.out); rintro e w29 ⟨rfl, hb⟩; refine ⟨_, rfl, ?_⟩; have n0_ := mk_ (R_below (ZKR HO560) hb); have n1_ := mk_ (R_below (ZKR HO564) hb); have n2_ := mk_ (bB_ BK554 hb); have n3_ := mk_ (bB_ BK555 hb); have n4_ := mk_ (below_step (Short.hB HB) hb); clear HO560 HO564 BK554 BK555 HB; revert n0_ n1_ n2_ n3_ n4_; intro HO560 HO564 BK554 BK555 HB; (try clear hb)))
    go_meet
    case rel => exact ⟨_, ((t561 != 0)), z3_, H', ⟨by have := HJ5.out; first | omega | exact Nat.le_refl _⟩, ⟨by (with_reducible repeat (first | apply R_alloc | apply R_drewN | apply R_drew)); exact R_mono HO560.out (fun _ hk => hk.2)⟩, ⟨by (with_reducible repeat (first | apply R_alloc | apply R_drewN | apply R_drew)); exact R_mono HO564.out (fun _ hk => hk.2)⟩, ⟨by (with_reducible repeat (first | refine blk_drewN ?_ _ | refine blk_drew ?_ | refine blk_alloc ?_ _)); exact BK554.out⟩, ⟨by (with_reducible repeat (first | refine blk_drewN ?_ _ | refine blk_drew ?_ | refine blk_alloc ?_ _)); exact BK555.out⟩, ⟨Short.hB HB⟩⟩
   case rest =>
    clear HC19
    try clear c1
    try clear c2
    try clear p2
    try clear c3
    try clear c4
    try clear c10
    try clear c12
    try clear c16
    try clear c17
    try clear c19
    try clear c20
    try clear c26
    try clear c26b0
    try clear c26b1
    try clear c27
    try clear c30
    try clear hcz13_0
    try clear hcz13_1
    try clear hcz13_10
    try clear hcz13_11
    try clear hcz13_2
    try clear hcz13_3
    try clear hcz13_4
    try clear hcz13_5
    try clear hcz13_6
    try clear hcz13_7
    try clear hcz13_8
    try clear hcz13_9
    try clear hcz14_0
    try clear hcz14_1
    try clear hcz14_10
    try clear hcz14_11
    try clear hcz14_2
    try clear hcz14_3
    try clear hcz14_4
    try clear hcz14_5
    try clear hcz14_6
    try clear hcz14_7
    try clear hcz14_8
    try clear hcz14_9
    try clear hcz21_0
    try clear hcz21_1
    try clear hcz21_10
    try clear hcz21_11
    try clear hcz21_2
    try clear hcz21_3
    try clear hcz21_4
    try clear hcz21_5
    try clear hcz21_6
    try clear hcz21_7
    try clear hcz21_8
    try clear hcz21_9
    try clear hcz23_0
    try clear hcz23_1
    try clear hcz23_10
    try clear hcz23_11
    try clear hcz23_2
    try clear hcz23_3
    try clear hcz23_4
    try clear hcz23_5
    try clear hcz23_6
    try clear hcz23_7
    try clear hcz23_8
    try clear hcz23_9
    try clear hcz28_0
    try clear hcz28_1
    try clear hcz28_10
    try clear hcz28_11
    try clear hcz28_2
    try clear hcz28_3
    try clear hcz28_4
    try clear hcz28_5
    try clear hcz28_6
    try clear hcz28_7
    try clear hcz28_8
    try clear hcz28_9
    try clear hcz31_0
    try clear hcz31_1
    try clear hcz31_10
    try clear hcz31_11
    try clear hcz31_2
    try clear hcz31_3
    try clear hcz31_4
    try clear hcz31_5
    try clear hcz31_6
    try clear hcz31_7
    try clear hcz31_8
    try clear hcz31_9
    try clear hfz13_0
    try clear hfz13_1
    try clear hfz13_10
    try clear hfz13_11
    try clear hfz13_2
    try clear hfz13_3
    try clear hfz13_4
    try clear hfz13_5
    try clear hfz13_6
    try clear hfz13_7
    try clear hfz13_8
    try clear hfz13_9
    try clear hfz14_0
    try clear hfz14_1
    try clear hfz14_10
    try clear hfz14_11
    try clear hfz14_2
    try clear hfz14_3
    try clear hfz14_4
    try clear hfz14_5
    try clear hfz14_6
    try clear hfz14_7
    try clear hfz14_8
    try clear hfz14_9
    try clear hfz21_0
    try clear hfz21_1
    try clear hfz21_10
    try clear hfz21_11
    try clear hfz21_2
    try clear hfz21_3
    try clear hfz21_4
    try clear hfz21_5
    try clear hfz21_6
    try clear hfz21_7
    try clear hfz21_8
    try clear hfz21_9
    try clear hfz23_0
    try clear hfz23_1
    try clear hfz23_10
    try clear hfz23_11
    try clear hfz23_2
    try clear hfz23_3
    try clear hfz23_4
    try clear hfz23_5
    try clear hfz23_6
    try clear hfz23_7
    try clear hfz23_8
    try clear hfz23_9
    try clear hfz28_0
    try clear hfz28_1
    try clear hfz28_10
    try clear hfz28_11
    try clear hfz28_2
    try clear hfz28_3
    try clear hfz28_4
    try clear hfz28_5
    try clear hfz28_6
    try clear hfz28_7
    try clear hfz28_8
    try clear hfz28_9
    try clear hfz31_0
    try clear hfz31_1
    try clear hfz31_10
    try clear hfz31_11
    try clear hfz31_2
    try clear hfz31_3
    try clear hfz31_4
    try clear hfz31_5
    try clear hfz31_6
    try clear hfz31_7
    try clear hfz31_8
    try clear hfz31_9
    try clear p2
    obtain ⟨kq, x44_18, rfl, HA, HJ18, HO_11, HO_13, BK554, BK555, HB⟩ := hcut
    cases kq with
    | zero => exact absurd HA.out (by simp [raddlelaw07_OpUnlike.j1])
    | succ kj18 =>
     have H := HA.out
     clear HA
     simp only [raddlelaw07_OpUnlike.j1] at H
     by_cases c33 : x44_18 = true
     ·
      subst c33
      rw [if_pos rfl] at H
      exact absurd H (by rw [hrt]; simp)
     replace c33 := Bool.eq_false_iff.mpr c33
     subst c33
     rw [if_neg (show ¬ (false = true) by decide)] at H
     have HC34 := mk_ H
     clear H
     go_upto_region 7 with (fail)
     go_cut [50] (fun v50 wc => ∃ (kq : Nat) (x50_33 : Bool), v50 = .bool x50_33 ∧ Aside0 (raddlelaw07_OpUnlike.j2 kq a4 t558 t561 t562 t565 x50_33 a2_0 a2_1 l2_2 a2_3 a2_4 a2_5 a2_6 a2_7 a2_8 a2_9 l2_10 l2_11 a3_0 a3_1 l3_2 a3_3 a3_4 a3_5 a3_6 a3_7 a3_8 a3_9 l3_10 l3_11 = some r) ∧ Aside0 (kq ≤ kj18) ∧ Aside0 (Kd.R (Kd.int .u8) 5 wc w.heap.size (fun k_ => nb_ k_ (v563)) v559 t558) ∧ Aside0 (Kd.R (Kd.int .u8) 5 wc w.heap.size (fun k_ => nb_ k_ (v559)) v563 t562) ∧ Aside0 (wc.heap[gb554]? = some (.cells #[.int .i64 a2_0, .int .i64 a2_1, (.slice A2_2 l2_2.length c2_2), .int .i64 a2_3, .int .i64 a2_4, .int .i64 a2_5, .int .i64 a2_6, .int .i64 a2_7, .string a2_8, .int .i64 a2_9, (.slice A2_10 l2_10.length c2_10), (.slice A2_11 l2_11.length c2_11)] 32 (0, 0))) ∧ Aside0 (wc.heap[gb555]? = some (.cells #[.int .i64 a3_0, .int .i64 a3_1, (.slice A3_2 l3_2.length c3_2), .int .i64 a3_3, .int .i64 a3_4, .int .i64 a3_5, .int .i64 a3_6, .int .i64 a3_7, .string a3_8, .int .i64 a3_9, (.slice A3_10 l3_10.length c3_10), (.slice A3_11 l3_11.length c3_11)] 32 (0, 0))) ∧ Aside0 (Below w.heap.size w wc))
     case first =>
      have H := HC34.out
      clear HC34
      by_cases c35 : t561 = 0
      rotate_left
      ·
       rw [if_neg c35] at H
       have c35b0 : (t561 == 0) = false := beq_eq_false_iff_ne.mpr c35
       have c35b1 : (t561 != 0) = true := bne_iff_ne.mpr c35
       (first | rw [c35b0] | (simp only [i64_w, i32_w]; rw [c35b0]) | skip)
       have H' := mk_ H
       clear H
       go_wp2
       go_meet
       case rel => exact ⟨_, (true), z3_, H', ⟨by have := HJ5.out; have := HJ18.out; first | omega | exact Nat.le_refl _⟩, ⟨by (with_reducible repeat (first | apply R_alloc | apply R_drewN | apply R_drew)); exact HO_11.out⟩, ⟨by (with_reducible repeat (first | apply R_alloc | apply R_drewN | apply R_drew)); exact HO_13.out⟩, ⟨by (with_reducible repeat (first | refine blk_drewN ?_ _ | refine blk_drew ?_ | refine blk_alloc ?_ _)); exact BK554.out⟩, ⟨by (with_reducible repeat (first | refine blk_drewN ?_ _ | refine blk_drew ?_ | refine blk_alloc ?_ _)); exact BK555.out⟩, ⟨Short.hB HB⟩⟩
      rw [if_pos c35] at H
      have c35b0 : (t561 == 0) = true := beq_iff_eq.mpr c35
      have c35b1 : (t561 != 0) = false := bne_eq_false_iff_eq.mpr c35
      clear c35
      (first | rw [c35b0] | (simp only [i64_w, i32_w]; rw [c35b0]) | skip)
      have H' := mk_ H
      clear H
      go_wp2
      go_meet
      case rel => exact ⟨_, ((t565 != 0)), z3_, H', ⟨by have := HJ5.out; have := HJ18.out; first | omega | exact Nat.le_refl _⟩, ⟨by (with_reducible repeat (first | apply R_alloc | apply R_drewN | apply R_drew)); exact HO_11.out⟩, ⟨by (with_reducible repeat (first | apply R_alloc | apply R_drewN | apply R_drew)); exact HO_13.out⟩, ⟨by (with_reducible repeat (first | refine blk_drewN ?_ _ | refine blk_drew ?_ | refine blk_alloc ?_ _)); exact BK554.out⟩, ⟨by (with_reducible repeat (first | refine blk_drewN ?_ _ | refine blk_drew ?_ | refine blk_alloc ?_ _)); exact BK555.out⟩, ⟨Short.hB HB⟩⟩
     case rest =>
      clear HC34
      try clear c1
      try clear c2
      try clear p2
      try clear c3
      try clear c4
      try clear c10
      try clear c12
      try clear c16
      try clear c17
      try clear c19
      try clear c20
      try clear c26
      try clear c26b0
      try clear c26b1
      try clear c27
      try clear c30
      try clear c33
      try clear c35
      try clear c35b0
      try clear c35b1
      try clear hcz13_0
      try clear hcz13_1
      try clear hcz13_10
      try clear hcz13_11
      try clear hcz13_2
      try clear hcz13_3
      try clear hcz13_4
      try clear hcz13_5
      try clear hcz13_6
      try clear hcz13_7
      try clear hcz13_8
      try clear hcz13_9
      try clear hcz14_0
      try clear hcz14_1
      try clear hcz14_10
      try clear hcz14_11
      try clear hcz14_2
      try clear hcz14_3
      try clear hcz14_4
      try clear hcz14_5
      try clear hcz14_6
      try clear hcz14_7
      try clear hcz14_8
      try clear hcz14_9
      try clear hcz21_0
      try clear hcz21_1
      try clear hcz21_10
      try clear hcz21_11
      try clear hcz21_2
      try clear hcz21_3
      try clear hcz21_4
      try clear hcz21_5
      try clear hcz21_6
      try clear hcz21_7
      try clear hcz21_8
      try clear hcz21_9
      try clear hcz23_0
      try clear hcz23_1
      try clear hcz23_10
      try clear hcz23_11
      try clear hcz23_2
      try clear hcz23_3
      try clear hcz23_4
      try clear hcz23_5
      try clear hcz23_6
      try clear hcz23_7
      try clear hcz23_8
      try clear hcz23_9
      try clear hcz28_0
      try clear hcz28_1
      try clear hcz28_10
      try clear hcz28_11
      try clear hcz28_2
      try clear hcz28_3
      try clear hcz28_4
      try clear hcz28_5
      try clear hcz28_6
      try clear hcz28_7
      try clear hcz28_8
      try clear hcz28_9
      try clear hcz31_0
      try clear hcz31_1
      try clear hcz31_10
      try clear hcz31_11
      try clear hcz31_2
      try clear hcz31_3
      try clear hcz31_4
      try clear hcz31_5
      try clear hcz31_6
      try clear hcz31_7
      try clear hcz31_8
      try clear hcz31_9
      try clear hfz13_0
      try clear hfz13_1
      try clear hfz13_10
      try clear hfz13_11
      try clear hfz13_2
      try clear hfz13_3
      try clear hfz13_4
      try clear hfz13_5
      try clear hfz13_6
      try clear hfz13_7
      try clear hfz13_8
      try clear hfz13_9
      try clear hfz14_0
      try clear hfz14_1
      try clear hfz14_10
      try clear hfz14_11
      try clear hfz14_2
      try clear hfz14_3
      try clear hfz14_4
      try clear hfz14_5
      try clear hfz14_6
      try clear hfz14_7
      try clear hfz14_8
      try clear hfz14_9
      try clear hfz21_0
      try clear hfz21_1
      try clear hfz21_10
      try clear hfz21_11
      try clear hfz21_2
      try clear hfz21_3
      try clear hfz21_4
      try clear hfz21_5
      try clear hfz21_6
      try clear hfz21_7
      try clear hfz21_8
      try clear hfz21_9
      try clear hfz23_0
      try clear hfz23_1
      try clear hfz23_10
      try clear hfz23_11
      try clear hfz23_2
      try clear hfz23_3
      try clear hfz23_4
      try clear hfz23_5
      try clear hfz23_6
      try clear hfz23_7
      try clear hfz23_8
      try clear hfz23_9
      try clear hfz28_0
      try clear hfz28_1
      try clear hfz28_10
      try clear hfz28_11
      try clear hfz28_2
      try clear hfz28_3
      try clear hfz28_4
      try clear hfz28_5
      try clear hfz28_6
      try clear hfz28_7
      try clear hfz28_8
      try clear hfz28_9
      try clear hfz31_0
      try clear hfz31_1
      try clear hfz31_10
      try clear hfz31_11
      try clear hfz31_2
      try clear hfz31_3
      try clear hfz31_4
      try clear hfz31_5
      try clear hfz31_6
      try clear hfz31_7
      try clear hfz31_8
      try clear hfz31_9
      try clear p2
      obtain ⟨kq, x50_33, rfl, HA, HJ33, HO_11, HO_13, BK554, BK555, HB⟩ := hcut
      cases kq with
      | zero => exact absurd HA.out (by simp [raddlelaw07_OpUnlike.j2])
      | succ kj33 =>
       have H := HA.out
       clear HA
       simp only [raddlelaw07_OpUnlike.j2] at H
       by_cases c36 : x50_33 = true
       ·
        subst c36
        rw [if_pos rfl] at H
        by_cases c37 : t561 = 0
        ·
         rw [if_pos c37] at H
         have c37b0 : (t561 == 0) = true := beq_iff_eq.mpr c37
         have c37b1 : (t561 != 0) = false := bne_eq_false_iff_eq.mpr c37
         clear c37
         by_cases c38 : t565 = 0
         ·
          rw [if_pos c38] at H
          have c38b0 : (t565 == 0) = true := beq_iff_eq.mpr c38
          have c38b1 : (t565 != 0) = false := bne_eq_false_iff_eq.mpr c38
          clear c38
          replace H := Option.bind_eq_some_iff.mp H
          obtain ⟨t567, A390, H⟩ := H
          replace H : (some t567) = some r := H
          have A39 := mk_ A390
          clear A390
          obtain rfl := Option.some.inj H
          go_wp2_with (first | (go_at_call 15; (with_reducible refine (raddlelaw07_wakes.calls  t567 _ A39.out).mono ?_); rintro e w40 ⟨rfl, hb⟩; have n8_ := mk_ (below_step (Short.hB HB) hb); clear HB; have HB := n8_; clear n8_ hb))
          go_ret
          exact ⟨q0, Short.hB HB⟩
         rw [if_neg c38] at H
         have c38b0 : (t565 == 0) = false := beq_eq_false_iff_ne.mpr c38
         have c38b1 : (t565 != 0) = true := bne_iff_ne.mpr c38
         by_cases c41 : (t562.length : Int) = 0
         rotate_left
         ·
          rw [if_neg c41] at H
          have c41b0 : ((t562.length : Int) == 0) = false := beq_eq_false_iff_ne.mpr c41
          have c41b1 : ((t562.length : Int) != 0) = true := bne_iff_ne.mpr c41
          have c41b2 : ¬ (t562 = []) := fun h_ => c41 (by rw [h_]; rfl)
          exact absurd H (by rw [hrt]; simp)
         rw [if_pos c41] at H
         have c41b0 : ((t562.length : Int) == 0) = true := beq_iff_eq.mpr c41
         have c41b1 : ((t562.length : Int) != 0) = false := bne_eq_false_iff_eq.mpr c41
         clear c41
         replace H := Option.bind_eq_some_iff.mp H
         obtain ⟨t568, A420, H⟩ := H
         replace H : (some t568) = some r := H
         have A42 := mk_ A420
         clear A420
         obtain rfl := Option.some.inj H
         obtain ⟨Ao43, co43, eo43⟩ := R_slice HO_13.out
         subst eo43
         go_wp2_with (first | (go_at_call 15; (with_reducible refine (raddlelaw07_wakes.calls  t568 _ A42.out).mono ?_); rintro e w44 ⟨rfl, hb⟩; have n8_ := mk_ (below_step (Short.hB HB) hb); clear HB; have HB := n8_; clear n8_ hb))
         go_ret
         exact ⟨q0, Short.hB HB⟩
        rw [if_neg c37] at H
        have c37b0 : (t561 == 0) = false := beq_eq_false_iff_ne.mpr c37
        have c37b1 : (t561 != 0) = true := bne_iff_ne.mpr c37
        by_cases c45 : (t558.length : Int) = 0
        rotate_left
        ·
         rw [if_neg c45] at H
         have c45b0 : ((t558.length : Int) == 0) = false := beq_eq_false_iff_ne.mpr c45
         have c45b1 : ((t558.length : Int) != 0) = true := bne_iff_ne.mpr c45
         have c45b2 : ¬ (t558 = []) := fun h_ => c45 (by rw [h_]; rfl)
         exact absurd H (by rw [hrt]; simp)
        rw [if_pos c45] at H
        have c45b0 : ((t558.length : Int) == 0) = true := beq_iff_eq.mpr c45
        have c45b1 : ((t558.length : Int) != 0) = false := bne_eq_false_iff_eq.mpr c45
        clear c45
        by_cases c46 : t565 = 0
        ·
         rw [if_pos c46] at H
         have c46b0 : (t565 == 0) = true := beq_iff_eq.mpr c46
         have c46b1 : (t565 != 0) = false := bne_eq_false_iff_eq.mpr c46
         clear c46
         replace H := Option.bind_eq_some_iff.mp H
         obtain ⟨t569, A470, H⟩ := H
         replace H : (some t569) = some r := H
         have A47 := mk_ A470
         clear A470
         obtain rfl := Option.some.inj H
         obtain ⟨Ao48, co48, eo48⟩ := R_slice HO_11.out
         subst eo48
         go_wp2_with (first | (go_at_call 15; (with_reducible refine (raddlelaw07_wakes.calls  t569 _ A47.out).mono ?_); rintro e w49 ⟨rfl, hb⟩; have n8_ := mk_ (below_step (Short.hB HB) hb); clear HB; have HB := n8_; clear n8_ hb))
         go_ret
         exact ⟨q0, Short.hB HB⟩
        rw [if_neg c46] at H
        have c46b0 : (t565 == 0) = false := beq_eq_false_iff_ne.mpr c46
        have c46b1 : (t565 != 0) = true := bne_iff_ne.mpr c46
        by_cases c50 : (t562.length : Int) = 0
        rotate_left
        ·
         rw [if_neg c50] at H
         have c50b0 : ((t562.length : Int) == 0) = false := beq_eq_false_iff_ne.mpr c50
         have c50b1 : ((t562.length : Int) != 0) = true := bne_iff_ne.mpr c50
         have c50b2 : ¬ (t562 = []) := fun h_ => c50 (by rw [h_]; rfl)
         exact absurd H (by rw [hrt]; simp)
        rw [if_pos c50] at H
        have c50b0 : ((t562.length : Int) == 0) = true := beq_iff_eq.mpr c50
        have c50b1 : ((t562.length : Int) != 0) = false := bne_eq_false_iff_eq.mpr c50
        clear c50
        replace H := Option.bind_eq_some_iff.mp H
        obtain ⟨t570, A510, H⟩ := H
        replace H : (some t570) = some r := H
        have A51 := mk_ A510
        clear A510
        obtain rfl := Option.some.inj H
        obtain ⟨Ao52, co52, eo52⟩ := R_slice HO_11.out
        subst eo52
        obtain ⟨Ao53, co53, eo53⟩ := R_slice HO_13.out
        subst eo53
        go_wp2_with (first | (go_at_call 15; (with_reducible refine (raddlelaw07_wakes.calls  t570 _ A51.out).mono ?_); rintro e w54 ⟨rfl, hb⟩; have n8_ := mk_ (below_step (Short.hB HB) hb); clear HB; have HB := n8_; clear n8_ hb))
        go_ret
        exact ⟨q0, Short.hB HB⟩
       replace c36 := Bool.eq_false_iff.mpr c36
       subst c36
       rw [if_neg (show ¬ (false = true) by decide)] at H
       have HC55 := mk_ H
       clear H
       go_upto_region 9 with (fail)
       go_cut [81] (fun v81 wc => ∃ (kq : Nat) (x81_54 : Bool), v81 = .bool x81_54 ∧ Aside0 (raddlelaw07_OpUnlike.j3 kq a4 t558 x81_54 = some r) ∧ Aside0 (kq ≤ kj33) ∧ Aside0 (Kd.R (Kd.int .u8) 5 wc w.heap.size (fun _ => True) v559 t558) ∧ Aside0 (wc.heap[gb554]? = some (.cells #[.int .i64 a2_0, .int .i64 a2_1, (.slice A2_2 l2_2.length c2_2), .int .i64 a2_3, .int .i64 a2_4, .int .i64 a2_5, .int .i64 a2_6, .int .i64 a2_7, .string a2_8, .int .i64 a2_9, (.slice A2_10 l2_10.length c2_10), (.slice A2_11 l2_11.length c2_11)] 32 (0, 0))) ∧ Aside0 (wc.heap[gb555]? = some (.cells #[.int .i64 a3_0, .int .i64 a3_1, (.slice A3_2 l3_2.length c3_2), .int .i64 a3_3, .int .i64 a3_4, .int .i64 a3_5, .int .i64 a3_6, .int .i64 a3_7, .string a3_8, .int .i64 a3_9, (.slice A3_10 l3_10.length c3_10), (.slice A3_11 l3_11.length c3_11)] 32 (0, 0))) ∧ Aside0 (Below w.heap.size w wc))
       case first =>
        have H := HC55.out
        clear HC55
        by_cases c56 : (t558.length : Int) = 0
        ·
         rw [if_pos c56] at H
         have c56b0 : ((t558.length : Int) == 0) = true := beq_iff_eq.mpr c56
         have c56b1 : ((t558.length : Int) != 0) = false := bne_eq_false_iff_eq.mpr c56
         clear c56
         (first | rw [c56b0] | (simp only [i64_w, i32_w]; rw [c56b0]) | skip)
         exact absurd H (by rw [hrt]; cases kj33 <;> simp [raddlelaw07_OpUnlike.j3])
        rw [if_neg c56] at H
        have c56b0 : ((t558.length : Int) == 0) = false := beq_eq_false_iff_ne.mpr c56
        have c56b1 : ((t558.length : Int) != 0) = true := bne_iff_ne.mpr c56
        have c56b2 : ¬ (t558 = []) := fun h_ => c56 (by rw [h_]; rfl)
        (first | rw [c56b0] | (simp only [i64_w, i32_w]; rw [c56b0]) | skip)
        replace H := Option.bind_eq_some_iff.mp H
        obtain ⟨t571, A570, H⟩ := H
        replace H : ((raddlekeep_Op.f kj33 a2_0 a2_1 l2_2 a2_3 a2_4 a2_5 a2_6 a2_7 a2_8 a2_9 l2_10 l2_11 a3_0 a3_1 l3_2 a3_3 a3_4 a3_5 a3_6 a3_7 a3_8 a3_9 l3_10 l3_11).bind fun t572 => (raddlelaw07_OpUnlike.j3 kj33 a4 t558 (t571 != t572))) = some r := H
        have A57 := mk_ A570
        clear A570
        replace H := Option.bind_eq_some_iff.mp H
        obtain ⟨t572, A580, H⟩ := H
        replace H : (raddlelaw07_OpUnlike.j3 kj33 a4 t558 (t571 != t572)) = some r := H
        have A58 := mk_ A580
        clear A580
        have H' := mk_ H
        clear H
        try go_wp2
        have n0_ := mk_ (R_drew HO_11.out)
        have n1_ := mk_ (R_drew HO_13.out)
        have n2_ := mk_ (blk_drew BK554.out)
        have n3_ := mk_ (blk_drew BK555.out)
        have n4_ := mk_ (below_drew1 HB.out)
        clear HO_11 HO_13 BK554 BK555 HB
        revert n0_ n1_ n2_ n3_ n4_
        intro HO_11 HO_13 BK554 BK555 HB
        obtain ⟨Ao60, co60, eo60⟩ := R_slice HO_11.out
        (first | subst eo60 | (injection eo60 with f1_ f2_ f3_; have f4_ := f1_.symm; have f5_ := f3_.symm; clear f1_ f2_ f3_; subst f4_; subst f5_))
        obtain ⟨Ao61, co61, eo61⟩ := R_slice HO_13.out
        (first | subst eo61 | (injection eo61 with f1_ f2_ f3_; have f4_ := f1_.symm; have f5_ := f3_.symm; clear f1_ f2_ f3_; subst f4_; subst f5_))
        refine start_ (n := 12) (S := fun w' => w'.cell? ⟨gb554, 0, none⟩ = some (.int .i64 a2_0) ∧ w'.cell? ⟨gb554, 1, none⟩ = some (.int .i64 a2_1) ∧ w'.cell? ⟨gb554, 2, none⟩ = some (.slice A2_2 l2_2.length c2_2) ∧ w'.cell? ⟨gb554, 3, none⟩ = some (.int .i64 a2_3) ∧ w'.cell? ⟨gb554, 4, none⟩ = some (.int .i64 a2_4) ∧ w'.cell? ⟨gb554, 5, none⟩ = some (.int .i64 a2_5) ∧ w'.cell? ⟨gb554, 6, none⟩ = some (.int .i64 a2_6) ∧ w'.cell? ⟨gb554, 7, none⟩ = some (.int .i64 a2_7) ∧ w'.cell? ⟨gb554, 8, none⟩ = some (.string a2_8) ∧ w'.cell? ⟨gb554, 9, none⟩ = some (.int .i64 a2_9) ∧ w'.cell? ⟨gb554, 10, none⟩ = some (.slice A2_10 l2_10.length c2_10) ∧ w'.cell? ⟨gb554, 11, none⟩ = some (.slice A2_11 l2_11.length c2_11) ∧ w'.cell? ⟨gb555, 0, none⟩ = some (.int .i64 a3_0) ∧ w'.cell? ⟨gb555, 1, none⟩ = some (.int .i64 a3_1) ∧ w'.cell? ⟨gb555, 2, none⟩ = some (.slice A3_2 l3_2.length c3_2) ∧ w'.cell? ⟨gb555, 3, none⟩ = some (.int .i64 a3_3) ∧ w'.cell? ⟨gb555, 4, none⟩ = some (.int .i64 a3_4) ∧ w'.cell? ⟨gb555, 5, none⟩ = some (.int .i64 a3_5) ∧ w'.cell? ⟨gb555, 6, none⟩ = some (.int .i64 a3_6) ∧ w'.cell? ⟨gb555, 7, none⟩ = some (.int .i64 a3_7) ∧ w'.cell? ⟨gb555, 8, none⟩ = some (.string a3_8) ∧ w'.cell? ⟨gb555, 9, none⟩ = some (.int .i64 a3_9) ∧ w'.cell? ⟨gb555, 10, none⟩ = some (.slice A3_10 l3_10.length c3_10) ∧ w'.cell? ⟨gb555, 11, none⟩ = some (.slice A3_11 l3_11.length c3_11)) (ds := []) (Steps.Bs 12 0) z0_ rfl rfl ⟨kc_ BK554 0, kc_ BK554 1, kc_ BK554 2, kc_ BK554 3, kc_ BK554 4, kc_ BK554 5, kc_ BK554 6, kc_ BK554 7, kc_ BK554 8, kc_ BK554 9, kc_ BK554 10, kc_ BK554 11, kc_ BK555 0, kc_ BK555 1, kc_ BK555 2, kc_ BK555 3, kc_ BK555 4, kc_ BK555 5, kc_ BK555 6, kc_ BK555 7, kc_ BK555 8, kc_ BK555 9, kc_ BK555 10, kc_ BK555 11⟩ (fun hHeld => ?_); refine with_tabW raddlelaw07_OpUnlike.tab9 raddlelaw07_OpUnlike.bits9 (fun HT_ HW_ => ?_)
        generalize wc.drew = w59 at HO_11 HO_13 BK554 BK555 HB hHeld ⊢
        refine tI HT_ 0 70 12 1 ?_
        refine tI HT_ 1 71 12 3 ?_
        refine tI HT_ 2 72 12 7 ?_
        refine tI HT_ 3 73 12 15 ?_
        refine tI HT_ 4 74 12 31 ?_
        refine tI HT_ 5 75 12 63 ?_
        refine tT HT_ HW_ hHeld 7 77 12 191 ?_
        refine tT HT_ HW_ hHeld 8 78 12 447 ?_
        refine one_ (i := 6) (N := some 76) (Steps.Bs 12 511) rfl rfl (one_of HT_.out z0_) z5_ (fun K hK => ?_)
        refine goes_ Try.func14 z0_ rfl #[.slice Ao60 t558.length co60, .slice Ao61 t562.length co61] (by rfl) rfl rfl z2_ ?_
        with_reducible refine (raddlekeep_Bytes.calls kj33 _ _ t558 _ _ t562 t571 _ ?side1 ?side2 ?side3 ?side4 A57.out).mono ?_
        (case side1 => exact cX_ (R_reads' HO_11.out).2.2)
        (case side2 => exact (R_reads' HO_11.out).2.1)
        (case side3 => exact cX_ (R_reads' HO_13.out).2.2)
        (case side4 => exact (R_reads' HO_13.out).2.1)
        rintro e w' ⟨rfl, ⟨nd, rfl⟩⟩
        refine ⟨_, rfl, ?_⟩
        refine hK.out _ _ ⟨kc_ BK554 0, kc_ BK554 1, kc_ BK554 2, kc_ BK554 3, kc_ BK554 4, kc_ BK554 5, kc_ BK554 6, kc_ BK554 7, kc_ BK554 8, kc_ BK554 9, kc_ BK554 10, kc_ BK554 11, kc_ BK555 0, kc_ BK555 1, kc_ BK555 2, kc_ BK555 3, kc_ BK555 4, kc_ BK555 5, kc_ BK555 6, kc_ BK555 7, kc_ BK555 8, kc_ BK555 9, kc_ BK555 10, kc_ BK555 11⟩ (fun hHeld => ?_)
        clear hK K
        refine nrm 76 ?_
        refine one_ (i := 9) (N := some 79) (Steps.Bs 12 1023) rfl rfl (one_of HT_.out z0_) z5_ (fun K hK => ?_)
        refine goes_ Try.func13 z0_ rfl #[.agg #[.int .i64 a2_0, .int .i64 a2_1, .slice A2_2 l2_2.length c2_2, .int .i64 a2_3, .int .i64 a2_4, .int .i64 a2_5, .int .i64 a2_6, .int .i64 a2_7, .string a2_8, .int .i64 a2_9, .slice A2_10 l2_10.length c2_10, .slice A2_11 l2_11.length c2_11], .agg #[.int .i64 a3_0, .int .i64 a3_1, .slice A3_2 l3_2.length c3_2, .int .i64 a3_3, .int .i64 a3_4, .int .i64 a3_5, .int .i64 a3_6, .int .i64 a3_7, .string a3_8, .int .i64 a3_9, .slice A3_10 l3_10.length c3_10, .slice A3_11 l3_11.length c3_11]] (by rfl) rfl rfl z2_ ?_
        with_reducible refine (raddlekeep_Op.calls kj33 a2_0 a2_1 _ _ l2_2 a2_3 a2_4 a2_5 a2_6 a2_7 a2_8 a2_9 _ _ l2_10 _ _ l2_11 a3_0 a3_1 _ _ l3_2 a3_3 a3_4 a3_5 a3_6 a3_7 a3_8 a3_9 _ _ l3_10 _ _ l3_11 t572 _ ?side1 ?side2 ?side3 ?side4 ?side5 ?side6 ?side7 ?side8 ?side9 ?side10 ?side11 ?side12 A58.out).mono ?_
        (case side1 => exact cX_ (C_below HR2_2.out (Short.hB HB)))
        (case side2 => exact HC2_2.out)
        (case side3 => exact cX_ (C_below HR2_10.out (Short.hB HB)))
        (case side4 => exact HC2_10.out)
        (case side5 => exact cX_ (C_below HR2_11.out (Short.hB HB)))
        (case side6 => exact HC2_11.out)
        (case side7 => exact cX_ (C_below HR3_2.out (Short.hB HB)))
        (case side8 => exact HC3_2.out)
        (case side9 => exact cX_ (C_below HR3_10.out (Short.hB HB)))
        (case side10 => exact HC3_10.out)
        (case side11 => exact cX_ (C_below HR3_11.out (Short.hB HB)))
        (case side12 => exact HC3_11.out)
        rintro e w62 ⟨rfl, hb⟩
        refine ⟨_, rfl, ?_⟩
        have n0_ := mk_ (R_below (ZKR HO_11) hb)
        have n1_ := mk_ (R_below (ZKR HO_13) hb)
        have n2_ := mk_ (bB_ BK554 hb)
        have n3_ := mk_ (bB_ BK555 hb)
        have n4_ := mk_ (below_step (Short.hB HB) hb)
        clear HO_11 HO_13 BK554 BK555 HB
        revert n0_ n1_ n2_ n3_ n4_
        intro HO_11 HO_13 BK554 BK555 HB
        (try clear hb)
        (try clear hb2)
        (try clear hk)
        (try clear hi)
        refine hK.out _ _ ⟨kc_ BK554 0, kc_ BK554 1, kc_ BK554 2, kc_ BK554 3, kc_ BK554 4, kc_ BK554 5, kc_ BK554 6, kc_ BK554 7, kc_ BK554 8, kc_ BK554 9, kc_ BK554 10, kc_ BK554 11, kc_ BK555 0, kc_ BK555 1, kc_ BK555 2, kc_ BK555 3, kc_ BK555 4, kc_ BK555 5, kc_ BK555 6, kc_ BK555 7, kc_ BK555 8, kc_ BK555 9, kc_ BK555 10, kc_ BK555 11⟩ (fun hHeld => ?_)
        clear hK K
        refine nrm 79 ?_
        refine tI HT_ 10 80 12 2047 ?_
        refine tI HT_ 11 81 12 4095 ?_
        refine done_ (done_of HT_.out z0_) ?_
        try go_wp2
        go_meet
        case rel => exact ⟨_, ((t571 != t572)), z3_, H', ⟨by have := HJ5.out; have := HJ18.out; have := HJ33.out; first | omega | exact Nat.le_refl _⟩, ⟨by (with_reducible repeat (first | apply R_alloc | apply R_drewN | apply R_drew)); exact R_mono HO_11.out (fun _ hk => trivial)⟩, ⟨by (with_reducible repeat (first | refine blk_drewN ?_ _ | refine blk_drew ?_ | refine blk_alloc ?_ _)); exact BK554.out⟩, ⟨by (with_reducible repeat (first | refine blk_drewN ?_ _ | refine blk_drew ?_ | refine blk_alloc ?_ _)); exact BK555.out⟩, ⟨Short.hB HB⟩⟩
       case rest =>
        clear HC55
        try clear c1
        try clear c2
        try clear p2
        try clear c3
        try clear c4
        try clear c5
        try clear c10
        try clear c12
        try clear c13
        try clear c14
        try clear c16
        try clear c17
        try clear c19
        try clear c20
        try clear c26
        try clear c26b0
        try clear c26b1
        try clear c27
        try clear c30
        try clear c33
        try clear c35
        try clear c35b0
        try clear c35b1
        try clear c36
        try clear c37
        try clear c37b0
        try clear c37b1
        try clear c38
        try clear c38b0
        try clear c38b1
        try clear c41
        try clear c41b0
        try clear c41b1
        try clear c41b2
        try clear c45
        try clear c45b0
        try clear c45b1
        try clear c45b2
        try clear c46
        try clear c46b0
        try clear c46b1
        try clear c50
        try clear c50b0
        try clear c50b1
        try clear c50b2
        try clear c56
        try clear c56b0
        try clear c56b1
        try clear c56b2
        try clear hcz13_0
        try clear hcz13_1
        try clear hcz13_10
        try clear hcz13_11
        try clear hcz13_2
        try clear hcz13_3
        try clear hcz13_4
        try clear hcz13_5
        try clear hcz13_6
        try clear hcz13_7
        try clear hcz13_8
        try clear hcz13_9
        try clear hcz14_0
        try clear hcz14_1
        try clear hcz14_10
        try clear hcz14_11
        try clear hcz14_2
        try clear hcz14_3
        try clear hcz14_4
        try clear hcz14_5
        try clear hcz14_6
        try clear hcz14_7
        try clear hcz14_8
        try clear hcz14_9
        try clear hcz21_0
        try clear hcz21_1
        try clear hcz21_10
        try clear hcz21_11
        try clear hcz21_2
        try clear hcz21_3
        try clear hcz21_4
        try clear hcz21_5
        try clear hcz21_6
        try clear hcz21_7
        try clear hcz21_8
        try clear hcz21_9
        try clear hcz23_0
        try clear hcz23_1
        try clear hcz23_10
        try clear hcz23_11
        try clear hcz23_2
        try clear hcz23_3
        try clear hcz23_4
        try clear hcz23_5
        try clear hcz23_6
        try clear hcz23_7
        try clear hcz23_8
        try clear hcz23_9
        try clear hcz28_0
        try clear hcz28_1
        try clear hcz28_10
        try clear hcz28_11
        try clear hcz28_2
        try clear hcz28_3
        try clear hcz28_4
        try clear hcz28_5
        try clear hcz28_6
        try clear hcz28_7
        try clear hcz28_8
        try clear hcz28_9
        try clear hcz31_0
        try clear hcz31_1
        try clear hcz31_10
        try clear hcz31_11
        try clear hcz31_2
        try clear hcz31_3
        try clear hcz31_4
        try clear hcz31_5
        try clear hcz31_6
        try clear hcz31_7
        try clear hcz31_8
        try clear hcz31_9
        try clear hfz13_0
        try clear hfz13_1
        try clear hfz13_10
        try clear hfz13_11
        try clear hfz13_2
        try clear hfz13_3
        try clear hfz13_4
        try clear hfz13_5
        try clear hfz13_6
        try clear hfz13_7
        try clear hfz13_8
        try clear hfz13_9
        try clear hfz14_0
        try clear hfz14_1
        try clear hfz14_10
        try clear hfz14_11
        try clear hfz14_2
        try clear hfz14_3
        try clear hfz14_4
        try clear hfz14_5
        try clear hfz14_6
        try clear hfz14_7
        try clear hfz14_8
        try clear hfz14_9
        try clear hfz21_0
        try clear hfz21_1
        try clear hfz21_10
        try clear hfz21_11
        try clear hfz21_2
        try clear hfz21_3
        try clear hfz21_4
        try clear hfz21_5
        try clear hfz21_6
        try clear hfz21_7
        try clear hfz21_8
        try clear hfz21_9
        try clear hfz23_0
        try clear hfz23_1
        try clear hfz23_10
        try clear hfz23_11
        try clear hfz23_2
        try clear hfz23_3
        try clear hfz23_4
        try clear hfz23_5
        try clear hfz23_6
        try clear hfz23_7
        try clear hfz23_8
        try clear hfz23_9
        try clear hfz28_0
        try clear hfz28_1
        try clear hfz28_10
        try clear hfz28_11
        try clear hfz28_2
        try clear hfz28_3
        try clear hfz28_4
        try clear hfz28_5
        try clear hfz28_6
        try clear hfz28_7
        try clear hfz28_8
        try clear hfz28_9
        try clear hfz31_0
        try clear hfz31_1
        try clear hfz31_10
        try clear hfz31_11
        try clear hfz31_2
        try clear hfz31_3
        try clear hfz31_4
        try clear hfz31_5
        try clear hfz31_6
        try clear hfz31_7
        try clear hfz31_8
        try clear hfz31_9
        try clear p2
        obtain ⟨kq, x81_54, rfl, HA, HJ54, HO_11, BK554, BK555, HB⟩ := hcut
        cases kq with
        | zero => exact absurd HA.out (by simp [raddlelaw07_OpUnlike.j3])
        | succ kj54 =>
         have H := HA.out
         clear HA
         simp only [raddlelaw07_OpUnlike.j3] at H
         by_cases c63 : x81_54 = true
         ·
          subst c63
          rw [if_pos rfl] at H
          exact absurd H (by rw [hrt]; simp)
         replace c63 := Bool.eq_false_iff.mpr c63
         subst c63
         rw [if_neg (show ¬ (false = true) by decide)] at H
         by_cases c64 : (IntKind.u64.wrap ((t558.length : Int))) = 0
         ·
          rw [if_pos c64] at H
          exact absurd H (by simp)
         rw [if_neg c64] at H
         have c64b0 : ((IntKind.u64.wrap ((t558.length : Int))) == 0) = false := beq_eq_false_iff_ne.mpr c64
         have c64b1 : ((IntKind.u64.wrap ((t558.length : Int))) != 0) = true := bne_iff_ne.mpr c64
         obtain ⟨ji65, hji65⟩ : ∃ j_ : Int, (wrap64 (Int.tmod (IntKind.u64.wrap (a4)) (IntKind.u64.wrap ((t558.length : Int))))) = j_ := ⟨_, rfl⟩
         replace H : (if 0 ≤ (ji65) then (if (ji65) ≤ (t558.length : Int) then ((op_Read.f (t558.take ((ji65) : Int).toNat) 0).bind fun bt577 => (if bt577.2.2.2.2.2.2.2.2.2.2.2.2.2 = 3 then (if bt577.2.2.2.2.2.2.2.2.2.2.2.2.1 = 0 then ((raddlekeep_Op.f kj54 bt577.1 bt577.2.1 bt577.2.2.1 bt577.2.2.2.1 bt577.2.2.2.2.1 bt577.2.2.2.2.2.1 bt577.2.2.2.2.2.2.1 bt577.2.2.2.2.2.2.2.1 bt577.2.2.2.2.2.2.2.2.1 bt577.2.2.2.2.2.2.2.2.2.1 bt577.2.2.2.2.2.2.2.2.2.2.1 bt577.2.2.2.2.2.2.2.2.2.2.2.1 0 0 ([] : List Int) 0 0 0 0 0 (⟨#[]⟩ : ByteArray) 0 ([] : List (S84)) ([] : List (S25))).bind fun t598 => (if t598 = true then ((raddlelaw07_wakes.f).bind fun t599 => (some t599)) else (some false))) else (some false)) else (some false))) else (none)) else (none)) = some r := by first | (rw [hji65] at H; exact H) | (simp only [hji65] at H ⊢; exact H)
         have hji65w : (IntKind.i64.wrap (Int.tmod (IntKind.u64.wrap (a4)) (IntKind.u64.wrap ((t558.length : Int))))) = ji65 := (i64_w _).trans hji65
         by_cases c66 : 0 ≤ (ji65)
         rotate_left
         ·
          rw [if_neg c66] at H
          exact absurd H (by simp)
         rw [if_pos c66] at H
         have c66b0 := eq_true c66
         have c66b1 : decide (0 ≤ (ji65)) = true := decide_eq_true c66
         clear c66
         by_cases c67 : (ji65) ≤ (t558.length : Int)
         rotate_left
         ·
          rw [if_neg c67] at H
          exact absurd H (by simp)
         rw [if_pos c67] at H
         have c67b0 := eq_true c67
         have c67b1 : decide ((ji65) ≤ (t558.length : Int)) = true := decide_eq_true c67
         clear c67
         obtain ⟨y573, hy573⟩ : ∃ y_ : List Int, y_ = (t558.take ((ji65) : Int).toNat) := ⟨_, rfl⟩
         replace H : ((op_Read.f y573 0).bind fun bt577 => (if bt577.2.2.2.2.2.2.2.2.2.2.2.2.2 = 3 then (if bt577.2.2.2.2.2.2.2.2.2.2.2.2.1 = 0 then ((raddlekeep_Op.f kj54 bt577.1 bt577.2.1 bt577.2.2.1 bt577.2.2.2.1 bt577.2.2.2.2.1 bt577.2.2.2.2.2.1 bt577.2.2.2.2.2.2.1 bt577.2.2.2.2.2.2.2.1 bt577.2.2.2.2.2.2.2.2.1 bt577.2.2.2.2.2.2.2.2.2.1 bt577.2.2.2.2.2.2.2.2.2.2.1 bt577.2.2.2.2.2.2.2.2.2.2.2.1 0 0 ([] : List Int) 0 0 0 0 0 (⟨#[]⟩ : ByteArray) 0 ([] : List (S84)) ([] : List (S25))).bind fun t598 => (if t598 = true then ((raddlelaw07_wakes.f).bind fun t599 => (some t599)) else (some false))) else (some false)) else (some false))) = some r := by first | (rw [hy573]; with_reducible exact H) | (have H2_ := (Option.bind_some _ _).symm.trans H; rw [hy573]; with_reducible exact H2_) | (have H2_ := (Option.bind_some _ _).symm.trans H; with_reducible exact H2_) | with_reducible exact H | (rw [hy573]; exact H) | exact H
         have Ny573 := mk_ hy573
         clear hy573
         replace H := Option.bind_eq_some_iff.mp H
         obtain ⟨⟨t577, t578, t579, t582, t583, t584, t585, t586, t587, t588, t589, t592, t595, t596⟩, A680, H⟩ := H
         replace H : (if t596 = 3 then (if t595 = 0 then ((raddlekeep_Op.f kj54 t577 t578 t579 t582 t583 t584 t585 t586 t587 t588 t589 t592 0 0 ([] : List Int) 0 0 0 0 0 (⟨#[]⟩ : ByteArray) 0 ([] : List (S84)) ([] : List (S25))).bind fun t598 => (if t598 = true then ((raddlelaw07_wakes.f).bind fun t599 => (some t599)) else (some false))) else (some false)) else (some false)) = some r := H
         have A68 := mk_ A680
         clear A680
         by_cases c69 : t596 = 3
         rotate_left
         ·
          rw [if_neg c69] at H
          have c69b0 : (t596 == 3) = false := beq_eq_false_iff_ne.mpr c69
          have c69b1 : (t596 != 3) = true := bne_iff_ne.mpr c69
          exact absurd H (by rw [hrt]; simp)
         rw [if_pos c69] at H
         have c69b0 : (t596 == 3) = true := beq_iff_eq.mpr c69
         have c69b1 : (t596 != 3) = false := bne_eq_false_iff_eq.mpr c69
         clear c69
         by_cases c70 : t595 = 0
         rotate_left
         ·
          rw [if_neg c70] at H
          have c70b0 : (t595 == 0) = false := beq_eq_false_iff_ne.mpr c70
          have c70b1 : (t595 != 0) = true := bne_iff_ne.mpr c70
          exact absurd H (by rw [hrt]; simp)
         rw [if_pos c70] at H
         have c70b0 : (t595 == 0) = true := beq_iff_eq.mpr c70
         have c70b1 : (t595 != 0) = false := bne_eq_false_iff_eq.mpr c70
         clear c70
         replace H := Option.bind_eq_some_iff.mp H
         obtain ⟨t598, A710, H⟩ := H
         replace H : (if t598 = true then ((raddlelaw07_wakes.f).bind fun t599 => (some t599)) else (some false)) = some r := H
         have A71 := mk_ A710
         clear A710
         by_cases c72 : t598 = true
         rotate_left
         ·
          replace c72 := Bool.eq_false_iff.mpr c72
          subst c72
          rw [if_neg (show ¬ (false = true) by decide)] at H
          exact absurd H (by rw [hrt]; simp)
         subst c72
         rw [if_pos rfl] at H
         replace H := Option.bind_eq_some_iff.mp H
         obtain ⟨t599, A730, H⟩ := H
         replace H : (some t599) = some r := H
         have A73 := mk_ A730
         clear A730
         obtain rfl := Option.some.inj H
         obtain ⟨Ao74, co74, eo74⟩ := R_slice HO_11.out
         subst eo74
         have q75 : ((ji65) : Int) ≤ ((t558.length : Int) : Int) := of_decide_eq_true z1_
         obtain ⟨i075, hi075, _, hsz75, _⟩ := info_parts info5
         have hroom75 : t558.length ≤ co74 := (R_reads' HO_11.out).2.1
         have hC75 : Kd.C (Kd.int .u8) _ Ao74 t558.length t558 := (R_reads' HO_11.out).2.2
         have hcut75 := cut_to (P := Try.prog) 22 5 .i64 Try.underlying22 hi075 Ao74 t558.length co74 (ji65) (of_decide_eq_true z1_) q75 hroom75
         have hr75 := C_take (m := ((ji65) : Int).toNat) hC75 z4_
         have hy75 : y573.length = ((ji65) : Int).toNat := (by rw [Ny573.out, List.length_take]; omega)
         rw [← Ny573.out] at hr75
         rw [← hy75] at hcut75
         have HR576 := mk_ hr75
         have HC576 := mk_ (show y573.length ≤ co74 from by omega)
         clear hr75 hC75 hroom75 hi075 hsz75
         have KY75 := mk_ hy75
         clear hy75
         have KL75 := mk_ (show ((ji65) : Int).toNat ≤ t558.length from by omega)
         replace q75 := eq_true q75
         go_wp2_with (first | ((with_reducible refine gate_callee (f := 11) rfl ?_); refine Short.gL (some 92) Try.func11 #[.slice Ao74 y573.length co74, .int .i64 0] (h := ?_); (with_reducible refine (op_Read.calls _ _ y573 0 t577 t578 t579 t582 t583 t584 t585 t586 t587 t588 t589 t592 t595 t596 _ ?side1 ?side2 A68.out).mono ?_); (case side1 => exact cX_ (cK_ HR576)); (case side2 => exact HC576.out); rintro e w76 ⟨v580, v590, v593, rfl, ho0, ho1, ho2, hb⟩; refine ⟨_, rfl, ?_⟩; have n0_ := mk_ (R_below (ZKR HO_11) hb); have n1_ := mk_ (R_lower ho0 (below_size (Short.hB HB))); have n2_ := mk_ (R_lower ho1 (below_size (Short.hB HB))); have n3_ := mk_ (R_lower ho2 (below_size (Short.hB HB))); have n4_ := mk_ (bB_ BK554 hb); have n5_ := mk_ (bB_ BK555 hb); have n6_ := mk_ (C_below (cK_ HR576) hb); have n7_ := mk_ (below_step (Short.hB HB) hb); clear HO_11 BK554 BK555 HR576 HB; revert n0_ n1_ n2_ n3_ n4_ n5_ n6_ n7_; intro HO_11 HO581 HO591 HO594 BK554 BK555 HR576 HB; (try clear hb ho0); (try clear ho1); (try clear ho2)) | ((with_reducible refine gate_dst (N := 15) rfl ?_); refine box_event ?hg (N := 15) ?hd (cs := #[.int .i64 0, .int .i64 0, .slice none 0 0, .int .i64 0, .int .i64 0, .int .i64 0, .int .i64 0, .int .i64 0, .string (⟨#[]⟩ : ByteArray), .int .i64 0, .slice none 0 0, .slice none 0 0]) (t := 32) ?hr ?_; (case hd => rfl); (case hg => rfl); (case hr => first | (go_simp; done) | (go_simp; rfl)); intro gb597 hg w77 hbox hb; have n0_ := mk_ (R_below (ZKR HO_11) hb); have n1_ := mk_ (R_below (ZKR HO581) hb); have n2_ := mk_ (R_below (ZKR HO591) hb); have n3_ := mk_ (R_below (ZKR HO594) hb); have n4_ := mk_ (bB_ BK554 hb); have n5_ := mk_ (bB_ BK555 hb); have n6_ := mk_ (C_below (cK_ HR576) hb); have n7_ := mk_ (below_step (Short.hB HB) hb); have n8_ := mk_ (hbox); have n9_ := mk_ ((by rw [hg]; exact (below_size (Short.hB HB)) : w.heap.size ≤ gb597)); have n10_ := mk_ ((by rw [hg]; exact (below_size (Short.hB HB)) : w.heap.size ≤ gb597)); have n11_ := mk_ ((by rw [hg]; exact Nat.ne_of_lt (blk_lt (Short.bK BK554)) : gb554 ≠ gb597)); have n12_ := mk_ ((by rw [hg]; exact Nat.ne_of_gt (blk_lt (Short.bK BK554)) : gb597 ≠ gb554)); have n13_ := mk_ ((by rw [hg]; exact Nat.ne_of_lt (blk_lt (Short.bK BK555)) : gb555 ≠ gb597)); have n14_ := mk_ ((by rw [hg]; exact Nat.ne_of_gt (blk_lt (Short.bK BK555)) : gb597 ≠ gb555)); clear HO_11 HO581 HO591 HO594 BK554 BK555 HR576 HB; revert n0_ n1_ n2_ n3_ n4_ n5_ n6_ n7_ n8_ n9_ n10_ n11_ n12_ n13_ n14_; intro HO_11 HO581 HO591 HO594 BK554 BK555 HR576 HB BK597 GW597 GE597 NB554_597 NB597_554 NB555_597 NB597_555; clear hb hbox hg; have hnb78 := NB597_554.out; have hnc78 := NB554_597.out; have hnb79 := NB597_555.out; have hnc79 := NB555_597.out; have hcz80_0 := blk_cell BK597.out; have hfz80_0 := blk_frozen BK597.out; obtain ⟨Ao81, co81, eo81⟩ := R_slice HO581.out; subst eo81; obtain ⟨Ao82, co82, eo82⟩ := R_slice HO591.out; subst eo82; obtain ⟨Ao83, co83, eo83⟩ := R_slice HO594.out; subst eo83) | (go_at_call 13; (refine (raddlekeep_Op.calls kj54 t577 t578 _ _ t579 t582 t583 t584 t585 t586 t587 t588 _ _ t589 _ _ t592 0 0 _ _ ([] : List Int) 0 0 0 0 0 (⟨#[]⟩ : ByteArray) 0 _ _ ([] : List (S84)) _ _ ([] : List (S25)) true _ ?side1 ?side2 ?side3 ?side4 ?side5 ?side6 ?side7 ?side8 ?side9 ?side10 ?side11 ?side12 A71.out).mono ?_); (case side1 => refine (R_reads' (e := 3) (base := w.heap.size) (ok := fun k_ => True) (n := t579.length) (c := co81) ?_).2.2; exact (by (with_reducible repeat (first | apply R_alloc | apply R_drewN | apply R_drew)); exact (R_mono (R_far (p := ⟨gb597, 11, none⟩) (R_far (p := ⟨gb597, 10, none⟩) (R_far (p := ⟨gb597, 9, none⟩) (R_far (p := ⟨gb597, 8, none⟩) (R_far (p := ⟨gb597, 7, none⟩) (R_far (p := ⟨gb597, 6, none⟩) (R_far (p := ⟨gb597, 5, none⟩) (R_far (p := ⟨gb597, 4, none⟩) (R_far (p := ⟨gb597, 3, none⟩) (R_far (p := ⟨gb597, 2, none⟩) (R_far (p := ⟨gb597, 1, none⟩) (R_far (p := ⟨gb597, 0, none⟩) (R_types HO581.out BK597.out z5_) (fun _ hk => hk.2) (.int .i64 t577)) (fun _ hk => hk.2) (.int .i64 t578)) (fun _ hk => hk.2) (.slice Ao81 t579.length co81)) (fun _ hk => hk.2) (.int .i64 t582)) (fun _ hk => hk.2) (.int .i64 t583)) (fun _ hk => hk.2) (.int .i64 t584)) (fun _ hk => hk.2) (.int .i64 t585)) (fun _ hk => hk.2) (.int .i64 t586)) (fun _ hk => hk.2) (.string t587)) (fun _ hk => hk.2) (.int .i64 t588)) (fun _ hk => hk.2) (.slice Ao82 t589.length co82)) (fun _ hk => hk.2) (.slice Ao83 t592.length co83)) (fun _ h_ => h_.1)))); (case side2 => exact (R_reads' HO581.out).2.1); (case side3 => refine (R_reads' (e := 84) (base := w.heap.size) (ok := fun k_ => True) (n := t589.length) (c := co82) ?_).2.2; exact (by (with_reducible repeat (first | apply R_alloc | apply R_drewN | apply R_drew)); exact (R_mono (R_far (p := ⟨gb597, 11, none⟩) (R_far (p := ⟨gb597, 10, none⟩) (R_far (p := ⟨gb597, 9, none⟩) (R_far (p := ⟨gb597, 8, none⟩) (R_far (p := ⟨gb597, 7, none⟩) (R_far (p := ⟨gb597, 6, none⟩) (R_far (p := ⟨gb597, 5, none⟩) (R_far (p := ⟨gb597, 4, none⟩) (R_far (p := ⟨gb597, 3, none⟩) (R_far (p := ⟨gb597, 2, none⟩) (R_far (p := ⟨gb597, 1, none⟩) (R_far (p := ⟨gb597, 0, none⟩) (R_types HO591.out BK597.out z5_) (fun _ hk => hk.2) (.int .i64 t577)) (fun _ hk => hk.2) (.int .i64 t578)) (fun _ hk => hk.2) (.slice Ao81 t579.length co81)) (fun _ hk => hk.2) (.int .i64 t582)) (fun _ hk => hk.2) (.int .i64 t583)) (fun _ hk => hk.2) (.int .i64 t584)) (fun _ hk => hk.2) (.int .i64 t585)) (fun _ hk => hk.2) (.int .i64 t586)) (fun _ hk => hk.2) (.string t587)) (fun _ hk => hk.2) (.int .i64 t588)) (fun _ hk => hk.2) (.slice Ao82 t589.length co82)) (fun _ hk => hk.2) (.slice Ao83 t592.length co83)) (fun _ h_ => h_.1)))); (case side4 => exact (R_reads' HO591.out).2.1); (case side5 => refine (R_reads' (e := 25) (base := w.heap.size) (ok := fun k_ => True) (n := t592.length) (c := co83) ?_).2.2; exact (by (with_reducible repeat (first | apply R_alloc | apply R_drewN | apply R_drew)); exact (R_mono (R_far (p := ⟨gb597, 11, none⟩) (R_far (p := ⟨gb597, 10, none⟩) (R_far (p := ⟨gb597, 9, none⟩) (R_far (p := ⟨gb597, 8, none⟩) (R_far (p := ⟨gb597, 7, none⟩) (R_far (p := ⟨gb597, 6, none⟩) (R_far (p := ⟨gb597, 5, none⟩) (R_far (p := ⟨gb597, 4, none⟩) (R_far (p := ⟨gb597, 3, none⟩) (R_far (p := ⟨gb597, 2, none⟩) (R_far (p := ⟨gb597, 1, none⟩) (R_far (p := ⟨gb597, 0, none⟩) (R_types HO594.out BK597.out z5_) (fun _ hk => hk.2) (.int .i64 t577)) (fun _ hk => hk.2) (.int .i64 t578)) (fun _ hk => hk.2) (.slice Ao81 t579.length co81)) (fun _ hk => hk.2) (.int .i64 t582)) (fun _ hk => hk.2) (.int .i64 t583)) (fun _ hk => hk.2) (.int .i64 t584)) (fun _ hk => hk.2) (.int .i64 t585)) (fun _ hk => hk.2) (.int .i64 t586)) (fun _ hk => hk.2) (.string t587)) (fun _ hk => hk.2) (.int .i64 t588)) (fun _ hk => hk.2) (.slice Ao82 t589.length co82)) (fun _ hk => hk.2) (.slice Ao83 t592.length co83)) (fun _ h_ => h_.1)))); (case side6 => exact (R_reads' HO594.out).2.1); (case side7 => exact C_nil _ _); (case side8 => exact Nat.le_refl _); (case side9 => exact C_nil _ _); (case side10 => exact Nat.le_refl _); (case side11 => exact C_nil _ _); (case side12 => exact Nat.le_refl _); rintro e w84 ⟨rfl, hb⟩; have n0_ := mk_ (R_below (by (with_reducible repeat (first | apply R_alloc | apply R_drewN | apply R_drew)); exact (R_mono (R_far (p := ⟨gb597, 11, none⟩) (R_far (p := ⟨gb597, 10, none⟩) (R_far (p := ⟨gb597, 9, none⟩) (R_far (p := ⟨gb597, 8, none⟩) (R_far (p := ⟨gb597, 7, none⟩) (R_far (p := ⟨gb597, 6, none⟩) (R_far (p := ⟨gb597, 5, none⟩) (R_far (p := ⟨gb597, 4, none⟩) (R_far (p := ⟨gb597, 3, none⟩) (R_far (p := ⟨gb597, 2, none⟩) (R_far (p := ⟨gb597, 1, none⟩) (R_far (p := ⟨gb597, 0, none⟩) (R_types HO_11.out BK597.out z5_) (fun _ hk => hk.2) (.int .i64 t577)) (fun _ hk => hk.2) (.int .i64 t578)) (fun _ hk => hk.2) (.slice Ao81 t579.length co81)) (fun _ hk => hk.2) (.int .i64 t582)) (fun _ hk => hk.2) (.int .i64 t583)) (fun _ hk => hk.2) (.int .i64 t584)) (fun _ hk => hk.2) (.int .i64 t585)) (fun _ hk => hk.2) (.int .i64 t586)) (fun _ hk => hk.2) (.string t587)) (fun _ hk => hk.2) (.int .i64 t588)) (fun _ hk => hk.2) (.slice Ao82 t589.length co82)) (fun _ hk => hk.2) (.slice Ao83 t592.length co83)) (fun _ h_ => h_.1))) hb); have n1_ := mk_ (R_below (by (with_reducible repeat (first | apply R_alloc | apply R_drewN | apply R_drew)); exact (R_mono (R_far (p := ⟨gb597, 11, none⟩) (R_far (p := ⟨gb597, 10, none⟩) (R_far (p := ⟨gb597, 9, none⟩) (R_far (p := ⟨gb597, 8, none⟩) (R_far (p := ⟨gb597, 7, none⟩) (R_far (p := ⟨gb597, 6, none⟩) (R_far (p := ⟨gb597, 5, none⟩) (R_far (p := ⟨gb597, 4, none⟩) (R_far (p := ⟨gb597, 3, none⟩) (R_far (p := ⟨gb597, 2, none⟩) (R_far (p := ⟨gb597, 1, none⟩) (R_far (p := ⟨gb597, 0, none⟩) (R_types HO581.out BK597.out z5_) (fun _ hk => hk.2) (.int .i64 t577)) (fun _ hk => hk.2) (.int .i64 t578)) (fun _ hk => hk.2) (.slice Ao81 t579.length co81)) (fun _ hk => hk.2) (.int .i64 t582)) (fun _ hk => hk.2) (.int .i64 t583)) (fun _ hk => hk.2) (.int .i64 t584)) (fun _ hk => hk.2) (.int .i64 t585)) (fun _ hk => hk.2) (.int .i64 t586)) (fun _ hk => hk.2) (.string t587)) (fun _ hk => hk.2) (.int .i64 t588)) (fun _ hk => hk.2) (.slice Ao82 t589.length co82)) (fun _ hk => hk.2) (.slice Ao83 t592.length co83)) (fun _ h_ => h_.1))) hb); have n2_ := mk_ (R_below (by (with_reducible repeat (first | apply R_alloc | apply R_drewN | apply R_drew)); exact (R_mono (R_far (p := ⟨gb597, 11, none⟩) (R_far (p := ⟨gb597, 10, none⟩) (R_far (p := ⟨gb597, 9, none⟩) (R_far (p := ⟨gb597, 8, none⟩) (R_far (p := ⟨gb597, 7, none⟩) (R_far (p := ⟨gb597, 6, none⟩) (R_far (p := ⟨gb597, 5, none⟩) (R_far (p := ⟨gb597, 4, none⟩) (R_far (p := ⟨gb597, 3, none⟩) (R_far (p := ⟨gb597, 2, none⟩) (R_far (p := ⟨gb597, 1, none⟩) (R_far (p := ⟨gb597, 0, none⟩) (R_types HO591.out BK597.out z5_) (fun _ hk => hk.2) (.int .i64 t577)) (fun _ hk => hk.2) (.int .i64 t578)) (fun _ hk => hk.2) (.slice Ao81 t579.length co81)) (fun _ hk => hk.2) (.int .i64 t582)) (fun _ hk => hk.2) (.int .i64 t583)) (fun _ hk => hk.2) (.int .i64 t584)) (fun _ hk => hk.2) (.int .i64 t585)) (fun _ hk => hk.2) (.int .i64 t586)) (fun _ hk => hk.2) (.string t587)) (fun _ hk => hk.2) (.int .i64 t588)) (fun _ hk => hk.2) (.slice Ao82 t589.length co82)) (fun _ hk => hk.2) (.slice Ao83 t592.length co83)) (fun _ h_ => h_.1))) hb); have n3_ := mk_ (R_below (by (with_reducible repeat (first | apply R_alloc | apply R_drewN | apply R_drew)); exact (R_mono (R_far (p := ⟨gb597, 11, none⟩) (R_far (p := ⟨gb597, 10, none⟩) (R_far (p := ⟨gb597, 9, none⟩) (R_far (p := ⟨gb597, 8, none⟩) (R_far (p := ⟨gb597, 7, none⟩) (R_far (p := ⟨gb597, 6, none⟩) (R_far (p := ⟨gb597, 5, none⟩) (R_far (p := ⟨gb597, 4, none⟩) (R_far (p := ⟨gb597, 3, none⟩) (R_far (p := ⟨gb597, 2, none⟩) (R_far (p := ⟨gb597, 1, none⟩) (R_far (p := ⟨gb597, 0, none⟩) (R_types HO594.out BK597.out z5_) (fun _ hk => hk.2) (.int .i64 t577)) (fun _ hk => hk.2) (.int .i64 t578)) (fun _ hk => hk.2) (.slice Ao81 t579.length co81)) (fun _ hk => hk.2) (.int .i64 t582)) (fun _ hk => hk.2) (.int .i64 t583)) (fun _ hk => hk.2) (.int .i64 t584)) (fun _ hk => hk.2) (.int .i64 t585)) (fun _ hk => hk.2) (.int .i64 t586)) (fun _ hk => hk.2) (.string t587)) (fun _ hk => hk.2) (.int .i64 t588)) (fun _ hk => hk.2) (.slice Ao82 t589.length co82)) (fun _ hk => hk.2) (.slice Ao83 t592.length co83)) (fun _ h_ => h_.1))) hb); have n4_ := mk_ (blk_below (g := gb554) (o := .cells #[.int .i64 a2_0, .int .i64 a2_1, .slice A2_2 l2_2.length c2_2, .int .i64 a2_3, .int .i64 a2_4, .int .i64 a2_5, .int .i64 a2_6, .int .i64 a2_7, .string a2_8, .int .i64 a2_9, .slice A2_10 l2_10.length c2_10, .slice A2_11 l2_11.length c2_11] 32 (0, 0)) (by (with_reducible repeat (first | refine blk_drewN ?_ _ | refine blk_drew ?_ | refine blk_alloc ?_ _)); refine blk_far ?_ NB554_597.out _; (with_reducible repeat (first | refine blk_drewN ?_ _ | refine blk_drew ?_ | refine blk_alloc ?_ _)); refine blk_far ?_ NB554_597.out _; (with_reducible repeat (first | refine blk_drewN ?_ _ | refine blk_drew ?_ | refine blk_alloc ?_ _)); refine blk_far ?_ NB554_597.out _; (with_reducible repeat (first | refine blk_drewN ?_ _ | refine blk_drew ?_ | refine blk_alloc ?_ _)); refine blk_far ?_ NB554_597.out _; (with_reducible repeat (first | refine blk_drewN ?_ _ | refine blk_drew ?_ | refine blk_alloc ?_ _)); refine blk_far ?_ NB554_597.out _; (with_reducible repeat (first | refine blk_drewN ?_ _ | refine blk_drew ?_ | refine blk_alloc ?_ _)); refine blk_far ?_ NB554_597.out _; (with_reducible repeat (first | refine blk_drewN ?_ _ | refine blk_drew ?_ | refine blk_alloc ?_ _)); refine blk_far ?_ NB554_597.out _; (with_reducible repeat (first | refine blk_drewN ?_ _ | refine blk_drew ?_ | refine blk_alloc ?_ _)); refine blk_far ?_ NB554_597.out _; (with_reducible repeat (first | refine blk_drewN ?_ _ | refine blk_drew ?_ | refine blk_alloc ?_ _)); refine blk_far ?_ NB554_597.out _; (with_reducible repeat (first | refine blk_drewN ?_ _ | refine blk_drew ?_ | refine blk_alloc ?_ _)); refine blk_far ?_ NB554_597.out _; (with_reducible repeat (first | refine blk_drewN ?_ _ | refine blk_drew ?_ | refine blk_alloc ?_ _)); refine blk_far ?_ NB554_597.out _; (with_reducible repeat (first | refine blk_drewN ?_ _ | refine blk_drew ?_ | refine blk_alloc ?_ _)); refine blk_far ?_ NB554_597.out _; (with_reducible repeat (first | refine blk_drewN ?_ _ | refine blk_drew ?_ | refine blk_alloc ?_ _)); exact BK554.out) hb); have n5_ := mk_ (blk_below (g := gb555) (o := .cells #[.int .i64 a3_0, .int .i64 a3_1, .slice A3_2 l3_2.length c3_2, .int .i64 a3_3, .int .i64 a3_4, .int .i64 a3_5, .int .i64 a3_6, .int .i64 a3_7, .string a3_8, .int .i64 a3_9, .slice A3_10 l3_10.length c3_10, .slice A3_11 l3_11.length c3_11] 32 (0, 0)) (by (with_reducible repeat (first | refine blk_drewN ?_ _ | refine blk_drew ?_ | refine blk_alloc ?_ _)); refine blk_far ?_ NB555_597.out _; (with_reducible repeat (first | refine blk_drewN ?_ _ | refine blk_drew ?_ | refine blk_alloc ?_ _)); refine blk_far ?_ NB555_597.out _; (with_reducible repeat (first | refine blk_drewN ?_ _ | refine blk_drew ?_ | refine blk_alloc ?_ _)); refine blk_far ?_ NB555_597.out _; (with_reducible repeat (first | refine blk_drewN ?_ _ | refine blk_drew ?_ | refine blk_alloc ?_ _)); refine blk_far ?_ NB555_597.out _; (with_reducible repeat (first | refine blk_drewN ?_ _ | refine blk_drew ?_ | refine blk_alloc ?_ _)); refine blk_far ?_ NB555_597.out _; (with_reducible repeat (first | refine blk_drewN ?_ _ | refine blk_drew ?_ | refine blk_alloc ?_ _)); refine blk_far ?_ NB555_597.out _; (with_reducible repeat (first | refine blk_drewN ?_ _ | refine blk_drew ?_ | refine blk_alloc ?_ _)); refine blk_far ?_ NB555_597.out _; (with_reducible repeat (first | refine blk_drewN ?_ _ | refine blk_drew ?_ | refine blk_alloc ?_ _)); refine blk_far ?_ NB555_597.out _; (with_reducible repeat (first | refine blk_drewN ?_ _ | refine blk_drew ?_ | refine blk_alloc ?_ _)); refine blk_far ?_ NB555_597.out _; (with_reducible repeat (first | refine blk_drewN ?_ _ | refine blk_drew ?_ | refine blk_alloc ?_ _)); refine blk_far ?_ NB555_597.out _; (with_reducible repeat (first | refine blk_drewN ?_ _ | refine blk_drew ?_ | refine blk_alloc ?_ _)); refine blk_far ?_ NB555_597.out _; (with_reducible repeat (first | refine blk_drewN ?_ _ | refine blk_drew ?_ | refine blk_alloc ?_ _)); refine blk_far ?_ NB555_597.out _; (with_reducible repeat (first | refine blk_drewN ?_ _ | refine blk_drew ?_ | refine blk_alloc ?_ _)); exact BK555.out) hb); have n6_ := mk_ (blk_below (g := gb597) (o := .cells #[.int .i64 t577, .int .i64 t578, .slice Ao81 t579.length co81, .int .i64 t582, .int .i64 t583, .int .i64 t584, .int .i64 t585, .int .i64 t586, .string t587, .int .i64 t588, .slice Ao82 t589.length co82, .slice Ao83 t592.length co83] 32 (0, 0)) (by (with_reducible repeat (first | refine blk_drewN ?_ _ | refine blk_drew ?_ | refine blk_alloc ?_ _)); refine blk_put (cs := #[.int .i64 t577, .int .i64 t578, .slice Ao81 t579.length co81, .int .i64 t582, .int .i64 t583, .int .i64 t584, .int .i64 t585, .int .i64 t586, .string t587, .int .i64 t588, .slice Ao82 t589.length co82, .slice none 0 0]) ?_ 11 _ rfl; (with_reducible repeat (first | refine blk_drewN ?_ _ | refine blk_drew ?_ | refine blk_alloc ?_ _)); refine blk_put (cs := #[.int .i64 t577, .int .i64 t578, .slice Ao81 t579.length co81, .int .i64 t582, .int .i64 t583, .int .i64 t584, .int .i64 t585, .int .i64 t586, .string t587, .int .i64 t588, .slice none 0 0, .slice none 0 0]) ?_ 10 _ rfl; (with_reducible repeat (first | refine blk_drewN ?_ _ | refine blk_drew ?_ | refine blk_alloc ?_ _)); refine blk_put (cs := #[.int .i64 t577, .int .i64 t578, .slice Ao81 t579.length co81, .int .i64 t582, .int .i64 t583, .int .i64 t584, .int .i64 t585, .int .i64 t586, .string t587, .int .i64 0, .slice none 0 0, .slice none 0 0]) ?_ 9 _ rfl; (with_reducible repeat (first | refine blk_drewN ?_ _ | refine blk_drew ?_ | refine blk_alloc ?_ _)); refine blk_put (cs := #[.int .i64 t577, .int .i64 t578, .slice Ao81 t579.length co81, .int .i64 t582, .int .i64 t583, .int .i64 t584, .int .i64 t585, .int .i64 t586, .string (⟨#[]⟩ : ByteArray), .int .i64 0, .slice none 0 0, .slice none 0 0]) ?_ 8 _ rfl; (with_reducible repeat (first | refine blk_drewN ?_ _ | refine blk_drew ?_ | refine blk_alloc ?_ _)); refine blk_put (cs := #[.int .i64 t577, .int .i64 t578, .slice Ao81 t579.length co81, .int .i64 t582, .int .i64 t583, .int .i64 t584, .int .i64 t585, .int .i64 0, .string (⟨#[]⟩ : ByteArray), .int .i64 0, .slice none 0 0, .slice none 0 0]) ?_ 7 _ rfl; (with_reducible repeat (first | refine blk_drewN ?_ _ | refine blk_drew ?_ | refine blk_alloc ?_ _)); refine blk_put (cs := #[.int .i64 t577, .int .i64 t578, .slice Ao81 t579.length co81, .int .i64 t582, .int .i64 t583, .int .i64 t584, .int .i64 0, .int .i64 0, .string (⟨#[]⟩ : ByteArray), .int .i64 0, .slice none 0 0, .slice none 0 0]) ?_ 6 _ rfl; (with_reducible repeat (first | refine blk_drewN ?_ _ | refine blk_drew ?_ | refine blk_alloc ?_ _)); refine blk_put (cs := #[.int .i64 t577, .int .i64 t578, .slice Ao81 t579.length co81, .int .i64 t582, .int .i64 t583, .int .i64 0, .int .i64 0, .int .i64 0, .string (⟨#[]⟩ : ByteArray), .int .i64 0, .slice none 0 0, .slice none 0 0]) ?_ 5 _ rfl; (with_reducible repeat (first | refine blk_drewN ?_ _ | refine blk_drew ?_ | refine blk_alloc ?_ _)); refine blk_put (cs := #[.int .i64 t577, .int .i64 t578, .slice Ao81 t579.length co81, .int .i64 t582, .int .i64 0, .int .i64 0, .int .i64 0, .int .i64 0, .string (⟨#[]⟩ : ByteArray), .int .i64 0, .slice none 0 0, .slice none 0 0]) ?_ 4 _ rfl; (with_reducible repeat (first | refine blk_drewN ?_ _ | refine blk_drew ?_ | refine blk_alloc ?_ _)); refine blk_put (cs := #[.int .i64 t577, .int .i64 t578, .slice Ao81 t579.length co81, .int .i64 0, .int .i64 0, .int .i64 0, .int .i64 0, .int .i64 0, .string (⟨#[]⟩ : ByteArray), .int .i64 0, .slice none 0 0, .slice none 0 0]) ?_ 3 _ rfl; (with_reducible repeat (first | refine blk_drewN ?_ _ | refine blk_drew ?_ | refine blk_alloc ?_ _)); refine blk_put (cs := #[.int .i64 t577, .int .i64 t578, .slice none 0 0, .int .i64 0, .int .i64 0, .int .i64 0, .int .i64 0, .int .i64 0, .string (⟨#[]⟩ : ByteArray), .int .i64 0, .slice none 0 0, .slice none 0 0]) ?_ 2 _ rfl; (with_reducible repeat (first | refine blk_drewN ?_ _ | refine blk_drew ?_ | refine blk_alloc ?_ _)); refine blk_put (cs := #[.int .i64 t577, .int .i64 0, .slice none 0 0, .int .i64 0, .int .i64 0, .int .i64 0, .int .i64 0, .int .i64 0, .string (⟨#[]⟩ : ByteArray), .int .i64 0, .slice none 0 0, .slice none 0 0]) ?_ 1 _ rfl; (with_reducible repeat (first | refine blk_drewN ?_ _ | refine blk_drew ?_ | refine blk_alloc ?_ _)); refine blk_put (cs := #[.int .i64 0, .int .i64 0, .slice none 0 0, .int .i64 0, .int .i64 0, .int .i64 0, .int .i64 0, .int .i64 0, .string (⟨#[]⟩ : ByteArray), .int .i64 0, .slice none 0 0, .slice none 0 0]) ?_ 0 _ rfl; (with_reducible repeat (first | refine blk_drewN ?_ _ | refine blk_drew ?_ | refine blk_alloc ?_ _)); exact BK597.out) hb); have n7_ := mk_ (below_step (Short.hB HB) hb); clear HO_11 HO581 HO591 HO594 BK554 BK555 BK597 HB; revert n0_ n1_ n2_ n3_ n4_ n5_ n6_ n7_; intro HO_11 HO581 HO591 HO594 BK554 BK555 BK597 HB; (try clear hb); (try clear hb2); (try clear hk); (try clear hi)) | (go_at_call 15; (with_reducible refine (raddlelaw07_wakes.calls  t599 _ A73.out).mono ?_); rintro e w85 ⟨rfl, hb⟩; have n8_ := mk_ (below_step (Short.hB HB) hb); clear HB; have HB := n8_; clear n8_ hb))
         go_ret
         exact ⟨by first | rfl | (simp [errW_none, errW_some] <;> rfl) | (simp only [← hji65]; first | rfl | (simp [errW_none, errW_some] <;> rfl)) | (simp [*, errW_none, errW_some] <;> rfl), Short.hB HB⟩
def raddlelaw07_OpUnlike.WF51 (x : S51) : Prop := (x.f0.length ≤ maxLen ∧ ∀ x0_ ∈ x.f0, (Lit.int .i64 x0_).wf = true)
def raddlelaw07_OpUnlike.WF25 (x : S25) : Prop := (Lit.int .i64 x.f0).wf = true ∧ (Lit.int .i64 x.f1).wf = true
def raddlelaw07_OpUnlike.WF28 (x : S28) : Prop := (Lit.int .i64 x.f0).wf = true ∧ (Lit.int .i64 x.f1).wf = true ∧ (Lit.int .i64 x.f2).wf = true
def raddlelaw07_OpUnlike.WF84 (x : S84) : Prop := (Lit.int .i64 x.f0).wf = true ∧ (Lit.int .i64 x.f1).wf = true ∧ x.f2.size ≤ maxLen
def raddlelaw07_OpUnlike.WF32 (x : S32) : Prop := raddlelaw07_OpUnlike.WF25 x.f0 ∧ (x.f1.length ≤ maxLen ∧ ∀ x0_ ∈ x.f1, (Lit.int .i64 x0_).wf = true) ∧ raddlelaw07_OpUnlike.WF28 x.f2 ∧ (Lit.int .i64 x.f3).wf = true ∧ (Lit.int .i64 x.f4).wf = true ∧ x.f5.size ≤ maxLen ∧ (Lit.int .i64 x.f6).wf = true ∧ (x.f7.length ≤ maxLen ∧ ∀ x0_ ∈ x.f7, raddlelaw07_OpUnlike.WF84 x0_) ∧ (x.f8.length ≤ maxLen ∧ ∀ x0_ ∈ x.f8, raddlelaw07_OpUnlike.WF25 x0_)
def raddlelaw07_OpUnlike.Pure : Prop := ∀ (x0 : Int) (x1 : List (S51)) (x2 : S32) (x3 : S32) (x4 : Int), (Lit.int .i64 x0).wf = true → (x1.length ≤ maxLen ∧ ∀ x0_ ∈ x1, raddlelaw07_OpUnlike.WF51 x0_) → raddlelaw07_OpUnlike.WF32 x2 → raddlelaw07_OpUnlike.WF32 x3 → (Lit.int .i64 x4).wf = true → ∃ k, raddlelaw07_OpUnlike.f k x0 x1 x2.f0.f0 x2.f0.f1 x2.f1 x2.f2.f0 x2.f2.f1 x2.f2.f2 x2.f3 x2.f4 x2.f5 x2.f6 x2.f7 x2.f8 x3.f0.f0 x3.f0.f1 x3.f1 x3.f2.f0 x3.f2.f1 x3.f2.f2 x3.f3 x3.f4 x3.f5 x3.f6 x3.f7 x3.f8 x4 = some true
end Go.Proofs.Ytjnjfogfpmeacaa.PAll
end
section
namespace Go.Proofs.Ytjnjfogfpmeacaa.Ops
open Go.RowKit PAll Plain PrintWords PrintMore ZipT PrintWords.Kd PrintMore.Kd
set_option linter.unusedVariables false
set_option linter.unusedSimpArgs false
def heavyOp (x : Ox) : Bool := decide ((x.f1.length : Int) > 30) || decide ((x.f5.size : Int) > 100) || heavy x.f7 || decide ((x.f8.length : Int) > 100)
theorem heavy_step (k : Nat) (l : List Ox) (i : Int) (x : Ox) (hi : 0 ≤ i) (hl : i < (l.length : Int)) (hx : rd_T32 l i = x) (hk : 60 ≤ k) :
  raddlelaw07_Heavy.l0 (k + 1) l i = if heavyOp x = true then some true else raddlelaw07_Heavy.l0 k l (wrap64 (i + 1)) := by
 rw [raddlelaw07_Heavy.l0]
 rw [if_pos hl, if_pos hi, hx]
 unfold heavyOp
 by_cases h1 : (x.f1.length : Int) > 30
 ·
  rw [if_pos h1, decide_eq_true h1]; simp
 rw [if_neg h1, decide_eq_false h1, Bool.false_or]
 by_cases h2 : (x.f5.size : Int) > 100
 ·
  rw [if_pos h2, decide_eq_true h2]; simp
 rw [if_neg h2, decide_eq_false h2, Bool.false_or, heavy_eq _ _ hk, Option.bind_some]
 cases heavy x.f7
 ·
  rw [if_neg z5_, Bool.false_or]
  by_cases h3 : (x.f8.length : Int) > 100
  ·
   rw [if_pos h3, decide_eq_true h3, if_pos rfl]
  rw [if_neg h3, decide_eq_false h3, if_neg z5_]
 ·
  rw [if_pos rfl]; simp
theorem heavy2_eq (x y : Ox) : raddlelaw07_Heavy2.f x.f0.f0 x.f0.f1 x.f1 x.f2.f0 x.f2.f1 x.f2.f2 x.f3 x.f4 x.f5 x.f6 x.f7 x.f8 y.f0.f0 y.f0.f1 y.f1 y.f2.f0 y.f2.f1 y.f2.f2 y.f3 y.f4 y.f5 y.f6 y.f7 y.f8 = some (heavyOp x || heavyOp y) := by
 show raddlelaw07_Heavy.f 500 [x, y] = _
 unfold raddlelaw07_Heavy.f
 rw [if_neg (by simp), heavy_step 499 [x, y] 0 x z4_ (by simp) rfl z4_]
 cases h : heavyOp x
 ·
  rw [if_neg z5_, w64 z4_ z4_, heavy_step 498 [x, y] (0 + 1) y z4_ (by simp) rfl z4_]
  cases h2 : heavyOp y
  ·
   rw [if_neg z5_, w64 z4_ z4_, show (498 : Nat) = 497 + 1 from rfl, raddlelaw07_Heavy.l0, if_neg (by simp)]; rfl
  ·
   rw [if_pos rfl]; rfl
 ·
  rw [if_pos rfl]; rfl
theorem light_small {x : Ox} (h : heavyOp x = false) : x.f1.length ≤ 30 ∧ x.f7.length ≤ 40 ∧ x.f8.length ≤ 100 ∧ x.f5.size ≤ 100 := by
 unfold heavyOp at h
 simp only [Bool.or_eq_false_iff, decide_eq_false_iff_not] at h
 have := heavy_len (show ¬ heavy x.f7 = true by rw [h.1.2]; decide)
 omega
theorem light_opSmall {x : Ox} (h : heavyOp x = false) : opSmall x := by
 have := light_small h
 exact ⟨by omega, by omega, by omega⟩
theorem flat_len {α : Type} {f : α → List Int} {n : Nat} (h : ∀ x, (f x).length = n) : ∀ l : List α, (l.flatMap f).length = n * l.length
 | [] => rfl
 | x :: l => by rw [List.flatMap_cons, List.length_append, h, flat_len h l, List.length_cons, Nat.mul_succ]; omega
theorem opB_length (x : Ox) : (opB x).length = 20 + 4 * x.f1.length + x.f5.size + (rowB x.f7).length + 1 + 5 * x.f8.length := by
 have h1 : (x.f1.flatMap fun n => big n 4).length = 4 * x.f1.length := flat_len (fun n => big_length _ _) _
 have h2 : (x.f8.flatMap dotB).length = 5 * x.f8.length := flat_len (fun d => by simp [dotB, big_length]) _
 simp only [opB, dotB, numsB, stampB, dotsB, encT, List.length_append, big_length, h1, h2, List.length_cons, bytesOf_length]
 omega
end Go.Proofs.Ytjnjfogfpmeacaa.Ops
end
section
namespace Go.Proofs.Ytjnjfogfpmeacaa.Ops
open Go.RowKit PAll Plain PrintWords PrintMore ZipT PrintWords.Kd PrintMore.Kd
set_option linter.unusedVariables false
set_option linter.unusedSimpArgs false
theorem had_all {v : List Int} : ∀ {l : List Dt} {p : Option Dt}, hadG v p l = true → ∀ d ∈ l, hasB v d = true
 | [], _, _, d, hd => by cases hd
 | x :: l, p, h, d, hd => by
  rw [hadG_cons, Bool.and_eq_true, Bool.and_eq_true] at h
  rcases List.mem_cons.1 hd with rfl | hd
  ·
   exact h.1.1
  ·
   exact had_all h.2 d hd
theorem rd_mem {l : List Int} {i : Int} (h0 : 0 ≤ i) (h1 : i < l.length) : rd l i ∈ l := by
 show l.getD i.toNat _ ∈ l
 rw [List.getD_eq_getElem?_getD, List.getElem?_eq_getElem z4_]
 exact List.getElem_mem _
theorem rdB_mem {l : List Tb} {i : Int} (h0 : 0 ≤ i) (h1 : i < l.length) : rd_T51 l i ∈ l := by
 show l.getD i.toNat _ ∈ l
 rw [List.getD_eq_getElem?_getD, List.getElem?_eq_getElem z4_]
 exact List.getElem_mem _
theorem fit1 {n : Int} (h : 0 ≤ n ∧ n ≤ 255) : fitN 1 n := ⟨h.1, by show n < 256; omega⟩
theorem small_row {l : List V} {c : List Int} (h : smallB l c = true) (hc : c.length ≤ 4) : rowE l = 0 := by
 unfold smallB at h
 rw [Bool.and_eq_true] at h
 have hl := fitsL_len h.1
 rw [rowE_zero]
 refine ⟨by omega, fun v hv => ?_⟩
 have := List.all_eq_true.1 h.2 v hv
 unfold smallV at this
 exact (of_decide_eq_true this).1
theorem right_fit {n : Int} {f : List Tb} {x : Ox} (h : checkE n f x = 0) : opFit x := by
 unfold checkE at h
 by_cases h0 : formsE f = 0
 rotate_left
 ·
  rw [if_pos h0] at h; exact absurd h h0
 rw [if_neg z4_] at h
 by_cases hn : n < 1 ∨ n > 5
 ·
  rw [if_pos hn] at h; cases h
 rw [if_neg hn] at h
 by_cases hr : rightB n f x = true
 rotate_left
 ·
  rw [if_neg hr] at h; cases h
 clear h
 have hf : f.length ≤ 3 ∧ ∀ t ∈ f, t.f0.length ≤ 4 := by
  rw [formsE_eq] at h0
  by_cases c : f.length < 1 ∨ f.length > 3
  ·
   rw [if_pos c] at h0; cases h0
  rw [if_neg c] at h0
  by_cases c2 : f.any badLen = true
  ·
   rw [if_pos c2] at h0; cases h0
  refine ⟨by omega, fun t ht => ?_⟩
  by_cases h3 : t.f0.length ≤ 4
  ·
   exact h3
  ·
   exact absurd (List.any_eq_true.2 ⟨t, ht, by unfold badLen; exact decide_eq_true z4_⟩) c2
 unfold rightB at hr
 rw [Bool.and_eq_true, Bool.and_eq_true, Bool.and_eq_true, decide_eq_true_eq, decide_eq_true_eq] at hr
 obtain ⟨⟨⟨hw, ht⟩, hk⟩, hkind⟩ := hr
 obtain ⟨w1, w2, w3, w4, w5, w6, w7⟩ := hw
 have hk2 := of_decide_eq_true (show decide (1 ≤ x.f5.size ∧ x.f5.size ≤ 12) = true from hk)
 have hv : x.f1.length ≤ 5 ∧ ∀ c ∈ x.f1, 0 ≤ c ∧ c ≤ 1073741824 := by
  unfold vecE at w4
  by_cases c : x.f1.length < 1 ∨ x.f1.length > 5
  ·
   rw [if_pos c] at w4; cases w4
  rw [if_neg c] at w4
  by_cases c2 : x.f1.any badSeq = true
  ·
   rw [if_pos c2] at w4; cases w4
  refine ⟨by omega, fun v hv => ?_⟩
  by_cases h3 : v < 0 ∨ v > 1073741824
  ·
   exact absurd (List.any_eq_true.2 ⟨v, hv, by unfold badSeq; exact decide_eq_true h3⟩) c2
  ·
   omega
 have hcol : (colsOf f x).length ≤ 4 := hf.2 _ (rdB_mem ht.1 ht.2)
 have hs : stampFit x.f2 := ⟨⟨⟨w6.1.1.1, by show x.f2.f0 < 281474976710656; have := w6.1.1.2; omega⟩, ⟨w6.1.2.1, by show x.f2.f1 < 16777216; have := w6.1.2.2; omega⟩⟩, fit1 ⟨w6.2.1, by have := w6.2.2; omega⟩⟩
 have hd : dotFit x.f0 := ⟨fit1 ⟨w1.1, by omega⟩, ⟨by omega, by show x.f0.f1 < 4294967296; omega⟩⟩
 have hnum : numsFit x.f1 := ⟨hv.1, fun c hc => ⟨(hv.2 c hc).1, by show c < 4294967296; have := (hv.2 c hc).2; omega⟩⟩
 have hrest : fitN 1 x.f3 ∧ fitN 1 x.f6 ∧ rowE x.f7 = 0 ∧ dotsFit x.f8 := by
  unfold kindB at hkind
  by_cases k1 : x.f3 = 1
  ·
   rw [if_pos k1, Bool.and_eq_true, Bool.and_eq_true, decide_eq_true_eq, decide_eq_true_eq] at hkind
   obtain ⟨⟨e1, e2⟩, e3⟩ := hkind
   exact ⟨fit1 z4_, fit1 z4_, small_row e1 hcol, by omega, fun d hd => by rw [List.length_eq_zero_iff.1 e3] at hd; cases hd⟩
  rw [if_neg k1] at hkind
  by_cases k2 : x.f3 = 2
  ·
   rw [if_pos k2, Bool.and_eq_true, Bool.and_eq_true, decide_eq_true_eq, decide_eq_true_eq] at hkind
   obtain ⟨⟨e1, e2⟩, e3⟩ := hkind
   exact ⟨fit1 z4_, fit1 z4_, small_row e2 (by simp), by omega, fun d hd => by rw [List.length_eq_zero_iff.1 e3] at hd; cases hd⟩
  rw [if_neg k2] at hkind
  by_cases k3 : x.f3 = 3
  ·
   rw [if_pos k3, Bool.and_eq_true, Bool.and_eq_true, Bool.and_eq_true, decide_eq_true_eq, decide_eq_true_eq, decide_eq_true_eq] at hkind
   obtain ⟨⟨⟨e1, e2⟩, e3⟩, e4⟩ := hkind
   refine ⟨fit1 z4_, fit1 z4_, by rw [List.length_eq_zero_iff.1 e4]; decide, by omega, fun d hd => ?_⟩
   have := of_decide_eq_true (show decide ((0 ≤ d.f0 ∧ d.f0 < x.f1.length) ∧ 1 ≤ d.f1 ∧ d.f1 ≤ rd x.f1 d.f0) = true from had_all e2 d hd)
   have h5 := hv.2 _ (rd_mem this.1.1 this.1.2)
   exact ⟨fit1 z4_, by omega, by show d.f1 < 4294967296; omega⟩
  ·
   rw [if_neg k3] at hkind; cases hkind
 exact ⟨⟨⟨⟨⟨⟨⟨⟨hrest.1, hd⟩, hnum⟩, hs⟩, fit1 z4_⟩, by omega⟩, hrest.2.1⟩, hrest.2.2.1⟩, hrest.2.2.2⟩
def hvFo (f : List Tb) : Bool := decide (f.length > 30) || f.any fun t => decide (t.f0.length > 30)
theorem hvFo_l0 (f : List Tb) (hl : f.length ≤ 30) (m : List Tb) : ∀ (k i : Nat), f.drop i = m → m.length < k →
  raddlelaw07_HeavyForms.l0 k f (i : Int) = some (m.any fun t => decide (t.f0.length > 30)) := by
 induction m with
 | nil =>
  intro k i h hk
  obtain ⟨k, rfl⟩ : ∃ j, k = j + 1 := ⟨k - 1, by omega⟩
  have := List.drop_eq_nil_iff.1 h
  simp only [raddlelaw07_HeavyForms.l0]
  rw [if_neg z4_]; rfl
 | cons v m ih =>
  intro k i h hk
  obtain ⟨k, rfl⟩ : ∃ j, k = j + 1 := ⟨k - 1, by omega⟩
  have h2 := dropL_lt h
  rw [List.length_cons] at hk
  simp only [raddlelaw07_HeavyForms.l0]
  rw [if_pos z4_, if_pos z4_, rdB_drop h, List.any_cons]
  by_cases c : v.f0.length > 30
  ·
   rw [if_pos z4_, decide_eq_true c]; rfl
  rw [if_neg z4_, decide_eq_false c, Bool.false_or, w64 z4_ z4_]
  exact ih k (i + 1) (dropL_tail h) z4_
theorem hvFo_eq (k : Nat) (f : List Tb) (hk : 40 ≤ k) : raddlelaw07_HeavyForms.f k f = some (hvFo f) := by
 unfold raddlelaw07_HeavyForms.f hvFo
 by_cases c : f.length > 30
 ·
  rw [if_pos z4_, decide_eq_true c]; rfl
 rw [if_neg z4_, decide_eq_false c, Bool.false_or]
 exact hvFo_l0 f z4_ f k 0 rfl z4_
theorem hvFo_len {f : List Tb} (h : hvFo f = false) : f.length ≤ 30 ∧ ∀ t ∈ f, t.f0.length ≤ 30 := by
 unfold hvFo at h
 rw [Bool.or_eq_false_iff, decide_eq_false_iff_not, List.any_eq_false] at h
 exact ⟨by omega, fun t ht => by have := h.2 t ht; rw [decide_eq_true_eq] at this; omega⟩
end Go.Proofs.Ytjnjfogfpmeacaa.Ops
end
section
namespace Go.Proofs.Ytjnjfogfpmeacaa.Pure
open Go.RowKit PAll PrintWords PrintLast Plain Ops ZipT PrintWords.Kd PrintMore.Kd
set_option linter.unusedVariables false
set_option linter.unusedSimpArgs false
theorem OpUnlike : raddlelaw07_OpUnlike.Pure := by
 intro n f x y c hn hf hx hy hc
 refine ⟨1205, ?_⟩
 have hT : raddlelaw07_OpUnlike.j0 (1204 + 1) n f c true x.f0.f0 x.f0.f1 x.f1 x.f2.f0 x.f2.f1 x.f2.f2 x.f3 x.f4 x.f5 x.f6 x.f7 x.f8 y.f0.f0 y.f0.f1 y.f1 y.f2.f0 y.f2.f1 y.f2.f2 y.f3 y.f4 y.f5 y.f6 y.f7 y.f8 = some true := by simp only [raddlelaw07_OpUnlike.j0, if_true]
 unfold raddlelaw07_OpUnlike.f
 rw [hvFo_eq _ _ z4_, Option.bind_some]
 cases hv : hvFo f
 rotate_left
 ·
  rw [if_pos rfl]; exact hT
 rw [if_neg z5_, heavy2_eq, Option.bind_some]
 cases hh : heavyOp x || heavyOp y
 rotate_left
 ·
  exact hT
 rw [Bool.or_eq_false_iff] at hh
 have hlf := hvFo_len hv
 have hxs := light_small hh.1
 have hys := light_small hh.2
 have hbx := bytes_f x (light_opSmall hh.1)
 have hby := bytes_f y (light_opSmall hh.2)
 show raddlelaw07_OpUnlike.j0 (1204 + 1) _ _ _ _ _ _ _ _ _ _ _ _ _ _ _ _ _ _ _ _ _ _ _ _ _ _ _ _ = _
 simp only [raddlelaw07_OpUnlike.j0]
 rw [if_neg z5_, hbx, Option.bind_some, hby, Option.bind_some, check_op_eq _ _ _ _ z4_ ⟨by omega, fun t ht => by have := hlf.2 t ht; omega⟩ z4_, Option.bind_some]
 have hw := wakes7_eq
 -- what is left once nothing is amiss
 have h2 : ∀ b1 b2 : List Int × Int, sOpBytes x = b1 → sOpBytes y = b2 → raddlelaw07_OpUnlike.j1 1204 c b1.1 b1.2 b2.1 b2.2 false x.f0.f0 x.f0.f1 x.f1 x.f2.f0 x.f2.f1 x.f2.f2 x.f3 x.f4 x.f5 x.f6 x.f7 x.f8 y.f0.f0 y.f0.f1 y.f1 y.f2.f0 y.f2.f1 y.f2.f2 y.f3 y.f4 y.f5 y.f6 y.f7 y.f8 = some true := by
  intro b1 b2 e1 e2
  rw [opBytes_eq] at e1 e2
  show raddlelaw07_OpUnlike.j1 (1203 + 1) _ _ _ _ _ _ _ _ _ _ _ _ _ _ _ _ _ _ _ _ _ _ _ _ _ _ _ _ _ _ = _
  simp only [raddlelaw07_OpUnlike.j1]
  rw [if_neg z5_]
  have hbad : ∀ (l1 l2 : List Int) (m1 m2 : Int), (m1 = 0 ∨ l1 = []) → (m2 = 0 ∨ l2 = []) → raddlelaw07_OpUnlike.j2 (1202 + 1) c l1 m1 l2 m2 true x.f0.f0 x.f0.f1 x.f1 x.f2.f0 x.f2.f1 x.f2.f2 x.f3 x.f4 x.f5 x.f6 x.f7 x.f8 y.f0.f0 y.f0.f1 y.f1 y.f2.f0 y.f2.f1 y.f2.f2 y.f3 y.f4 y.f5 y.f6 y.f7 y.f8 = some true := by
   intro l1 l2 m1 m2 a1 a2
   simp only [raddlelaw07_OpUnlike.j2]
   rw [if_pos trivial, hw]
   have a3 : ¬ m2 = 0 → (l2.length : Int) = 0 := fun h => by rcases a2 with a2 | rfl; exact absurd a2 h; rfl
   have a4 : ¬ m1 = 0 → (l1.length : Int) = 0 := fun h => by rcases a1 with a1 | rfl; exact absurd a1 h; rfl
   by_cases c1 : m1 = 0
   ·
    rw [if_pos c1]
    by_cases c2 : m2 = 0
    ·
     rw [if_pos c2]; rfl
    ·
     rw [if_neg c2, if_pos (a3 c2)]; rfl
   ·
    rw [if_neg c1, if_pos (a4 c1)]
    by_cases c2 : m2 = 0
    ·
     rw [if_pos c2]; rfl
    ·
     rw [if_neg c2, if_pos (a3 c2)]; rfl
  by_cases fx : opFit x
  rotate_left
  ·
   rw [if_neg fx] at e1
   subst e1
   rw [if_neg z5_]
   refine hbad _ _ _ _ (.inr rfl) ?_
   rw [← e2]; split <;> simp
  rw [if_pos fx] at e1
  subst e1
  rw [if_pos rfl]
  by_cases fy : opFit y
  rotate_left
  ·
   rw [if_neg fy] at e2
   subst e2
   exact hbad _ _ _ _ (.inl rfl) (.inr rfl)
  rw [if_pos fy] at e2
  subst e2
  have hlx := opB_len _ fx
  have hly := opB_len _ fy
  have hpos : 0 < (opB x).length := by rw [opB_length]; omega
  show raddlelaw07_OpUnlike.j2 (1202 + 1) _ _ _ _ _ _ _ _ _ _ _ _ _ _ _ _ _ _ _ _ _ _ _ _ _ _ _ _ _ _ = _
  simp only [raddlelaw07_OpUnlike.j2]
  rw [show ((0 : Int) != 0) = false from rfl, if_neg z5_, if_neg z4_, same_eq _ _ _ z4_ z4_, Option.bind_some,
   keepOp_eq _ x y z4_ z4_ z4_ z4_, Option.bind_some]
  rw [show (decide (opB x = opB y) != decide (x = y)) = false by rw [decide_eq_decide.2 (opB_inj fx fy)]; cases decide (x = y) <;> rfl]
  show raddlelaw07_OpUnlike.j3 (1201 + 1) _ _ _ = _
  simp only [raddlelaw07_OpUnlike.j3]
  have hu : IntKind.u64.wrap ((opB x).length : Int) = (opB x).length := by rw [u64_mod]; omega
  have hm0 := Int.emod_nonneg (IntKind.u64.wrap c) (show ((opB x).length : Int) ≠ 0 by omega)
  have hm1 := Int.emod_lt_of_pos (IntKind.u64.wrap c) (show (0 : Int) < (opB x).length by omega)
  have hc0 : 0 ≤ IntKind.u64.wrap c := by rw [u64_mod]; omega
  rw [if_neg z5_, hu, if_neg z4_, Int.tmod_eq_emod_of_nonneg hc0, w64 z4_ z4_, if_pos hm0, if_pos z4_]
  have hcut := opB_cut fx (opB_bytes fx) (IntKind.u64.wrap c % (opB x).length).toNat z4_
  rw [read_f _ _ ((opB_bytes fx).take _) (by rw [List.length_take]; omega), Option.bind_some, hcut]
  have hz := keepOp_eq 1201 zOp zOp z5_ z5_ z5_ z5_
  rw [decide_eq_true rfl] at hz
  simp only
  rw [if_pos trivial, if_pos trivial]
  refine (congrArg (fun q => Option.bind q _) hz).trans ?_
  rw [Option.bind_some, if_pos rfl, hw]; rfl
 have h3 := h2 _ _ rfl rfl
 by_cases h0 : checkE n f x = 0
 rotate_left
 ·
  rw [if_neg h0]; exact h3
 rw [if_pos h0]
 have : (sOpBytes x).2 = 0 := by rw [opBytes_eq, if_pos (right_fit h0)]
 rw [this] at h3 ⊢
 exact h3
end Go.Proofs.Ytjnjfogfpmeacaa.Pure
end
