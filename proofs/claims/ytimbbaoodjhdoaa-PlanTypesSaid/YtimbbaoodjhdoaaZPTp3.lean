-- Put together by a program of this session (wip/slice2.py) out of the seat's texts.
import Derived.Test.YtimbbaoodjhdoaaZPTp2
import Derived.Laws.MathBits
set_option maxHeartbeats 8000000
set_option maxRecDepth 100000
open Go.Proofs.YtimbbaoodjhdoaaW Go.Proofs.Ytimbbaoodjhdoaa
section
namespace Go.Proofs.Ytimbbaoodjhdoaa.Plan
open Go.RowKit PAll Plain PrintWords PrintMore ZipT PrintWords.Kd PrintMore.Kd
set_option linter.unusedVariables false
set_option linter.unusedSimpArgs false
theorem gC {l : List Tb} {i : Nat} {v : Tb} {m : List Tb} (h : l.drop i = v :: m) : cN l (i : Int) = v := by
 show l.getD ((i : Int).toNat) _ = v
 rw [Int.toNat_natCast, List.getD_eq_getElem?_getD]
 have : l[i]? = (l.drop i)[0]? := by rw [List.getElem?_drop]; simp
 rw [this, h]; rfl
theorem pick_l0 (t c : List Int) (ht : t.length ≤ 1000000) (hc : c.length ≤ 1000000) (hp : places c t.length = true) (m : List Int) : ∀ (k i : Nat) (acc : List Int), c.drop i = m → acc.length + m.length ≤ 1000000 → m.length < k →
  plan_pick.l0 k t acc c (c.length : Int) (i : Int) = some (acc ++ pick t m) := by
 induction m with
 | nil =>
  intro k i acc h ha hk
  obtain ⟨k, rfl⟩ : ∃ j, k = j + 1 := ⟨k - 1, by omega⟩
  have h1 := dQ h
  simp only [plan_pick.l0]
  rw [if_neg z5_]; simp [pick]
 | cons v m ih =>
  intro k i acc h ha hk
  obtain ⟨k, rfl⟩ : ∃ j, k = j + 1 := ⟨k - 1, by omega⟩
  have h1 := eJ h
  have hv : 0 ≤ v ∧ v < (t.length : Int) := by
   have hm : v ∈ c := List.mem_of_mem_drop (i := i) (by rw [h]; exact List.mem_cons_self)
   exact of_decide_eq_true (List.all_eq_true.1 hp v hm)
  have hl : acc.length < 17592186044416 := by omega
  simp only [plan_pick.l0]
  rw [if_pos z5_, if_pos z5_, if_pos z5_, rd_drop h, if_pos hv.1, if_pos hv.2, if_pos hl, w64 z5_ z5_]
  rw [show ((i : Int) + 1) = ((i + 1 : Nat) : Int) from rfl, ih k (i + 1) _ (drop_tail h) (by simp at ha ⊢; omega) (by simp at hk; omega)]
  simp [pick]
theorem eY (k : Nat) (t c : List Int) (ht : t.length ≤ 1000000) (hc : c.length ≤ 1000000) (hp : places c t.length = true) (hk : c.length < k) : plan_pick.f k t c = some (pick t c) := by
 unfold plan_pick.f
 have := pick_l0 t c ht hc hp c k 0 [] rfl (by simp; omega) hk
 simpa using this
theorem bL (a b c : Int) : raddleref14_in.f a b c = some (decide (b ≤ a ∧ a ≤ c)) := by
 unfold raddleref14_in.f
 by_cases h : a ≥ b
 ·
  rw [if_pos h]; congr 1; simp; omega
 rw [if_neg h]; congr 1; simp; omega
theorem rpick_l0 (t c : List Int) (ht : t.length ≤ 1000000) (hc : c.length ≤ 1000000) (m : List Int) : ∀ (k i : Nat) (acc : List Int), c.drop i = m → acc.length + m.length ≤ 1000000 → m.length < k →
  raddleref14_pick.l0 k t c acc (i : Int) = some (if places m t.length = true then (acc ++ pick t m, true) else ([], false)) := by
 induction m with
 | nil =>
  intro k i acc h ha hk
  obtain ⟨k, rfl⟩ : ∃ j, k = j + 1 := ⟨k - 1, by omega⟩
  have h1 := dQ h
  simp only [raddleref14_pick.l0]
  rw [if_neg z5_]; simp [pick, places]
 | cons v m ih =>
  intro k i acc h ha hk
  obtain ⟨k, rfl⟩ : ∃ j, k = j + 1 := ⟨k - 1, by omega⟩
  have h1 := eJ h
  have hl : acc.length < 17592186044416 := by omega
  simp only [raddleref14_pick.l0]
  rw [if_pos z5_, if_pos z5_, rd_drop h, w64 (x := (t.length : Int) - 1) z5_ z5_, bL, Option.bind_some]
  by_cases hv : 0 ≤ v ∧ v < (t.length : Int)
  rotate_left
  ·
   rw [decide_eq_false (p := 0 ≤ v ∧ v ≤ (t.length : Int) - 1) z5_, if_neg z10_]
   have : places (v :: m) t.length = false := by unfold places; rw [List.all_cons, decide_eq_false hv, Bool.false_and]
   rw [this, if_neg z10_]
  rw [decide_eq_true (p := 0 ≤ v ∧ v ≤ (t.length : Int) - 1) z5_, if_pos rfl, if_pos hv.1, if_pos hv.2, if_pos hl, w64 z5_ z5_]
  rw [show ((i : Int) + 1) = ((i + 1 : Nat) : Int) from rfl, ih k (i + 1) _ (drop_tail h) (by simp at ha ⊢; omega) (by simp at hk; omega)]
  have : places (v :: m) t.length = places m t.length := by unfold places; rw [List.all_cons, decide_eq_true hv, Bool.true_and]
  rw [this]
  split <;> simp [pick]
theorem eT (k : Nat) (t c : List Int) (ht : t.length ≤ 1000000) (hc : c.length ≤ 1000000) (hk : c.length < k) : raddleref14_pick.f k t c = some (if places c t.length = true then (pick t c, true) else ([], false)) := by
 unfold raddleref14_pick.f
 have := rpick_l0 t c ht hc c k 0 [] rfl (by simp; omega) hk
 simpa using this
theorem equal_l0' (a b : List Int) (ha : a.length ≤ 1000000) (hl : a.length = b.length) (m : List Int) : ∀ (k i : Nat), a.drop i = m → m.length < k →
  slices_Equal_int_int.l0 k a b (a.length : Int) (i : Int) = some (decide (m = b.drop i)) := by
 induction m with
 | nil =>
  intro k i h hk
  obtain ⟨k, rfl⟩ : ∃ j, k = j + 1 := ⟨k - 1, by omega⟩
  have h1 := dQ h
  simp only [slices_Equal_int_int.l0]
  rw [if_neg z5_, List.drop_eq_nil_iff.2 z5_]; simp
 | cons v m ih =>
  intro k i h hk
  obtain ⟨k, rfl⟩ : ∃ j, k = j + 1 := ⟨k - 1, by omega⟩
  have h1 := eJ h
  simp only [slices_Equal_int_int.l0]
  cases hd : b.drop i with
  | nil => have h2 := dQ hd; omega
  | cons t n =>
   rw [if_pos z5_, if_pos z5_, if_pos z5_, if_pos z5_, gF h, gF hd, w64 z5_ z5_]
   by_cases hz : v = t
   rotate_left
   ·
    rw [if_neg hz]
    simp [hz]
   have := ih k (i + 1) (dN h) (by simp at hk; omega)
   rw [if_pos hz, show ((i : Int) + 1) = ((i + 1 : Nat) : Int) from rfl, this, dN hd, hz]
   simp
theorem gB (k : Nat) (a b : List Int) (ha : a.length ≤ 1000000) (hk : a.length + 1 ≤ k) : slices_Equal_int_int.f k a b = some (decide (a = b)) := by
 unfold slices_Equal_int_int.f
 by_cases hl : (a.length : Int) = b.length
 rotate_left
 ·
  rw [if_neg hl, decide_eq_false (fun e => hl (by rw [e]))]
 rw [if_pos hl]
 exact equal_l0' a b ha z5_ a k 0 rfl z5_
theorem mul64_eq (a b : Int) (ha0 : 0 ≤ a) (ha : a < 18446744073709551616) (hb0 : 0 ≤ b) (hb : b < 18446744073709551616) : dY.f a b = some (a * b / 18446744073709551616, (a * b) % 18446744073709551616) := by
 unfold dY.f
 have h := mul64_arith a b ha0 ha hb0 hb
 have ea := and_low32 a ha0 ha
 have eb := and_low32 b hb0 hb
 have em : ∀ x : Int, Go.bits .and .u64 (IntKind.u64.wrap x) 4294967295 = (IntKind.u64.wrap x) % 4294967296 := fun x => and_low32 _ (by rw [u64_mod]; omega) (by rw [u64_mod]; omega)
 rw [em, ea, eb]
 simp only [u64_mod]
 rw [h]
theorem gK (a b m : Int) (ha0 : 0 ≤ a) (ha : a ≤ 9223372036854775807) (hb0 : 0 ≤ b) (hb : b ≤ 9223372036854775807) (hm0 : 0 ≤ m) (hm : m ≤ 9223372036854775807) : plan_times.f a b m = some (if a * b ≤ m then (a * b, true) else (0, false)) := by
 unfold plan_times.f
 rw [wu64 ha0 z5_, wu64 hb0 z5_, wu64 hm0 z5_, mul64_eq a b ha0 z5_ hb0 z5_, Option.bind_some]
 have hp : 0 ≤ a * b := Int.mul_nonneg ha0 hb0
 generalize a * b = p at *
 by_cases h : p ≤ m
 ·
  rw [if_pos h, if_neg (by show ¬ p / 18446744073709551616 > 0; omega), if_neg (by show ¬ p % 18446744073709551616 > m; omega), w64 (by show -9223372036854775808 ≤ p % 18446744073709551616; omega) (by show p % 18446744073709551616 ≤ 9223372036854775807; omega)]
  congr 2; show p % 18446744073709551616 = p; omega
 rw [if_neg h]
 by_cases h2 : p / 18446744073709551616 > 0
 ·
  rw [if_pos h2]
 rw [if_neg h2, if_pos (by show p % 18446744073709551616 > m; omega)]
theorem fR (k : Nat) (a b m : Int) (ha0 : 1 ≤ a) (ha : a ≤ 1152921504606846976) (hb0 : 1 ≤ b) (hb : b ≤ 1152921504606846976) (hm0 : 0 ≤ m) (hm : m ≤ 1152921504606846976) (hk : 1 ≤ k) : raddleref14_times.f k a b m = some (if a * b ≤ m then (a * b, true) else (0, false)) := by
 obtain ⟨k, rfl⟩ : ∃ j, k = j + 1 := ⟨k - 1, by omega⟩
 unfold raddleref14_times.f
 have hb1 : (b == 0) = false := beq_eq_false_iff_ne.2 z5_
 rw [if_neg z5_, hb1]
 simp only [raddleref14_times.j0]
 have hs : ∀ x : Int, 1 ≤ x → x ≤ 1152921504606846976 → cS.f x = some x := fun x h1 h2 => by
  unfold cS.f mx
  rw [w64 z5_ z5_, if_neg z5_]
 rw [if_neg z10_, hs a ha0 ha, hs b hb0 hb, Option.bind_some, Option.bind_some, if_neg z5_]
 have hd : Int.tdiv m b = m / b := Int.tdiv_eq_ediv_of_nonneg hm0
 have hd0 : 0 ≤ m / b := Int.ediv_nonneg hm0 z5_
 have hd1 : m / b ≤ m := Int.ediv_le_self _ hm0
 rw [hd, w64 z5_ z5_]
 have hiff : a * b ≤ m ↔ a ≤ m / b := (Int.le_ediv_iff_mul_le z5_).symm
 by_cases h : a * b ≤ m
 rotate_left
 ·
  have h2 : ¬ a ≤ m / b := fun e => h (hiff.2 e)
  rw [if_neg h, if_pos z5_]
 have h2 := hiff.1 h
 have hp : 0 ≤ a * b := Int.mul_nonneg z5_ z5_
 rw [if_pos h, if_neg z5_, w64 z5_ z5_]
theorem pin_eq (a b : Int) : dM.f a b = some (decide (0 ≤ a ∧ a < b)) := by
 unfold dM.f
 by_cases h : a ≥ 0
 ·
  rw [if_pos h]; congr 1; simp; omega
 rw [if_neg h]; congr 1; simp; omega
theorem pgiven_eq (p : Pr) : cI.f p.f0 p.f1 p.f2 p.f3.f0 p.f3.f1 p.f3.f2 = some (decide (given p)) := by
 unfold cI.f
 by_cases h : p.f0 = 1
 ·
  rw [if_pos h, decide_eq_true (show given p from Or.inl h)]
 rw [if_neg h]; congr 1
 by_cases h2 : p.f0 = 2
 ·
  rw [decide_eq_true (show given p from Or.inr h2), beq_iff_eq.2 h2]
 rw [decide_eq_false (show ¬ given p from by unfold given; omega), beq_eq_false_iff_ne.2 h2]
theorem pother_eq (p : Pr) : cO.f p.f0 p.f1 p.f2 p.f3.f0 p.f3.f1 p.f3.f2 = some (decide (other p)) := by
 unfold cO.f
 by_cases h : p.f0 = 3
 ·
  rw [if_pos h, decide_eq_true (show other p from Or.inl h)]
 rw [if_neg h]; congr 1
 by_cases h2 : p.f0 = 4
 ·
  rw [decide_eq_true (show other p from Or.inr h2), beq_iff_eq.2 h2]
 rw [decide_eq_false (show ¬ other p from by unfold other; omega), beq_eq_false_iff_ne.2 h2]
theorem predCheck_eq (k : Nat) (p : Pr) (t : List Int) (hk : 1 ≤ k) : pred_Check.f k p.f0 p.f1 p.f2 p.f3.f0 p.f3.f1 p.f3.f2 t = some (predE p t) := by
 obtain ⟨k, rfl⟩ : ∃ j, k = j + 1 := ⟨k - 1, by omega⟩
 unfold pred_Check.f
 simp only [pin_eq, pgiven_eq, pother_eq, fQ, fits_eq, pred_Check.j0, Option.bind_some, decide_eq_true_eq, if_true, if_false, Bool.false_eq_true]
 by_cases h1 : 1 ≤ p.f0 ∧ p.f0 ≤ 6
 case neg =>
  rw [eR (show pbad p t by unfold pbad; omega)]
  by_cases h : p.f0 < 1
  ·
   rw [if_pos h]
  rw [if_neg h, if_pos z5_]
 rw [if_neg (show ¬ p.f0 < 1 by omega), if_neg (show ¬ p.f0 > 6 by omega)]
 by_cases h3 : 0 ≤ p.f1 ∧ p.f1 < (t.length : Int)
 case neg =>
  rw [eR (show pbad p t from .inr (.inr (.inl h3)))]
  rw [if_neg h3]
 rw [if_pos h3]
 have hgo : given p → ¬ other p := by unfold given other; omega
 by_cases h4 : other p
 ·
  have h4g : ¬ given p := fun h => hgo h h4
  rw [if_pos h4]
  by_cases h5 : 0 ≤ p.f2 ∧ p.f2 < (t.length : Int)
  rotate_left
  ·
   rw [eR (show pbad p t from .inr (.inr (.inr (.inl ⟨h4, h5⟩))))]
   rw [if_neg h5]
  have hnb : ¬ pbad p t := by
   rintro (h | h | h | h | h)
   ·
    omega
   ·
    omega
   ·
    exact h h3
   ·
    exact h.2 h5
   ·
    exact h4g h.1
  rw [if_pos h5]
  simp only [if_neg h4g, if_pos h4, if_pos h5.1, if_pos h5.2, if_pos h3.1, if_pos h3.2]
  by_cases h6 : rd t p.f2 = rd t p.f1
  ·
   rw [if_pos h6, fH hnb (by rintro (h | h); exact h4g h.1; exact h.2 h6)]
  rw [if_neg h6, fU hnb (.inr ⟨h4, h6⟩)]
 rw [if_neg h4]
 by_cases h5 : given p
 rotate_left
 ·
  have hnb : ¬ pbad p t := by
   rintro (h | h | h | h | h)
   ·
    omega
   ·
    omega
   ·
    exact h h3
   ·
    exact h4 h.1
   ·
    exact h5 h.1
  simp only [if_neg h5, if_neg h4]
  rw [fH hnb (by rintro (h | h); exact h5 h.1; exact h4 h.1)]
 simp only [if_pos h5, if_neg h4, if_pos h3.1, if_pos h3.2]
 by_cases h6 : vOk p.f3.f0 p.f3.f1 p.f3.f2
 rotate_left
 ·
  rw [eR (show pbad p t from .inr (.inr (.inr (.inr ⟨h5, h6⟩))))]
  rw [if_neg h6, if_pos z10_]
 have hnb : ¬ pbad p t := by
  rintro (h | h | h | h | h)
  ·
   omega
  ·
   omega
  ·
   exact h h3
  ·
   exact h4 h.1
  ·
   exact h.2 h6
 rw [if_pos h6, if_neg (show ¬ ((0 : Int) != 0) = true by decide)]
 by_cases h7 : vFits p.f3.f0 p.f3.f1 p.f3.f2 (rd t p.f1)
 ·
  rw [if_pos h7, fH hnb (by rintro (h | h); exact h.2 h7; exact h4 h.1)]
 rw [if_neg h7, fU hnb (.inl ⟨h5, h7⟩)]
theorem rpred_eq (k : Nat) (p : Pr) (t : List Int) (ht : t.length ≤ 1000000) (hk : 3 ≤ k) : raddleref14_Pred.f k p.f0 p.f1 p.f2 p.f3.f0 p.f3.f1 p.f3.f2 t = some (predE p t) := by
 obtain ⟨k, rfl⟩ : ∃ j, k = j + 1 + 1 + 1 := ⟨k - 3, by omega⟩
 have hw : wrap64 ((t.length : Int) - 1) = (t.length : Int) - 1 := w64 z5_ z5_
 have hj0 : raddleref14_Pred.f (k + 1 + 1 + 1) p.f0 p.f1 p.f2 p.f3.f0 p.f3.f1 p.f3.f2 t = raddleref14_Pred.j0 (k + 1 + 1 + 1) t (decide (other p)) p.f0 p.f1 p.f2 p.f3.f0 p.f3.f1 p.f3.f2 := by
  unfold raddleref14_Pred.f
  by_cases h : p.f0 = 3
  ·
   rw [if_pos h, decide_eq_true (show other p from Or.inl h)]
  ·
   rw [if_neg h]
   by_cases h2 : p.f0 = 4
   ·
    rw [decide_eq_true (show other p from Or.inr h2), beq_iff_eq.2 h2]
   ·
    rw [decide_eq_false (show ¬ other p from by unfold other; omega), beq_eq_false_iff_ne.2 h2]
 have hj1 : ∀ b : Bool, raddleref14_Pred.j0 (k + 1 + 1 + 1) t b p.f0 p.f1 p.f2 p.f3.f0 p.f3.f1 p.f3.f2 = raddleref14_Pred.j1 (k + 1 + 1) t b (decide (given p)) p.f0 p.f1 p.f2 p.f3.f0 p.f3.f1 p.f3.f2 := fun b => by
  simp only [raddleref14_Pred.j0]
  by_cases h : p.f0 = 1
  ·
   rw [if_pos h, decide_eq_true (show given p from Or.inl h)]
  ·
   rw [if_neg h]
   by_cases h2 : p.f0 = 2
   ·
    rw [decide_eq_true (show given p from Or.inr h2), beq_iff_eq.2 h2]
   ·
    rw [decide_eq_false (show ¬ given p from by unfold given; omega), beq_eq_false_iff_ne.2 h2]
 rw [hj0, hj1]
 simp only [raddleref14_Pred.j1, raddleref14_Pred.j2, bL, hw, Option.bind_some, decide_eq_true_eq, rvalue_eq, rfits_eq, if_true, if_false, Bool.false_eq_true]
 by_cases h1 : 1 ≤ p.f0 ∧ p.f0 ≤ 6
 case neg =>
  rw [eR (show pbad p t by unfold pbad; omega)]
  rw [if_neg h1]
 rw [if_pos h1]
 by_cases h3 : 0 ≤ p.f1 ∧ p.f1 < (t.length : Int)
 case neg =>
  rw [eR (show pbad p t from .inr (.inr (.inl h3)))]
  rw [if_neg (show ¬ (0 ≤ p.f1 ∧ p.f1 ≤ (t.length : Int) - 1) by omega)]
 rw [if_pos (show (0 ≤ p.f1 ∧ p.f1 ≤ (t.length : Int) - 1) by omega)]
 have hgo : given p → ¬ other p := by unfold given other; omega
 by_cases h4 : other p
 ·
  have h4g : ¬ given p := fun h => hgo h h4
  rw [if_pos h4]
  by_cases h5 : 0 ≤ p.f2 ∧ p.f2 < (t.length : Int)
  rotate_left
  ·
   rw [eR (show pbad p t from .inr (.inr (.inr (.inl ⟨h4, h5⟩))))]
   rw [if_neg (show ¬ (0 ≤ p.f2 ∧ p.f2 ≤ (t.length : Int) - 1) by omega)]
  have hnb : ¬ pbad p t := by
   rintro (h | h | h | h | h)
   ·
    omega
   ·
    omega
   ·
    exact h h3
   ·
    exact h.2 h5
   ·
    exact h4g h.1
  rw [if_pos (show (0 ≤ p.f2 ∧ p.f2 ≤ (t.length : Int) - 1) by omega)]
  simp only [if_neg h4g, if_pos h4, if_pos h5.1, if_pos h5.2, if_pos h3.1, if_pos h3.2]
  by_cases h6 : rd t p.f2 = rd t p.f1
  ·
   rw [if_pos h6, fH hnb (by rintro (h | h); exact h4g h.1; exact h.2 h6)]
  rw [if_neg h6, fU hnb (.inr ⟨h4, h6⟩)]
 rw [if_neg h4]
 by_cases h5 : given p
 rotate_left
 ·
  have hnb : ¬ pbad p t := by
   rintro (h | h | h | h | h)
   ·
    omega
   ·
    omega
   ·
    exact h h3
   ·
    exact h4 h.1
   ·
    exact h5 h.1
  simp only [if_neg h5, if_neg h4]
  rw [fH hnb (by rintro (h | h); exact h5 h.1; exact h4 h.1)]
 simp only [if_pos h5, if_neg h4, if_pos h3.1, if_pos h3.2]
 by_cases h6 : vOk p.f3.f0 p.f3.f1 p.f3.f2
 rotate_left
 ·
  rw [eR (show pbad p t from .inr (.inr (.inr (.inr ⟨h5, h6⟩))))]
  rw [decide_eq_false h6, if_pos z10_]
 have hnb : ¬ pbad p t := by
  rintro (h | h | h | h | h)
  ·
   omega
  ·
   omega
  ·
   exact h h3
  ·
   exact h4 h.1
  ·
   exact h.2 h6
 rw [decide_eq_true h6, if_neg (show ¬ (!true) = true by decide)]
 by_cases h7 : vFits p.f3.f0 p.f3.f1 p.f3.f2 (rd t p.f1)
 ·
  rw [if_pos h7, fH hnb (by rintro (h | h); exact h.2 h7; exact h4 h.1)]
 rw [if_neg h7, fU hnb (.inl ⟨h5, h7⟩)]
end Go.Proofs.Ytimbbaoodjhdoaa.Plan
end
section
namespace Go.Proofs.Ytimbbaoodjhdoaa.Plan
open Go.RowKit PAll Plain PrintWords PrintMore ZipT PrintWords.Kd PrintMore.Kd
set_option linter.unusedVariables false
set_option linter.unusedSimpArgs false
def badLen (t : Tb) : Bool := decide (t.f0.length < 1 ∨ t.f0.length > 4)
def badType (c : Int) : Bool := decide (c < 2 ∨ c > 4)
theorem formsE_eq (f : List Tb) : formsE f = if f.length < 1 ∨ f.length > 3 then 2 else if f.any badLen = true then 2 else if (f.any fun t => t.f0.any badType) = true then 10 else 0 := rfl
theorem forms1_eq (t : Tb) : eN.f t.f0 = some (badLen t) := by
 unfold eN.f badLen
 by_cases h : (t.f0.length : Int) < 1
 ·
  rw [if_pos h, decide_eq_true z5_]
 rw [if_neg h]; congr 1; rw [decide_eq_decide]; omega
theorem forms2_eq (c : Int) : eO.f c = some (badType c) := by
 unfold eO.f badType
 by_cases h : c < 2
 ·
  rw [if_pos h, decide_eq_true (.inl h)]
 rw [if_neg h]; congr 1; rw [decide_eq_decide]; omega
theorem index1 (l : List Tb) (hl : l.length ≤ 1000000) (m : List Tb) : ∀ (k i : Nat), l.drop i = m → m.length < k →
  ∃ r, bD.l0 k l (l.length : Int) (i : Int) = some r ∧ (r ≥ 0 ↔ m.any badLen = true) := by
 induction m with
 | nil =>
  intro k i h hk
  obtain ⟨k, rfl⟩ : ∃ j, k = j + 1 := ⟨k - 1, by omega⟩
  have := dQ h
  refine ⟨-1, ?_, by simp⟩
  simp only [bD.l0]
  rw [if_neg z5_]
 | cons v m ih =>
  intro k i h hk
  obtain ⟨k, rfl⟩ : ∃ j, k = j + 1 := ⟨k - 1, by omega⟩
  have hi := eJ h
  simp only [bD.l0]
  rw [if_pos z5_, if_pos z5_, if_pos z5_, gC h, forms1_eq, Option.bind_some]
  cases ho : badLen v
  ·
   obtain ⟨r, h1, h2⟩ := ih k (i + 1) (dN h) (by simp at hk; omega)
   refine ⟨r, ?_, ?_⟩
   ·
    rw [if_neg z10_, w64 z5_ z5_]; exact h1
   ·
    rw [h2, List.any_cons, ho, Bool.false_or]
  ·
   refine ⟨i, ?_, ?_⟩
   ·
    rw [if_pos rfl]
   ·
    rw [List.any_cons, ho, Bool.true_or]; simp
theorem contains1 (k : Nat) (l : List Tb) (hl : l.length ≤ 1000000) (hk : l.length < k) : cC.f k l () = some (l.any badLen) := by
 obtain ⟨r, h1, h2⟩ := index1 l hl l k 0 rfl hk
 unfold cC.f bD.f
 rw [show ((0 : Nat) : Int) = 0 from rfl] at h1
 rw [h1, Option.bind_some]
 congr 1
 cases hz : l.any badLen
 ·
  rw [hz] at h2; exact decide_eq_false (fun h => by simpa using h2.1 h)
 ·
  rw [hz] at h2; exact decide_eq_true (h2.2 rfl)
theorem index2 (l : List Int) (hl : l.length ≤ 1000000) (m : List Int) : ∀ (k i : Nat), l.drop i = m → m.length < k →
  ∃ r, bC.l0 k l (l.length : Int) (i : Int) = some r ∧ (r ≥ 0 ↔ m.any badType = true) := by
 induction m with
 | nil =>
  intro k i h hk
  obtain ⟨k, rfl⟩ : ∃ j, k = j + 1 := ⟨k - 1, by omega⟩
  have := dQ h
  refine ⟨-1, ?_, by simp⟩
  simp only [bC.l0]
  rw [if_neg z5_]
 | cons v m ih =>
  intro k i h hk
  obtain ⟨k, rfl⟩ : ∃ j, k = j + 1 := ⟨k - 1, by omega⟩
  have hi := eJ h
  simp only [bC.l0]
  rw [if_pos z5_, if_pos z5_, if_pos z5_, rd_drop h, forms2_eq, Option.bind_some]
  cases ho : badType v
  ·
   obtain ⟨r, h1, h2⟩ := ih k (i + 1) (dN h) (by simp at hk; omega)
   refine ⟨r, ?_, ?_⟩
   ·
    rw [if_neg z10_, w64 z5_ z5_]; exact h1
   ·
    rw [h2, List.any_cons, ho, Bool.false_or]
  ·
   refine ⟨i, ?_, ?_⟩
   ·
    rw [if_pos rfl]
   ·
    rw [List.any_cons, ho, Bool.true_or]; simp
theorem contains2 (k : Nat) (l : List Int) (hl : l.length ≤ 1000000) (hk : l.length < k) : cA.f k l () = some (l.any badType) := by
 obtain ⟨r, h1, h2⟩ := index2 l hl l k 0 rfl hk
 unfold cA.f bC.f
 rw [show ((0 : Nat) : Int) = 0 from rfl] at h1
 rw [h1, Option.bind_some]
 congr 1
 cases hz : l.any badType
 ·
  rw [hz] at h2; exact decide_eq_false (fun h => by simpa using h2.1 h)
 ·
  rw [hz] at h2; exact decide_eq_true (h2.2 rfl)
theorem forms_l0 (l : List Tb) (hl : l.length ≤ 1000000) (hb : l.any badLen = false) (m : List Tb) : ∀ (k i : Nat), l.drop i = m → m.length + 5 < k →
  op_Forms.l0 k l (l.length : Int) (i : Int) = some (if (m.any fun t => t.f0.any badType) = true then 10 else 0) := by
 induction m with
 | nil =>
  intro k i h hk
  obtain ⟨k, rfl⟩ : ∃ j, k = j + 1 := ⟨k - 1, by omega⟩
  have := dQ h
  simp only [op_Forms.l0]
  rw [if_neg z5_]; rfl
 | cons v m ih =>
  intro k i h hk
  obtain ⟨k, rfl⟩ : ∃ j, k = j + 1 := ⟨k - 1, by omega⟩
  have hi := eJ h
  have hv : v.f0.length ≤ 4 := by
   have hm : v ∈ l := List.mem_of_mem_drop (i := i) (by rw [h]; exact List.mem_cons_self)
   have := List.any_eq_false.1 hb v hm
   unfold badLen at this
   simp at this
   omega
  simp only [List.length_cons] at hk
  simp only [op_Forms.l0]
  rw [if_pos z5_, if_pos z5_, if_pos z5_, gC h, contains2 _ _ z5_ z5_, Option.bind_some, List.any_cons]
  cases ho : v.f0.any badType
  ·
   rw [if_neg z10_, w64 z5_ z5_, Bool.false_or]
   exact ih k (i + 1) (dN h) z5_
  ·
   rw [if_pos rfl, Bool.true_or, if_pos rfl]
theorem forms_eq (k : Nat) (f : List Tb) (hl : f.length ≤ 1000) (hk : f.length + 10 ≤ k) : op_Forms.f k f = some (formsE f) := by
 obtain ⟨k, rfl⟩ : ∃ j, k = j + 1 := ⟨k - 1, by omega⟩
 rw [formsE_eq]
 unfold op_Forms.f
 have hj : ∀ b : Bool, op_Forms.j0 (k + 1) f b = if b = true then some 2 else some (if f.any badLen = true then 2 else if (f.any fun t => t.f0.any badType) = true then 10 else 0) := fun b => by
  simp only [op_Forms.j0]
  cases b
  ·
   rw [if_neg z10_, if_neg z10_, contains1 _ _ z5_ z5_, Option.bind_some]
   cases hb : f.any badLen
   ·
    rw [if_neg z10_, if_neg z10_]
    exact forms_l0 f z5_ hb f k 0 rfl z5_
   ·
    rw [if_pos rfl, if_pos rfl]
  ·
   rfl
 rw [hj, hj]
 by_cases h1 : (f.length : Int) < 1
 ·
  rw [if_pos h1, if_pos rfl, if_pos z5_]
 rw [if_neg h1]
 by_cases h2 : (f.length : Int) > 3
 ·
  rw [decide_eq_true h2, if_pos rfl, if_pos z5_]
 rw [decide_eq_false h2, if_neg z10_, if_neg (show ¬ (f.length < 1 ∨ f.length > 3) by omega)]
theorem rtype_eq (c : Int) : cH.f c = some (!badType c) := by
 unfold cH.f badType
 rw [rin_eq, Option.bind_some]
 congr 1
 by_cases h : c < 2 ∨ c > 4
 ·
  rw [decide_eq_true h, decide_eq_false z5_]; rfl
 rw [decide_eq_false h, decide_eq_true z5_]; rfl
theorem rforms_l2 (l : List Tb) (hl : l.length ≤ 1000000) (i : Nat) (v : Tb) (hi : i < l.length) (hv : cN l (i : Int) = v) (hc : v.f0.length ≤ 4) (m : List Int) : ∀ (k j : Nat), v.f0.drop j = m → m.length < k →
  raddleref01_Forms.l2 k l (i : Int) (j : Int) = if m.any badType = true then some 10 else raddleref01_Forms.l1 (k - m.length - 1) l ((i + 1 : Nat) : Int) := by
 induction m with
 | nil =>
  intro k j h hk
  obtain ⟨k, rfl⟩ : ∃ q, k = q + 1 := ⟨k - 1, by omega⟩
  have h1 := dQ h
  simp only [raddleref01_Forms.l2]
  rw [if_pos z5_, if_pos z5_, hv, if_neg z5_, w64 z5_ z5_]
  rfl
 | cons c m ih =>
  intro k j h hk
  obtain ⟨k, rfl⟩ : ∃ q, k = q + 1 := ⟨k - 1, by omega⟩
  have h1 := eJ h
  simp only [List.length_cons] at hk
  simp only [raddleref01_Forms.l2]
  rw [if_pos z5_, if_pos z5_, hv, if_pos z5_, if_pos z5_, rd_drop h, rtype_eq, Option.bind_some, List.any_cons]
  cases ho : badType c
  ·
   rw [if_pos z10_, w64 z5_ z5_, Bool.false_or]
   have := ih k (j + 1) (dN h) z5_
   rw [show ((j : Int) + 1) = ((j + 1 : Nat) : Int) from rfl, this, List.length_cons]
   rw [show k + 1 - (m.length + 1) - 1 = k - m.length - 1 by omega]
  ·
   rw [if_neg z10_, Bool.true_or, if_pos rfl]
theorem rforms_l1 (l : List Tb) (hl : l.length ≤ 1000000) (hb : l.any badLen = false) (m : List Tb) : ∀ (k i : Nat), l.drop i = m → m.length * 8 < k →
  raddleref01_Forms.l1 k l (i : Int) = some (if (m.any fun t => t.f0.any badType) = true then 10 else 0) := by
 induction m with
 | nil =>
  intro k i h hk
  obtain ⟨k, rfl⟩ : ∃ j, k = j + 1 := ⟨k - 1, by omega⟩
  have := dQ h
  simp only [raddleref01_Forms.l1]
  rw [if_neg z5_]; rfl
 | cons v m ih =>
  intro k i h hk
  obtain ⟨k, rfl⟩ : ∃ j, k = j + 1 := ⟨k - 1, by omega⟩
  have hi := eJ h
  have hv : v.f0.length ≤ 4 := by
   have hm : v ∈ l := List.mem_of_mem_drop (i := i) (by rw [h]; exact List.mem_cons_self)
   have := List.any_eq_false.1 hb v hm
   unfold badLen at this
   simp at this
   omega
  simp only [List.length_cons] at hk
  simp only [raddleref01_Forms.l1]
  rw [if_pos z5_]
  rw [show (0 : Int) = ((0 : Nat) : Int) from rfl, rforms_l2 l hl i v hi (gC h) hv v.f0 k 0 rfl z5_, List.any_cons]
  cases ho : v.f0.any badType
  ·
   rw [if_neg z10_, Bool.false_or]
   exact ih _ (i + 1) (dN h) z5_
  ·
   rw [if_pos rfl, Bool.true_or, if_pos rfl]
theorem rforms_l0 (l : List Tb) (hl : l.length ≤ 1000) (m : List Tb) : ∀ (k i : Nat), l.drop i = m → m.length + 8 * l.length + 2 < k →
  raddleref01_Forms.l0 k l (i : Int) = if m.any badLen = true then some 2 else if l.any badLen = false then some (if (l.any fun t => t.f0.any badType) = true then 10 else 0) else raddleref01_Forms.l0 k l (i : Int) := by
 induction m with
 | nil =>
  intro k i h hk
  obtain ⟨k, rfl⟩ : ∃ j, k = j + 1 := ⟨k - 1, by omega⟩
  have := dQ h
  rw [if_neg (by simp)]
  by_cases hb : l.any badLen = false
  rotate_left
  ·
   rw [if_neg hb]
  rw [if_pos hb]
  simp only [raddleref01_Forms.l0]
  rw [if_neg z5_]
  exact rforms_l1 l z5_ hb l k 0 rfl (by simp only [List.length_nil] at hk; omega)
 | cons v m ih =>
  intro k i h hk
  obtain ⟨k, rfl⟩ : ∃ j, k = j + 1 := ⟨k - 1, by omega⟩
  have hi := eJ h
  have hr : raddleref01_Forms.l0 (k + 1) l (i : Int) = if badLen v = true then some 2 else raddleref01_Forms.l0 k l ((i + 1 : Nat) : Int) := by
   simp only [raddleref01_Forms.l0]
   rw [if_pos z5_, if_pos z5_, gC h, rin_eq, Option.bind_some]
   unfold badLen
   by_cases hz : v.f0.length < 1 ∨ v.f0.length > 4
   ·
    rw [decide_eq_true hz, decide_eq_false z5_]; rfl
   ·
    rw [decide_eq_false hz, decide_eq_true z5_, w64 z5_ z5_]; rfl
  simp only [List.length_cons] at hk
  rw [List.any_cons]
  by_cases hb : l.any badLen = false
  ·
   have hv : badLen v = false := by
    have hm : v ∈ l := List.mem_of_mem_drop (i := i) (by rw [h]; exact List.mem_cons_self)
    exact Bool.eq_false_iff.2 (fun e => by have := List.any_eq_false.1 hb v hm; exact this e)
   rw [hr, hv, if_neg z10_, Bool.false_or, ih k (i + 1) (dN h) z5_, if_pos hb, if_pos hb]
  rw [if_neg hb]
  cases ho : badLen v
  ·
   rw [Bool.false_or, hr, ho, if_neg z10_]
   cases hz : m.any badLen
   ·
    rw [if_neg z10_]
   ·
    rw [if_pos rfl, ih k (i + 1) (dN h) z5_, hz, if_pos rfl]
  ·
   rw [Bool.true_or, if_pos rfl, hr, ho, if_pos rfl]
theorem rforms_eq (k : Nat) (f : List Tb) (hl : f.length ≤ 1000) (hk : 9 * f.length + 10 ≤ k) : raddleref01_Forms.f k f = some (formsE f) := by
 rw [formsE_eq]
 unfold raddleref01_Forms.f
 rw [rin_eq, Option.bind_some]
 by_cases h1 : f.length < 1 ∨ f.length > 3
 ·
  rw [decide_eq_false z5_, if_neg z10_, if_pos h1]
 rw [decide_eq_true z5_, if_pos rfl, if_neg h1, show (0 : Int) = ((0 : Nat) : Int) from rfl, rforms_l0 f hl f k 0 rfl z5_]
 cases hb : f.any badLen
 ·
  rfl
 ·
  rfl
end Go.Proofs.Ytimbbaoodjhdoaa.Plan
end
