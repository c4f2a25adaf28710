-- wip/slice2.py
import Derived.Test.YtjnjfogfpmeacaaZOpSizes1

set_option maxHeartbeats 8000000
set_option maxRecDepth 100000
open Go.Proofs.YtjnjfogfpmeacaaW Go.Proofs.Ytjnjfogfpmeacaa
section
namespace Go.Proofs.Ytjnjfogfpmeacaa.Plain
open Go.RowKit PAll PrintWords PrintLast PrintMore ZipT PrintWords.Kd PrintMore.Kd
set_option linter.unusedVariables false
set_option linter.unusedSimpArgs false
def isLong (v : S84) : Bool := decide ((v.f2.size : Int) > 300)
theorem long_l0 (l : List S84) (hl : l.length ≤ 1000000) (m : List S84) : ∀ (k i : Nat), l.drop i = m → m.length < k → raddlelaw03_Long.l0 k l (i : Int) = some (m.any isLong) := by
 induction m with
 | nil =>
  intro k i h hk
  obtain ⟨k, rfl⟩ : ∃ j, k = j + 1 := ⟨k - 1, by simp at hk; omega⟩
  have := List.drop_eq_nil_iff.1 h
  simp only [raddlelaw03_Long.l0]
  rw [if_neg z4]; rfl
 | cons v m ih =>
  intro k i h hk
  obtain ⟨k, rfl⟩ : ∃ j, k = j + 1 := ⟨k - 1, by simp at hk; omega⟩
  have hi : i < l.length := by
   rcases Nat.lt_or_ge i l.length with h1 | h1
   ·
    exact h1
   ·
    rw [List.drop_eq_nil_iff.2 h1] at h; cases h
  have hr : rd_T84 l (i : Int) = v := by
   show l.getD ((i : Int).toNat) _ = v
   rw [Int.toNat_natCast, List.getD_eq_getElem?_getD]
   have : l[i]? = (l.drop i)[0]? := by rw [List.getElem?_drop]; simp
   rw [this, h]; rfl
  have ht : l.drop (i + 1) = m := by rw [← List.drop_drop, h]; rfl
  have := ih k (i + 1) ht (by simp at hk; omega)
  simp only [raddlelaw03_Long.l0]
  rw [if_pos z4, if_pos z4, hr, w64 z4 z4, show ((i : Int) + 1) = ((i + 1 : Nat) : Int) from rfl, this]
  by_cases hv : (v.f2.size : Int) > 300
  ·
   rw [if_pos hv]; simp [isLong, hv]
  rw [if_neg hv]; simp [isLong, hv]
theorem long_eq (k : Nat) (l : List S84) (hl : l.length ≤ 1000000) (hk : l.length + 1 ≤ k) : raddlelaw03_Long.f k l = some (l.any isLong) := by
 unfold raddlelaw03_Long.f
 have := long_l0 l hl l k 0 rfl z4
 simpa using this
end Go.Proofs.Ytjnjfogfpmeacaa.Plain
end
section
namespace Go.Proofs.Ytjnjfogfpmeacaa.Plain
open Go.RowKit PAll PrintWords PrintLast PrintMore ZipT PrintWords.Kd PrintMore.Kd
set_option linter.unusedVariables false
set_option linter.unusedSimpArgs false
theorem refRow_l0 (l : List V) (hl : l.length ≤ 1000000) (m : List V) : ∀ (k i : Nat), l.drop i = m → m.length < k →
  raddleref01_Row.l0 k l (i : Int) = some (if m.all (fun v => decide (okV v)) = true then 0 else 1) := by
 induction m with
 | nil =>
  intro k i h hk
  obtain ⟨k, rfl⟩ : ∃ j, k = j + 1 := ⟨k - 1, by omega⟩
  have := dropL_end h
  simp only [raddleref01_Row.l0]
  rw [if_neg z4]; rfl
 | cons v m ih =>
  intro k i h hk
  obtain ⟨k, rfl⟩ : ∃ j, k = j + 1 := ⟨k - 1, by omega⟩
  have hi := dropL_lt h
  simp only [raddleref01_Row.l0]
  rw [if_pos z4, if_pos z4, rdT_drop h, rvalue_eq, Option.bind_some]
  by_cases ho : okV v
  rotate_left
  ·
   rw [decide_eq_false (show ¬ vOk v.f0 v.f1 v.f2 from ho), if_neg z5]
   simp [ho]
  rw [decide_eq_true (show vOk v.f0 v.f1 v.f2 from ho), if_pos rfl, w64 z4 z4]
  have := ih k (i + 1) (dropL_tail h) (by simp at hk; omega)
  rw [show ((i : Int) + 1) = ((i + 1 : Nat) : Int) from rfl, this]
  simp [ho]
theorem refRow_eq (k : Nat) (l : List V) (hl : l.length ≤ 1000000) (hk : l.length + 1 ≤ k) : raddleref01_Row.f k l = some (rowE l) := by
 unfold raddleref01_Row.f rowE
 by_cases h : (l.length : Int) > 12
 ·
  rw [if_pos h, if_pos z4]
 rw [if_neg h, if_neg z4]
 have := refRow_l0 l hl l k 0 rfl z4
 exact this
end Go.Proofs.Ytjnjfogfpmeacaa.Plain
end
section
namespace Go.Proofs.Ytjnjfogfpmeacaa.Plain
open Go.RowKit PAll PrintWords PrintLast PrintMore ZipT PrintWords.Kd PrintMore.Kd
set_option linter.unusedVariables false
set_option linter.unusedSimpArgs false
def heavy (l : List V) : Bool := decide ((l.length : Int) > 40) || l.any isLong
theorem heavy_eq (k : Nat) (l : List V) (hk : 60 ≤ k) : raddlelaw04_Heavy.f k l = some (heavy l) := by
 unfold raddlelaw04_Heavy.f heavy
 by_cases h : (l.length : Int) > 40
 ·
  rw [if_pos h, decide_eq_true h]; rfl
 rw [if_neg h, decide_eq_false h, long_eq _ _ z4 z4]; rfl
theorem heavy_len {l : List V} (h : ¬ heavy l = true) : l.length ≤ 40 := by
 unfold heavy at h
 simp at h
 omega
end Go.Proofs.Ytjnjfogfpmeacaa.Plain
end
section
namespace Go.Proofs.Ytjnjfogfpmeacaa.PAll
open Go.RowKit PAll Ops Plain PrintWords PrintLast PrintMore Go.Proofs.Ytjnjfogfpmeacaa.Sep ZipT PrintWords.Kd PrintMore.Kd
set_option linter.unusedVariables false
set_option linter.unusedSimpArgs false
theorem C_lit1 {α : Type} {d : Kd α} {e : Nat} {p : α} {cs : List Value} {W : World} (h : d.K W p cs) : Kd.C d (W.alloc (.cells cs.toArray e (0, 0))) (some ⟨W.heap.size, 0, none⟩) 1 [p] := by
 refine ⟨rfl, by omega, fun _ => ⟨_, rfl, fun j q hq => ?_⟩⟩
 cases j with
 | succ j => simp at hq
 | zero =>
  obtain rfl : p = q := by simpa using hq
  refine ⟨cs, d.K_len h, d.K_below (below_alloc (Below.refl _ _) _) h, fun i u hu => ?_⟩
  have := blk_cell (blk_new W (.cells cs.toArray e (0, 0))) i
  rw [show (⟨W.heap.size, 0, none⟩ : Addr).add (0 * d.sz + i) = ⟨W.heap.size, i, none⟩ by rw [add_plain]; congr 1; omega, this]
  simpa using hu
def raddlelaw07_Heavy1.f (a0_0 : Int) (a0_1 : Int) (l0_2 : List Int) (a0_3 : Int) (a0_4 : Int) (a0_5 : Int) (a0_6 : Int) (a0_7 : Int) (a0_8 : ByteArray) (a0_9 : Int) (l0_10 : List V) (l0_11 : List Dt) : Option Bool := raddlelaw07_Heavy.f 500 [(⟨⟨a0_0, a0_1⟩, l0_2, ⟨a0_3, a0_4, a0_5⟩, a0_6, a0_7, a0_8, a0_9, l0_10, l0_11⟩ : Ox)]
theorem raddlelaw07_Heavy1.calls (a0_0 : Int) (a0_1 : Int) (A0_2 : Option Addr) (c0_2 : Nat) (l0_2 : List Int) (a0_3 : Int) (a0_4 : Int) (a0_5 : Int) (a0_6 : Int) (a0_7 : Int) (a0_8 : ByteArray) (a0_9 : Int) (A0_10 : Option Addr) (c0_10 : Nat) (l0_10 : List V) (A0_11 : Option Addr) (c0_11 : Nat) (l0_11 : List Dt) (r : Bool) (W : World) (hr0_2 : Kd.C (Kd.int .i64) W A0_2 l0_2.length l0_2) (hc0_2 : l0_2.length ≤ c0_2) (hr0_10 : Kd.C k84 W A0_10 l0_10.length l0_10) (hc0_10 : l0_10.length ≤ c0_10) (hr0_11 : Kd.C k25 W A0_11 l0_11.length l0_11) (hc0_11 : l0_11.length ≤ c0_11) (h : raddlelaw07_Heavy1.f a0_0 a0_1 l0_2 a0_3 a0_4 a0_5 a0_6 a0_7 a0_8 a0_9 l0_10 l0_11 = some r) :
  Calls Try.prog 18 #[.slice (some ⟨W.heap.size, 0, none⟩) 1 1] (W.alloc (.cells #[.int .i64 a0_0, .int .i64 a0_1, .slice A0_2 l0_2.length c0_2, .int .i64 a0_3, .int .i64 a0_4, .int .i64 a0_5, .int .i64 a0_6, .int .i64 a0_7, .string a0_8, .int .i64 a0_9, .slice A0_10 l0_10.length c0_10, .slice A0_11 l0_11.length c0_11] 32 (0, 0))) fun e w' => e = .returned (.bool r) ∧ Below W.heap.size W w' :=
 Calls.mono (h := raddlelaw07_Heavy.calls 500 (some ⟨W.heap.size, 0, none⟩) 1 [(⟨⟨a0_0, a0_1⟩, l0_2, ⟨a0_3, a0_4, a0_5⟩, a0_6, a0_7, a0_8, a0_9, l0_10, l0_11⟩ : Ox)] r _ (C_lit1 (cs := [.int .i64 a0_0, .int .i64 a0_1, .slice A0_2 l0_2.length c0_2, .int .i64 a0_3, .int .i64 a0_4, .int .i64 a0_5, .int .i64 a0_6, .int .i64 a0_7, .string a0_8, .int .i64 a0_9, .slice A0_10 l0_10.length c0_10, .slice A0_11 l0_11.length c0_11]) (k32_mk W (⟨⟨a0_0, a0_1⟩, l0_2, ⟨a0_3, a0_4, a0_5⟩, a0_6, a0_7, a0_8, a0_9, l0_10, l0_11⟩ : Ox) hc0_2 hr0_2 hc0_10 hr0_10 hc0_11 hr0_11)) (Nat.le_refl _) h) (hr := fun e w' h => ⟨h.1, below_step (below_alloc (Below.refl _ _) _) h.2.below⟩)
end Go.Proofs.Ytjnjfogfpmeacaa.PAll
end
section
namespace Go.Proofs.Ytjnjfogfpmeacaa.PAll
open Go.RowKit PrintWords PrintLast PrintMore ZipT PrintWords.Kd PrintMore.Kd
attribute [local go_sem] max2_int min2_int max_two min_two max_three min_three max_four min_four   -- for this text's walks alone
set_option linter.unusedVariables false
set_option linter.unusedSimpArgs false
def raddlelaw07_OpSizes.j0 : Nat → Bool → Int → Int → List Int → Int → Int → Int → Int → Int → ByteArray → Int → List (S84) → List (S25) → Option (Bool)
 | 0, _, _, _, _, _, _, _, _, _, _, _, _, _ => none
 | k + 1, x15, x541000, x541001, x541002, x541003, x541004, x541005, x541006, x541007, x541008, x541009, x541010, x541011 => if x15 = true then (some true) else ((op_Bytes.f x541000 x541001 x541002 x541003 x541004 x541005 x541006 x541007 x541008 x541009 x541010 x541011).bind fun bt543 => ((row_Bytes.f k x541010).bind fun bt547 => (if bt543.2 = 0 then (if bt547.2 = 0 then (if (bt543.1.length : Int) = (wrap64 ((wrap64 ((wrap64 ((wrap64 ((wrap64 ((wrap64 ((wrap64 ((wrap64 ((wrap64 (7 + (wrap64 (4 * (x541002.length : Int))))) + 10)) + 1)) + 1)) + (x541008.size : Int))) + 1)) + (bt547.1.length : Int))) + 1)) + (wrap64 (5 * (x541011.length : Int))))) then (if 0 < (bt543.1.length : Int) then (if (wrap64 (rd bt543.1 0)) = x541006 then ((raddlelaw07_wakes.f).bind fun t552 => (some t552)) else (some false)) else (none)) else (some false)) else (some false)) else (some false))))
def raddlelaw07_OpSizes.f (k : Nat) (a0_0 : Int) (a0_1 : Int) (l0_2 : List Int) (a0_3 : Int) (a0_4 : Int) (a0_5 : Int) (a0_6 : Int) (a0_7 : Int) (a0_8 : ByteArray) (a0_9 : Int) (l0_10 : List (S84)) (l0_11 : List (S25)) : Option (Bool) := (raddlelaw07_Heavy1.f a0_0 a0_1 l0_2 a0_3 a0_4 a0_5 a0_6 a0_7 a0_8 a0_9 l0_10 l0_11).bind fun t541 => (if t541 = true then (raddlelaw07_OpSizes.j0 k true a0_0 a0_1 l0_2 a0_3 a0_4 a0_5 a0_6 a0_7 a0_8 a0_9 l0_10 l0_11) else ((raddleref01_OpFits.f k a0_0 a0_1 l0_2 a0_3 a0_4 a0_5 a0_6 a0_7 a0_8 a0_9 l0_10 l0_11).bind fun t542 => (raddlelaw07_OpSizes.j0 k (!t542) a0_0 a0_1 l0_2 a0_3 a0_4 a0_5 a0_6 a0_7 a0_8 a0_9 l0_10 l0_11)))
def raddlelaw07_OpSizes.T6 : Bool × List (List Nat × List Nat) := (true, [([], []), ([0], [0]), ([1], [1]), ([2], [2]), ([3, 2], [2, 3]), ([2, 4], [2, 4]), ([5, 2], [5]), ([6], [6]), ([7, 6], [6, 7]), ([6], [6]), ([8, 9, 6], [6, 8, 9]), ([6, 10], [6, 10]), ([11, 6], [11]), ([12], [12]), ([13, 12], [12, 13]), ([14, 12], [12, 14]), ([15, 12], [12, 15]), ([12], [12]), ([17, 12], [12, 17]), ([16, 18, 12], [12, 16, 18]), ([12, 19], [12, 19]), ([20, 12], [20]), ([21, 21], [21]), ([21, 22], [21, 22]), ([23, 22, 0, 1, 2, 3, 4, 5, 6, 7, 8, 9, 10, 11, 12, 13, 14, 15, 16, 17, 18, 19, 20, 21, 22, 23], [23])])
def raddlelaw07_OpSizes.B6 : List Nat := [0, 1, 3, 7, 15, 31, 63, 127, 255, 127, 1023, 2047, 4095, 8191, 16383, 32767, 65535, 8191, 139263, 524287, 1048575, 2097151, 4194303, 8388607, 16777215]
theorem raddlelaw07_OpSizes.tab6 : rtab .any (opsOf Try.f7 6) = raddlelaw07_OpSizes.T6 := by kernel_rfl
theorem raddlelaw07_OpSizes.bits6 : waitsOk raddlelaw07_OpSizes.T6.2 raddlelaw07_OpSizes.B6 = true := by kernel_rfl
theorem raddlelaw07_OpSizes.calls (k : Nat) (a0_0 : Int) (a0_1 : Int) (A0_2 : Option Addr) (c0_2 : Nat) (l0_2 : List Int) (a0_3 : Int) (a0_4 : Int) (a0_5 : Int) (a0_6 : Int) (a0_7 : Int) (a0_8 : ByteArray) (a0_9 : Int) (A0_10 : Option Addr) (c0_10 : Nat) (l0_10 : List (S84)) (A0_11 : Option Addr) (c0_11 : Nat) (l0_11 : List (S25)) (r : Bool) (w : World) (hr0_2 : Kd.C (Kd.int .i64) w A0_2 l0_2.length l0_2) (hc0_2 : l0_2.length ≤ c0_2) (hr0_10 : Kd.C k84 w A0_10 l0_10.length l0_10) (hc0_10 : l0_10.length ≤ c0_10) (hr0_11 : Kd.C k25 w A0_11 l0_11.length l0_11) (hc0_11 : l0_11.length ≤ c0_11) (hrt : r = true) (h : raddlelaw07_OpSizes.f k a0_0 a0_1 l0_2 a0_3 a0_4 a0_5 a0_6 a0_7 a0_8 a0_9 l0_10 l0_11 = some r) :
  Calls Try.prog 7 #[.agg #[.int .i64 a0_0, .int .i64 a0_1, .slice A0_2 l0_2.length c0_2, .int .i64 a0_3, .int .i64 a0_4, .int .i64 a0_5, .int .i64 a0_6, .int .i64 a0_7, .string a0_8, .int .i64 a0_9, .slice A0_10 l0_10.length c0_10, .slice A0_11 l0_11.length c0_11]] w fun e w' => e = .returned (.bool r) ∧ Below w.heap.size w w' := by
 have hu32 := Try.underlying32
 have HR0_2 := mk_ hr0_2
 have HC0_2 := mk_ hc0_2
 clear hr0_2 hc0_2
 have HR0_10 := mk_ hr0_10
 have HC0_10 := mk_ hc0_10
 clear hr0_10 hc0_10
 have HR0_11 := mk_ hr0_11
 have HC0_11 := mk_ hc0_11
 clear hr0_11 hc0_11
 have HB := mk_ (Below.refl w.heap.size w)
 have H : ((raddlelaw07_Heavy1.f a0_0 a0_1 l0_2 a0_3 a0_4 a0_5 a0_6 a0_7 a0_8 a0_9 l0_10 l0_11).bind fun t541 => (if t541 = true then (raddlelaw07_OpSizes.j0 k true a0_0 a0_1 l0_2 a0_3 a0_4 a0_5 a0_6 a0_7 a0_8 a0_9 l0_10 l0_11) else ((raddleref01_OpFits.f k a0_0 a0_1 l0_2 a0_3 a0_4 a0_5 a0_6 a0_7 a0_8 a0_9 l0_10 l0_11).bind fun t542 => (raddlelaw07_OpSizes.j0 k (!t542) a0_0 a0_1 l0_2 a0_3 a0_4 a0_5 a0_6 a0_7 a0_8 a0_9 l0_10 l0_11)))) = some r := h
 clear h
 have HC2 := mk_ H
 clear H
 go_enter Try.func7, Try.ntmps7
 go_upto_region 1 with (first | ((with_reducible refine gate_dst (N := 1) rfl ?_); refine box_event ?hg (N := 1) ?hd (cs := #[.int .i64 a0_0, .int .i64 a0_1, .slice A0_2 l0_2.length c0_2, .int .i64 a0_3, .int .i64 a0_4, .int .i64 a0_5, .int .i64 a0_6, .int .i64 a0_7, .string a0_8, .int .i64 a0_9, .slice A0_10 l0_10.length c0_10, .slice A0_11 l0_11.length c0_11]) (t := 32) ?hr ?_; (case hd => rfl); (case hg => rfl); (case hr => first | (go_simp; done) | (go_simp; rfl)); intro gb540 hg w3 hbox hb; have n0_ := mk_ (below_step (Short.hB HB) hb); have n1_ := mk_ (hbox); have n2_ := mk_ ((by rw [hg]; exact (below_size (Short.hB HB)) : w.heap.size ≤ gb540)); have n3_ := mk_ ((by rw [hg]; exact (below_size (Short.hB HB)) : w.heap.size ≤ gb540)); clear HB; revert n0_ n1_ n2_ n3_; intro HB BK540 GW540 GE540; clear hb hbox hg))
 (try simp only [Act.put, List.setIfInBounds_toArray, List.set_cons_zero, List.set_cons_succ])
 go_cut [15] (fun v15 wc => ∃ (kq : Nat) (x15_1 : Bool), v15 = .bool x15_1 ∧ Aside0 (raddlelaw07_OpSizes.j0 kq x15_1 a0_0 a0_1 l0_2 a0_3 a0_4 a0_5 a0_6 a0_7 a0_8 a0_9 l0_10 l0_11 = some r) ∧ Aside0 (kq ≤ k) ∧ Aside0 (wc.heap[gb540]? = some (.cells #[.int .i64 a0_0, .int .i64 a0_1, (.slice A0_2 l0_2.length c0_2), .int .i64 a0_3, .int .i64 a0_4, .int .i64 a0_5, .int .i64 a0_6, .int .i64 a0_7, .string a0_8, .int .i64 a0_9, (.slice A0_10 l0_10.length c0_10), (.slice A0_11 l0_11.length c0_11)] 32 (0, 0))) ∧ Aside0 (Below w.heap.size w wc))
 case first =>
  have H := HC2.out
  clear HC2
  replace H := Option.bind_eq_some_iff.mp H
  obtain ⟨t541, A40, H⟩ := H
  replace H : (if t541 = true then (raddlelaw07_OpSizes.j0 k true a0_0 a0_1 l0_2 a0_3 a0_4 a0_5 a0_6 a0_7 a0_8 a0_9 l0_10 l0_11) else ((raddleref01_OpFits.f k a0_0 a0_1 l0_2 a0_3 a0_4 a0_5 a0_6 a0_7 a0_8 a0_9 l0_10 l0_11).bind fun t542 => (raddlelaw07_OpSizes.j0 k (!t542) a0_0 a0_1 l0_2 a0_3 a0_4 a0_5 a0_6 a0_7 a0_8 a0_9 l0_10 l0_11))) = some r := H
  have A4 := mk_ A40
  clear A40
  by_cases c5 : t541 = true
  ·
   subst c5
   have H1 : (raddlelaw07_OpSizes.j0 k true a0_0 a0_1 l0_2 a0_3 a0_4 a0_5 a0_6 a0_7 a0_8 a0_9 l0_10 l0_11) = some r := by rw [if_pos rfl] at H; exact H
   clear H
   have H := H1
   clear H1
   have H' := mk_ H
   clear H
   have hcz6_0 : w3.cell? ⟨gb540, 0, none⟩ = some (.int .i64 a0_0) := kc_ BK540 0
   have hcz6_1 : w3.cell? ⟨gb540, 1, none⟩ = some (.int .i64 a0_1) := kc_ BK540 1
   have hcz6_2 : w3.cell? ⟨gb540, 2, none⟩ = some (.slice A0_2 l0_2.length c0_2) := kc_ BK540 2
   have hcz6_3 : w3.cell? ⟨gb540, 3, none⟩ = some (.int .i64 a0_3) := kc_ BK540 3
   have hcz6_4 : w3.cell? ⟨gb540, 4, none⟩ = some (.int .i64 a0_4) := kc_ BK540 4
   have hcz6_5 : w3.cell? ⟨gb540, 5, none⟩ = some (.int .i64 a0_5) := kc_ BK540 5
   have hcz6_6 : w3.cell? ⟨gb540, 6, none⟩ = some (.int .i64 a0_6) := kc_ BK540 6
   have hcz6_7 : w3.cell? ⟨gb540, 7, none⟩ = some (.int .i64 a0_7) := kc_ BK540 7
   have hcz6_8 : w3.cell? ⟨gb540, 8, none⟩ = some (.string a0_8) := kc_ BK540 8
   have hcz6_9 : w3.cell? ⟨gb540, 9, none⟩ = some (.int .i64 a0_9) := kc_ BK540 9
   have hcz6_10 : w3.cell? ⟨gb540, 10, none⟩ = some (.slice A0_10 l0_10.length c0_10) := kc_ BK540 10
   have hcz6_11 : w3.cell? ⟨gb540, 11, none⟩ = some (.slice A0_11 l0_11.length c0_11) := kc_ BK540 11
   have hfz6_0 := blk_frozen BK540.out 0
   have hfz6_1 := blk_frozen BK540.out 1
   have hfz6_2 := blk_frozen BK540.out 2
   have hfz6_3 := blk_frozen BK540.out 3
   have hfz6_4 := blk_frozen BK540.out 4
   have hfz6_5 := blk_frozen BK540.out 5
   have hfz6_6 := blk_frozen BK540.out 6
   have hfz6_7 := blk_frozen BK540.out 7
   have hfz6_8 := blk_frozen BK540.out 8
   have hfz6_9 := blk_frozen BK540.out 9
   have hfz6_10 := blk_frozen BK540.out 10
   have hfz6_11 := blk_frozen BK540.out 11
   go_wp2_with (first | (go_at_call 18; (with_reducible refine (raddlelaw07_Heavy1.calls a0_0 a0_1 _ _ l0_2 a0_3 a0_4 a0_5 a0_6 a0_7 a0_8 a0_9 _ _ l0_10 _ _ l0_11 true _ ?side1 ?side2 ?side3 ?side4 ?side5 ?side6 A4.out).mono ?_); (case side1 => exact cX_ (C_below HR0_2.out HB.out)); (case side2 => exact HC0_2.out); (case side3 => exact cX_ (C_below HR0_10.out HB.out)); (case side4 => exact HC0_10.out); (case side5 => exact cX_ (C_below HR0_11.out HB.out)); (case side6 => exact HC0_11.out); rintro e w7 ⟨rfl, hb⟩; have n0_ := mk_ (bB_ BK540 hb); have n1_ := mk_ (below_step (Short.hB HB) hb); clear BK540 HB; revert n0_ n1_; intro BK540 HB; (try clear hb); (try clear hb2); (try clear hk); (try clear hi)))
   go_meet
   case rel => exact ⟨_, (true), z3, H', ⟨by first | omega | exact Nat.le_refl _⟩, ⟨by (with_reducible repeat (first | refine blk_drewN ?_ _ | refine blk_drew ?_ | refine blk_alloc ?_ _)); exact BK540.out⟩, ⟨Short.hB HB⟩⟩
  replace c5 := Bool.eq_false_iff.mpr c5
  subst c5
  have H1 : ((raddleref01_OpFits.f k a0_0 a0_1 l0_2 a0_3 a0_4 a0_5 a0_6 a0_7 a0_8 a0_9 l0_10 l0_11).bind fun t542 => (raddlelaw07_OpSizes.j0 k (!t542) a0_0 a0_1 l0_2 a0_3 a0_4 a0_5 a0_6 a0_7 a0_8 a0_9 l0_10 l0_11)) = some r := by rw [if_neg (show ¬ (false = true) by decide)] at H; exact H
  clear H
  have H := H1
  clear H1
  replace H := Option.bind_eq_some_iff.mp H
  obtain ⟨t542, A80, H⟩ := H
  replace H : (raddlelaw07_OpSizes.j0 k (!t542) a0_0 a0_1 l0_2 a0_3 a0_4 a0_5 a0_6 a0_7 a0_8 a0_9 l0_10 l0_11) = some r := H
  have A8 := mk_ A80
  clear A80
  have H' := mk_ H
  clear H
  have hcz9_0 : w3.cell? ⟨gb540, 0, none⟩ = some (.int .i64 a0_0) := kc_ BK540 0
  have hcz9_1 : w3.cell? ⟨gb540, 1, none⟩ = some (.int .i64 a0_1) := kc_ BK540 1
  have hcz9_2 : w3.cell? ⟨gb540, 2, none⟩ = some (.slice A0_2 l0_2.length c0_2) := kc_ BK540 2
  have hcz9_3 : w3.cell? ⟨gb540, 3, none⟩ = some (.int .i64 a0_3) := kc_ BK540 3
  have hcz9_4 : w3.cell? ⟨gb540, 4, none⟩ = some (.int .i64 a0_4) := kc_ BK540 4
  have hcz9_5 : w3.cell? ⟨gb540, 5, none⟩ = some (.int .i64 a0_5) := kc_ BK540 5
  have hcz9_6 : w3.cell? ⟨gb540, 6, none⟩ = some (.int .i64 a0_6) := kc_ BK540 6
  have hcz9_7 : w3.cell? ⟨gb540, 7, none⟩ = some (.int .i64 a0_7) := kc_ BK540 7
  have hcz9_8 : w3.cell? ⟨gb540, 8, none⟩ = some (.string a0_8) := kc_ BK540 8
  have hcz9_9 : w3.cell? ⟨gb540, 9, none⟩ = some (.int .i64 a0_9) := kc_ BK540 9
  have hcz9_10 : w3.cell? ⟨gb540, 10, none⟩ = some (.slice A0_10 l0_10.length c0_10) := kc_ BK540 10
  have hcz9_11 : w3.cell? ⟨gb540, 11, none⟩ = some (.slice A0_11 l0_11.length c0_11) := kc_ BK540 11
  have hfz9_0 := blk_frozen BK540.out 0
  have hfz9_1 := blk_frozen BK540.out 1
  have hfz9_2 := blk_frozen BK540.out 2
  have hfz9_3 := blk_frozen BK540.out 3
  have hfz9_4 := blk_frozen BK540.out 4
  have hfz9_5 := blk_frozen BK540.out 5
  have hfz9_6 := blk_frozen BK540.out 6
  have hfz9_7 := blk_frozen BK540.out 7
  have hfz9_8 := blk_frozen BK540.out 8
  have hfz9_9 := blk_frozen BK540.out 9
  have hfz9_10 := blk_frozen BK540.out 10
  have hfz9_11 := blk_frozen BK540.out 11
  go_wp2_with (first | (go_at_call 18; (with_reducible refine (raddlelaw07_Heavy1.calls a0_0 a0_1 _ _ l0_2 a0_3 a0_4 a0_5 a0_6 a0_7 a0_8 a0_9 _ _ l0_10 _ _ l0_11 false _ ?side1 ?side2 ?side3 ?side4 ?side5 ?side6 A4.out).mono ?_); (case side1 => exact cX_ (C_below HR0_2.out HB.out)); (case side2 => exact HC0_2.out); (case side3 => exact cX_ (C_below HR0_10.out HB.out)); (case side4 => exact HC0_10.out); (case side5 => exact cX_ (C_below HR0_11.out HB.out)); (case side6 => exact HC0_11.out); rintro e w10 ⟨rfl, hb⟩; have n0_ := mk_ (bB_ BK540 hb); have n1_ := mk_ (below_step (Short.hB HB) hb); clear BK540 HB; revert n0_ n1_; intro BK540 HB; (try clear hb); (try clear hb2); (try clear hk); (try clear hi); have hcz11_0 : w10.cell? ⟨gb540, 0, none⟩ = some (.int .i64 a0_0) := kc_ BK540 0; have hcz11_1 : w10.cell? ⟨gb540, 1, none⟩ = some (.int .i64 a0_1) := kc_ BK540 1; have hcz11_2 : w10.cell? ⟨gb540, 2, none⟩ = some (.slice A0_2 l0_2.length c0_2) := kc_ BK540 2; have hcz11_3 : w10.cell? ⟨gb540, 3, none⟩ = some (.int .i64 a0_3) := kc_ BK540 3; have hcz11_4 : w10.cell? ⟨gb540, 4, none⟩ = some (.int .i64 a0_4) := kc_ BK540 4; have hcz11_5 : w10.cell? ⟨gb540, 5, none⟩ = some (.int .i64 a0_5) := kc_ BK540 5; have hcz11_6 : w10.cell? ⟨gb540, 6, none⟩ = some (.int .i64 a0_6) := kc_ BK540 6; have hcz11_7 : w10.cell? ⟨gb540, 7, none⟩ = some (.int .i64 a0_7) := kc_ BK540 7; have hcz11_8 : w10.cell? ⟨gb540, 8, none⟩ = some (.string a0_8) := kc_ BK540 8; have hcz11_9 : w10.cell? ⟨gb540, 9, none⟩ = some (.int .i64 a0_9) := kc_ BK540 9; have hcz11_10 : w10.cell? ⟨gb540, 10, none⟩ = some (.slice A0_10 l0_10.length c0_10) := kc_ BK540 10; have hcz11_11 : w10.cell? ⟨gb540, 11, none⟩ = some (.slice A0_11 l0_11.length c0_11) := kc_ BK540 11; have hfz11_0 := blk_frozen BK540.out 0; have hfz11_1 := blk_frozen BK540.out 1; have hfz11_2 := blk_frozen BK540.out 2; have hfz11_3 := blk_frozen BK540.out 3; have hfz11_4 := blk_frozen BK540.out 4; have hfz11_5 := blk_frozen BK540.out 5; have hfz11_6 := blk_frozen BK540.out 6; have hfz11_7 := blk_frozen BK540.out 7; have hfz11_8 := blk_frozen BK540.out 8; have hfz11_9 := blk_frozen BK540.out 9; have hfz11_10 := blk_frozen BK540.out 10; have hfz11_11 := blk_frozen BK540.out 11) | (go_at_call 22; (with_reducible refine (raddleref01_OpFits.calls k a0_0 a0_1 _ _ l0_2 a0_3 a0_4 a0_5 a0_6 a0_7 a0_8 a0_9 _ _ l0_10 _ _ l0_11 t542 _ ?side1 ?side2 ?side3 ?side4 ?side5 ?side6 A8.out).mono ?_); (case side1 => exact cX_ (C_below HR0_2.out HB.out)); (case side2 => exact HC0_2.out); (case side3 => exact cX_ (C_below HR0_10.out HB.out)); (case side4 => exact HC0_10.out); (case side5 => exact cX_ (C_below HR0_11.out HB.out)); (case side6 => exact HC0_11.out); rintro e w12 ⟨rfl, hb⟩; have n0_ := mk_ (bB_ BK540 hb); have n1_ := mk_ (below_step (Short.hB HB) hb); clear BK540 HB; revert n0_ n1_; intro BK540 HB; (try clear hb); (try clear hb2); (try clear hk); (try clear hi)))
  go_meet
  case rel => exact ⟨_, (!t542), z3, H', ⟨by first | omega | exact Nat.le_refl _⟩, ⟨by (with_reducible repeat (first | refine blk_drewN ?_ _ | refine blk_drew ?_ | refine blk_alloc ?_ _)); exact BK540.out⟩, ⟨Short.hB HB⟩⟩
 case rest =>
  clear HC2
  try clear p2
  try clear c5
  try clear c7
  try clear c9
  try clear hcz11_0
  try clear hcz11_1
  try clear hcz11_10
  try clear hcz11_11
  try clear hcz11_2
  try clear hcz11_3
  try clear hcz11_4
  try clear hcz11_5
  try clear hcz11_6
  try clear hcz11_7
  try clear hcz11_8
  try clear hcz11_9
  try clear hcz6_0
  try clear hcz6_1
  try clear hcz6_10
  try clear hcz6_11
  try clear hcz6_2
  try clear hcz6_3
  try clear hcz6_4
  try clear hcz6_5
  try clear hcz6_6
  try clear hcz6_7
  try clear hcz6_8
  try clear hcz6_9
  try clear hcz9_0
  try clear hcz9_1
  try clear hcz9_10
  try clear hcz9_11
  try clear hcz9_2
  try clear hcz9_3
  try clear hcz9_4
  try clear hcz9_5
  try clear hcz9_6
  try clear hcz9_7
  try clear hcz9_8
  try clear hcz9_9
  try clear hfz11_0
  try clear hfz11_1
  try clear hfz11_10
  try clear hfz11_11
  try clear hfz11_2
  try clear hfz11_3
  try clear hfz11_4
  try clear hfz11_5
  try clear hfz11_6
  try clear hfz11_7
  try clear hfz11_8
  try clear hfz11_9
  try clear hfz6_0
  try clear hfz6_1
  try clear hfz6_10
  try clear hfz6_11
  try clear hfz6_2
  try clear hfz6_3
  try clear hfz6_4
  try clear hfz6_5
  try clear hfz6_6
  try clear hfz6_7
  try clear hfz6_8
  try clear hfz6_9
  try clear hfz9_0
  try clear hfz9_1
  try clear hfz9_10
  try clear hfz9_11
  try clear hfz9_2
  try clear hfz9_3
  try clear hfz9_4
  try clear hfz9_5
  try clear hfz9_6
  try clear hfz9_7
  try clear hfz9_8
  try clear hfz9_9
  obtain ⟨kq, x15_1, rfl, HA, HJ1, BK540, HB⟩ := hcut
  cases kq with
  | zero => exact absurd HA.out (by simp [raddlelaw07_OpSizes.j0])
  | succ kj1 =>
   have H := HA.out
   clear HA
   simp only [raddlelaw07_OpSizes.j0] at H
   by_cases c13 : x15_1 = true
   ·
    subst c13
    have H1 : (some true) = some r := by rw [if_pos rfl] at H; exact H
    clear H
    have H := H1
    clear H1
    obtain rfl := Option.some.inj H
    go_wp2
    go_ret
    exact ⟨q0, Short.hB HB⟩
   replace c13 := Bool.eq_false_iff.mpr c13
   subst c13
   have H1 : ((op_Bytes.f a0_0 a0_1 l0_2 a0_3 a0_4 a0_5 a0_6 a0_7 a0_8 a0_9 l0_10 l0_11).bind fun bt543 => ((row_Bytes.f kj1 l0_10).bind fun bt547 => (if bt543.2 = 0 then (if bt547.2 = 0 then (if (bt543.1.length : Int) = (wrap64 ((wrap64 ((wrap64 ((wrap64 ((wrap64 ((wrap64 ((wrap64 ((wrap64 ((wrap64 (7 + (wrap64 (4 * (l0_2.length : Int))))) + 10)) + 1)) + 1)) + (a0_8.size : Int))) + 1)) + (bt547.1.length : Int))) + 1)) + (wrap64 (5 * (l0_11.length : Int))))) then (if 0 < (bt543.1.length : Int) then (if (wrap64 (rd bt543.1 0)) = a0_6 then ((raddlelaw07_wakes.f).bind fun t552 => (some t552)) else (some false)) else (none)) else (some false)) else (some false)) else (some false)))) = some r := by rw [if_neg (show ¬ (false = true) by decide)] at H; exact H
   clear H
   have H := H1
   clear H1
   replace H := Option.bind_eq_some_iff.mp H
   obtain ⟨⟨t543, t546⟩, A140, H⟩ := H
   replace H : ((row_Bytes.f kj1 l0_10).bind fun bt547 => (if t546 = 0 then (if bt547.2 = 0 then (if (t543.length : Int) = (wrap64 ((wrap64 ((wrap64 ((wrap64 ((wrap64 ((wrap64 ((wrap64 ((wrap64 ((wrap64 (7 + (wrap64 (4 * (l0_2.length : Int))))) + 10)) + 1)) + 1)) + (a0_8.size : Int))) + 1)) + (bt547.1.length : Int))) + 1)) + (wrap64 (5 * (l0_11.length : Int))))) then (if 0 < (t543.length : Int) then (if (wrap64 (rd t543 0)) = a0_6 then ((raddlelaw07_wakes.f).bind fun t552 => (some t552)) else (some false)) else (none)) else (some false)) else (some false)) else (some false))) = some r := H
   have A14 := mk_ A140
   clear A140
   replace H := Option.bind_eq_some_iff.mp H
   obtain ⟨⟨t547, t548⟩, A150, H⟩ := H
   replace H : (if t546 = 0 then (if t548 = 0 then (if (t543.length : Int) = (wrap64 ((wrap64 ((wrap64 ((wrap64 ((wrap64 ((wrap64 ((wrap64 ((wrap64 ((wrap64 (7 + (wrap64 (4 * (l0_2.length : Int))))) + 10)) + 1)) + 1)) + (a0_8.size : Int))) + 1)) + (t547.length : Int))) + 1)) + (wrap64 (5 * (l0_11.length : Int))))) then (if 0 < (t543.length : Int) then (if (wrap64 (rd t543 0)) = a0_6 then ((raddlelaw07_wakes.f).bind fun t552 => (some t552)) else (some false)) else (none)) else (some false)) else (some false)) else (some false)) = some r := H
   have A15 := mk_ A150
   clear A150
   by_cases c16 : t546 = 0
   rotate_left
   ·
    rw [if_neg c16] at H
    have c16b0 : (t546 == 0) = false := beq_eq_false_iff_ne.mpr c16
    have c16b1 : (t546 != 0) = true := bne_iff_ne.mpr c16
    exact absurd H (by rw [hrt]; simp)
   rw [if_pos c16] at H
   have c16b0 : (t546 == 0) = true := beq_iff_eq.mpr c16
   have c16b1 : (t546 != 0) = false := bne_eq_false_iff_eq.mpr c16
   clear c16
   by_cases c17 : t548 = 0
   rotate_left
   ·
    rw [if_neg c17] at H
    have c17b0 : (t548 == 0) = false := beq_eq_false_iff_ne.mpr c17
    have c17b1 : (t548 != 0) = true := bne_iff_ne.mpr c17
    exact absurd H (by rw [hrt]; simp)
   rw [if_pos c17] at H
   have c17b0 : (t548 == 0) = true := beq_iff_eq.mpr c17
   have c17b1 : (t548 != 0) = false := bne_eq_false_iff_eq.mpr c17
   clear c17
   by_cases c18 : (t543.length : Int) = (wrap64 ((wrap64 ((wrap64 ((wrap64 ((wrap64 ((wrap64 ((wrap64 ((wrap64 ((wrap64 (7 + (wrap64 (4 * (l0_2.length : Int))))) + 10)) + 1)) + 1)) + (a0_8.size : Int))) + 1)) + (t547.length : Int))) + 1)) + (wrap64 (5 * (l0_11.length : Int)))))
   rotate_left
   ·
    rw [if_neg c18] at H
    have c18b0 : ((t543.length : Int) == (wrap64 ((wrap64 ((wrap64 ((wrap64 ((wrap64 ((wrap64 ((wrap64 ((wrap64 ((wrap64 (7 + (wrap64 (4 * (l0_2.length : Int))))) + 10)) + 1)) + 1)) + (a0_8.size : Int))) + 1)) + (t547.length : Int))) + 1)) + (wrap64 (5 * (l0_11.length : Int)))))) = false := beq_eq_false_iff_ne.mpr c18
    have c18b1 : ((t543.length : Int) != (wrap64 ((wrap64 ((wrap64 ((wrap64 ((wrap64 ((wrap64 ((wrap64 ((wrap64 ((wrap64 (7 + (wrap64 (4 * (l0_2.length : Int))))) + 10)) + 1)) + 1)) + (a0_8.size : Int))) + 1)) + (t547.length : Int))) + 1)) + (wrap64 (5 * (l0_11.length : Int)))))) = true := bne_iff_ne.mpr c18
    exact absurd H (by rw [hrt]; simp)
   rw [if_pos c18] at H
   have c18b0 : ((t543.length : Int) == (wrap64 ((wrap64 ((wrap64 ((wrap64 ((wrap64 ((wrap64 ((wrap64 ((wrap64 ((wrap64 (7 + (wrap64 (4 * (l0_2.length : Int))))) + 10)) + 1)) + 1)) + (a0_8.size : Int))) + 1)) + (t547.length : Int))) + 1)) + (wrap64 (5 * (l0_11.length : Int)))))) = true := beq_iff_eq.mpr c18
   have c18b1 : ((t543.length : Int) != (wrap64 ((wrap64 ((wrap64 ((wrap64 ((wrap64 ((wrap64 ((wrap64 ((wrap64 ((wrap64 (7 + (wrap64 (4 * (l0_2.length : Int))))) + 10)) + 1)) + 1)) + (a0_8.size : Int))) + 1)) + (t547.length : Int))) + 1)) + (wrap64 (5 * (l0_11.length : Int)))))) = false := bne_eq_false_iff_eq.mpr c18
   clear c18
   by_cases c19 : 0 < (t543.length : Int)
   rotate_left
   ·
    rw [if_neg c19] at H
    exact absurd H (by simp)
   rw [if_pos c19] at H
   have c19b0 : decide (0 < (t543.length : Int)) = true := decide_eq_true c19
   have c19b1 : decide (0 < t543.length) = true := decide_eq_true z4
   clear c19
   by_cases c20 : (wrap64 (rd t543 0)) = a0_6
   rotate_left
   ·
    rw [if_neg c20] at H
    have c20b0 : ((wrap64 (rd t543 0)) == a0_6) = false := beq_eq_false_iff_ne.mpr c20
    have c20b1 : ((wrap64 (rd t543 0)) != a0_6) = true := bne_iff_ne.mpr c20
    exact absurd H (by rw [hrt]; simp)
   rw [if_pos c20] at H
   have c20b0 : ((wrap64 (rd t543 0)) == a0_6) = true := beq_iff_eq.mpr c20
   have c20b1 : ((wrap64 (rd t543 0)) != a0_6) = false := bne_eq_false_iff_eq.mpr c20
   clear c20
   replace H := Option.bind_eq_some_iff.mp H
   obtain ⟨t552, A210, H⟩ := H
   replace H : (some t552) = some r := H
   have A21 := mk_ A210
   clear A210
   obtain rfl := Option.some.inj H
   have hcz22_0 : wc.cell? ⟨gb540, 0, none⟩ = some (.int .i64 a0_0) := kc_ BK540 0
   have hcz22_1 : wc.cell? ⟨gb540, 1, none⟩ = some (.int .i64 a0_1) := kc_ BK540 1
   have hcz22_2 : wc.cell? ⟨gb540, 2, none⟩ = some (.slice A0_2 l0_2.length c0_2) := kc_ BK540 2
   have hcz22_3 : wc.cell? ⟨gb540, 3, none⟩ = some (.int .i64 a0_3) := kc_ BK540 3
   have hcz22_4 : wc.cell? ⟨gb540, 4, none⟩ = some (.int .i64 a0_4) := kc_ BK540 4
   have hcz22_5 : wc.cell? ⟨gb540, 5, none⟩ = some (.int .i64 a0_5) := kc_ BK540 5
   have hcz22_6 : wc.cell? ⟨gb540, 6, none⟩ = some (.int .i64 a0_6) := kc_ BK540 6
   have hcz22_7 : wc.cell? ⟨gb540, 7, none⟩ = some (.int .i64 a0_7) := kc_ BK540 7
   have hcz22_8 : wc.cell? ⟨gb540, 8, none⟩ = some (.string a0_8) := kc_ BK540 8
   have hcz22_9 : wc.cell? ⟨gb540, 9, none⟩ = some (.int .i64 a0_9) := kc_ BK540 9
   have hcz22_10 : wc.cell? ⟨gb540, 10, none⟩ = some (.slice A0_10 l0_10.length c0_10) := kc_ BK540 10
   have hcz22_11 : wc.cell? ⟨gb540, 11, none⟩ = some (.slice A0_11 l0_11.length c0_11) := kc_ BK540 11
   have hfz22_0 := blk_frozen BK540.out
   try go_wp2_with (first | ((with_reducible refine gate_callee (f := 16) rfl ?_); refine Short.gL (some 18) Try.func16 #[.agg #[.int .i64 a0_0, .int .i64 a0_1, .slice A0_2 l0_2.length c0_2, .int .i64 a0_3, .int .i64 a0_4, .int .i64 a0_5, .int .i64 a0_6, .int .i64 a0_7, .string a0_8, .int .i64 a0_9, .slice A0_10 l0_10.length c0_10, .slice A0_11 l0_11.length c0_11]] (h := ?_); (with_reducible refine (op_Bytes.calls a0_0 a0_1 _ _ l0_2 a0_3 a0_4 a0_5 a0_6 a0_7 a0_8 a0_9 _ _ l0_10 _ _ l0_11 t543 t546 _ ?side1 ?side2 ?side3 ?side4 ?side5 ?side6 A14.out).mono ?_); (case side1 => exact cX_ (C_below HR0_2.out HB.out)); (case side2 => exact HC0_2.out); (case side3 => exact cX_ (C_below HR0_10.out HB.out)); (case side4 => exact HC0_10.out); (case side5 => exact cX_ (C_below HR0_11.out HB.out)); (case side6 => exact HC0_11.out); rintro e w23 ⟨v544, rfl, ho0, hb⟩; refine ⟨_, rfl, ?_⟩; have n0_ := mk_ (R_lower ho0 (below_size (Short.hB HB))); have n1_ := mk_ (bB_ BK540 hb); have n2_ := mk_ (below_step (Short.hB HB) hb); clear BK540 HB; revert n0_ n1_ n2_; intro HO545 BK540 HB; (try clear hb ho0); have hcz24_0 : w23.cell? ⟨gb540, 0, none⟩ = some (.int .i64 a0_0) := kc_ BK540 0; have hcz24_1 : w23.cell? ⟨gb540, 1, none⟩ = some (.int .i64 a0_1) := kc_ BK540 1; have hcz24_2 : w23.cell? ⟨gb540, 2, none⟩ = some (.slice A0_2 l0_2.length c0_2) := kc_ BK540 2; have hcz24_3 : w23.cell? ⟨gb540, 3, none⟩ = some (.int .i64 a0_3) := kc_ BK540 3; have hcz24_4 : w23.cell? ⟨gb540, 4, none⟩ = some (.int .i64 a0_4) := kc_ BK540 4; have hcz24_5 : w23.cell? ⟨gb540, 5, none⟩ = some (.int .i64 a0_5) := kc_ BK540 5; have hcz24_6 : w23.cell? ⟨gb540, 6, none⟩ = some (.int .i64 a0_6) := kc_ BK540 6; have hcz24_7 : w23.cell? ⟨gb540, 7, none⟩ = some (.int .i64 a0_7) := kc_ BK540 7; have hcz24_8 : w23.cell? ⟨gb540, 8, none⟩ = some (.string a0_8) := kc_ BK540 8; have hcz24_9 : w23.cell? ⟨gb540, 9, none⟩ = some (.int .i64 a0_9) := kc_ BK540 9; have hcz24_10 : w23.cell? ⟨gb540, 10, none⟩ = some (.slice A0_10 l0_10.length c0_10) := kc_ BK540 10; have hcz24_11 : w23.cell? ⟨gb540, 11, none⟩ = some (.slice A0_11 l0_11.length c0_11) := kc_ BK540 11; have hfz24_0 := blk_frozen BK540.out) | ((with_reducible refine gate_callee (f := 23) rfl ?_); refine Short.gL (some 24) Try.func23 #[.slice A0_10 l0_10.length c0_10] (h := ?_); (with_reducible refine (row_Bytes.calls kj1 _ _ l0_10 t547 t548 _ ?side1 ?side2 A15.out).mono ?_); (case side1 => exact cX_ (C_below HR0_10.out HB.out)); (case side2 => exact HC0_10.out); rintro e w25 ⟨v549, rfl, ho0, hb⟩; refine ⟨_, rfl, ?_⟩; have n0_ := mk_ (R_elder' (ZKR HO545) (R_base ho0) hb); have n1_ := mk_ (R_lower (R_new' ho0 (R_lt (ZKR HO545))) (below_size (Short.hB HB))); have n2_ := mk_ (bB_ BK540 hb); have n3_ := mk_ (below_step (Short.hB HB) hb); clear HO545 BK540 HB; revert n0_ n1_ n2_ n3_; intro HO545 HO550 BK540 HB; (try clear hb ho0); have hcz26_0 : w25.cell? ⟨gb540, 0, none⟩ = some (.int .i64 a0_0) := kc_ BK540 0; have hcz26_1 : w25.cell? ⟨gb540, 1, none⟩ = some (.int .i64 a0_1) := kc_ BK540 1; have hcz26_2 : w25.cell? ⟨gb540, 2, none⟩ = some (.slice A0_2 l0_2.length c0_2) := kc_ BK540 2; have hcz26_3 : w25.cell? ⟨gb540, 3, none⟩ = some (.int .i64 a0_3) := kc_ BK540 3; have hcz26_4 : w25.cell? ⟨gb540, 4, none⟩ = some (.int .i64 a0_4) := kc_ BK540 4; have hcz26_5 : w25.cell? ⟨gb540, 5, none⟩ = some (.int .i64 a0_5) := kc_ BK540 5; have hcz26_6 : w25.cell? ⟨gb540, 6, none⟩ = some (.int .i64 a0_6) := kc_ BK540 6; have hcz26_7 : w25.cell? ⟨gb540, 7, none⟩ = some (.int .i64 a0_7) := kc_ BK540 7; have hcz26_8 : w25.cell? ⟨gb540, 8, none⟩ = some (.string a0_8) := kc_ BK540 8; have hcz26_9 : w25.cell? ⟨gb540, 9, none⟩ = some (.int .i64 a0_9) := kc_ BK540 9; have hcz26_10 : w25.cell? ⟨gb540, 10, none⟩ = some (.slice A0_10 l0_10.length c0_10) := kc_ BK540 10; have hcz26_11 : w25.cell? ⟨gb540, 11, none⟩ = some (.slice A0_11 l0_11.length c0_11) := kc_ BK540 11; have hfz26_0 := blk_frozen BK540.out; obtain ⟨Ao27, co27, eo27⟩ := R_slice HO550.out; subst eo27))
   have n0_ := mk_ (R_drew HO545.out)
   have n1_ := mk_ (R_drew HO550.out)
   have n2_ := mk_ (blk_drew BK540.out)
   have n3_ := mk_ (below_drew1 HB.out)
   clear HO545 HO550 BK540 HB
   revert n0_ n1_ n2_ n3_
   intro HO545 HO550 BK540 HB
   obtain ⟨Ao29, co29, eo29⟩ := R_slice HO545.out
   (first | subst eo29 | (injection eo29 with f1_ f2_ f3_; have f4_ := f1_.symm; have f5_ := f3_.symm; clear f1_ f2_ f3_; subst f4_; subst f5_))
   have p551 : 0 ≤ (0 : Int) := z4
   have q551 : 0 < (t543.length : Int) := of_decide_eq_true z0
   obtain ⟨ad551, e551, hx551_0⟩ := Kd.at_int (R_reads' HO545.out).2.2 0 p551 q551
   cases e551
   have qi551 : (0 < t543.length) = True := eq_true z4
   (try rw [show ((0 : Int)).toNat = 0 from rfl] at hx551_0)
   (try rw [Addr.add_zero'] at hx551_0)
   replace p551 := eq_true p551
   replace q551 := eq_true q551
   refine start_ (n := 25) (S := fun w' => w'.cell? ⟨gb540, 0, none⟩ = some (.int .i64 a0_0) ∧ w'.cell? ⟨gb540, 1, none⟩ = some (.int .i64 a0_1) ∧ w'.cell? ⟨gb540, 2, none⟩ = some (.slice A0_2 l0_2.length c0_2) ∧ w'.cell? ⟨gb540, 3, none⟩ = some (.int .i64 a0_3) ∧ w'.cell? ⟨gb540, 4, none⟩ = some (.int .i64 a0_4) ∧ w'.cell? ⟨gb540, 5, none⟩ = some (.int .i64 a0_5) ∧ w'.cell? ⟨gb540, 6, none⟩ = some (.int .i64 a0_6) ∧ w'.cell? ⟨gb540, 7, none⟩ = some (.int .i64 a0_7) ∧ w'.cell? ⟨gb540, 8, none⟩ = some (.string a0_8) ∧ w'.cell? ⟨gb540, 9, none⟩ = some (.int .i64 a0_9) ∧ w'.cell? ⟨gb540, 10, none⟩ = some (.slice A0_10 l0_10.length c0_10) ∧ w'.cell? ⟨gb540, 11, none⟩ = some (.slice A0_11 l0_11.length c0_11) ∧ w'.cell? ad551 = some (.int .u8 (rd t543 0))) (ds := []) (Steps.Bs 25 0) z1 rfl rfl ⟨kc_ BK540 0, kc_ BK540 1, kc_ BK540 2, kc_ BK540 3, kc_ BK540 4, kc_ BK540 5, kc_ BK540 6, kc_ BK540 7, kc_ BK540 8, kc_ BK540 9, kc_ BK540 10, kc_ BK540 11, hx551_0⟩ (fun hHeld => ?_); refine with_tabW raddlelaw07_OpSizes.tab6 raddlelaw07_OpSizes.bits6 (fun HT_ HW_ => ?_)
   generalize w25.drew = w28 at HO545 HO550 BK540 HB hx551_0 hHeld ⊢
   refine tI HT_ 0 49 25 1 ?_
   refine tI HT_ 1 50 25 3 ?_
   refine tI HT_ 2 51 25 7 ?_
   refine tI HT_ 3 52 25 15 ?_
   refine tI HT_ 4 53 25 31 ?_
   refine tI HT_ 5 54 25 63 ?_
   refine tI HT_ 6 55 25 127 ?_
   refine tI HT_ 7 56 25 255 ?_
   refine tI HT_ 8 57 25 511 ?_
   refine tI HT_ 9 58 25 1023 ?_
   refine tI HT_ 10 59 25 2047 ?_
   refine tI HT_ 11 60 25 4095 ?_
   refine tI HT_ 12 61 25 8191 ?_
   refine tI HT_ 13 62 25 16383 ?_
   refine tI HT_ 14 63 25 32767 ?_
   refine tI HT_ 17 66 25 163839 ?_
   refine tT HT_ HW_ hHeld 15 64 25 196607 ?_
   refine tI HT_ 16 65 25 262143 ?_
   refine tT HT_ HW_ hHeld 18 67 25 524287 ?_
   refine tI HT_ 19 68 25 1048575 ?_
   refine tI HT_ 20 69 25 2097151 ?_
   refine tI HT_ 21 70 25 4194303 ?_
   refine one_ (i := 22) (N := some 71) (Steps.Bs 25 8388607) rfl rfl (one_of HT_.out z1) z5 (fun K hK => ?_)
   refine goes_ Try.func15 z1 rfl #[] (by rfl) rfl rfl z2 ?_
   with_reducible refine (raddlelaw07_wakes.calls  t552 _ A21.out).mono ?_
   rintro e w30 ⟨rfl, hb⟩
   have HS12_ := (hb.cell (World.block_lt_of_cell? _ _ (hHeld.2.2.2.2.2.2.2.2.2.2.2.2))).trans (hHeld.2.2.2.2.2.2.2.2.2.2.2.2)
   refine ⟨_, rfl, ?_⟩
   have n0_ := mk_ (R_below (ZKR HO545) hb)
   have n1_ := mk_ (R_below (ZKR HO550) hb)
   have n2_ := mk_ (bB_ BK540 hb)
   have n3_ := mk_ (below_step (Short.hB HB) hb)
   clear HO545 HO550 BK540 HB
   revert n0_ n1_ n2_ n3_
   intro HO545 HO550 BK540 HB
   (try clear hb)
   (try clear hb2)
   (try clear hk)
   (try clear hi)
   refine hK.out _ _ ⟨kc_ BK540 0, kc_ BK540 1, kc_ BK540 2, kc_ BK540 3, kc_ BK540 4, kc_ BK540 5, kc_ BK540 6, kc_ BK540 7, kc_ BK540 8, kc_ BK540 9, kc_ BK540 10, kc_ BK540 11, HS12_⟩ (fun hHeld => ?_)
   clear hK K
   refine nrm 71 ?_
   refine tI HT_ 23 72 25 16777215 ?_
   refine tI HT_ 24 2 25 33554431 ?_
   refine done_ (done_of HT_.out z1) ?_
   try go_wp2
   go_ret
   exact ⟨q0, Short.hB HB⟩
def raddlelaw07_OpSizes.WF25 (x : S25) : Prop := (Lit.int .i64 x.f0).wf = true ∧ (Lit.int .i64 x.f1).wf = true
def raddlelaw07_OpSizes.WF28 (x : S28) : Prop := (Lit.int .i64 x.f0).wf = true ∧ (Lit.int .i64 x.f1).wf = true ∧ (Lit.int .i64 x.f2).wf = true
def raddlelaw07_OpSizes.WF84 (x : S84) : Prop := (Lit.int .i64 x.f0).wf = true ∧ (Lit.int .i64 x.f1).wf = true ∧ x.f2.size ≤ maxLen
def raddlelaw07_OpSizes.WF32 (x : S32) : Prop := raddlelaw07_OpSizes.WF25 x.f0 ∧ (x.f1.length ≤ maxLen ∧ ∀ x0_ ∈ x.f1, (Lit.int .i64 x0_).wf = true) ∧ raddlelaw07_OpSizes.WF28 x.f2 ∧ (Lit.int .i64 x.f3).wf = true ∧ (Lit.int .i64 x.f4).wf = true ∧ x.f5.size ≤ maxLen ∧ (Lit.int .i64 x.f6).wf = true ∧ (x.f7.length ≤ maxLen ∧ ∀ x0_ ∈ x.f7, raddlelaw07_OpSizes.WF84 x0_) ∧ (x.f8.length ≤ maxLen ∧ ∀ x0_ ∈ x.f8, raddlelaw07_OpSizes.WF25 x0_)
def raddlelaw07_OpSizes.Pure : Prop := ∀ (x0 : S32), raddlelaw07_OpSizes.WF32 x0 → ∃ k, raddlelaw07_OpSizes.f k x0.f0.f0 x0.f0.f1 x0.f1 x0.f2.f0 x0.f2.f1 x0.f2.f2 x0.f3 x0.f4 x0.f5 x0.f6 x0.f7 x0.f8 = some true
end Go.Proofs.Ytjnjfogfpmeacaa.PAll
end
section
namespace Go.Proofs.Ytjnjfogfpmeacaa.Ops
open Go.RowKit PAll Plain PrintWords PrintMore ZipT PrintWords.Kd PrintMore.Kd
set_option linter.unusedVariables false
set_option linter.unusedSimpArgs false
def heavyOp (x : Ox) : Bool := decide ((x.f1.length : Int) > 30) || decide ((x.f5.size : Int) > 100) || heavy x.f7 || decide ((x.f8.length : Int) > 100)
theorem heavy_step (k : Nat) (l : List Ox) (i : Int) (x : Ox) (hi : 0 ≤ i) (hl : i < (l.length : Int)) (hx : rd_T32 l i = x) (hk : 60 ≤ k) :
  raddlelaw07_Heavy.l0 (k + 1) l i = if heavyOp x = true then some true else raddlelaw07_Heavy.l0 k l (wrap64 (i + 1)) := by
 rw [raddlelaw07_Heavy.l0]
 rw [if_pos hl, if_pos hi, hx]
 unfold heavyOp
 by_cases h1 : (x.f1.length : Int) > 30
 ·
  rw [if_pos h1, decide_eq_true h1]; simp
 rw [if_neg h1, decide_eq_false h1, Bool.false_or]
 by_cases h2 : (x.f5.size : Int) > 100
 ·
  rw [if_pos h2, decide_eq_true h2]; simp
 rw [if_neg h2, decide_eq_false h2, Bool.false_or, heavy_eq _ _ hk, Option.bind_some]
 cases heavy x.f7
 ·
  rw [if_neg z5, Bool.false_or]
  by_cases h3 : (x.f8.length : Int) > 100
  ·
   rw [if_pos h3, decide_eq_true h3, if_pos rfl]
  rw [if_neg h3, decide_eq_false h3, if_neg z5]
 ·
  rw [if_pos rfl]; simp
theorem heavy1_eq (x : Ox) : raddlelaw07_Heavy1.f x.f0.f0 x.f0.f1 x.f1 x.f2.f0 x.f2.f1 x.f2.f2 x.f3 x.f4 x.f5 x.f6 x.f7 x.f8 = some (heavyOp x) := by
 show raddlelaw07_Heavy.f 500 [x] = _
 unfold raddlelaw07_Heavy.f
 rw [if_neg (by simp), heavy_step 499 [x] 0 x z4 (by simp) rfl z4]
 cases h : heavyOp x
 ·
  rw [if_neg z5, w64 z4 z4, show (499 : Nat) = 498 + 1 from rfl, raddlelaw07_Heavy.l0, if_neg (by simp)]
 ·
  rw [if_pos rfl]
theorem light_small {x : Ox} (h : heavyOp x = false) : x.f1.length ≤ 30 ∧ x.f7.length ≤ 40 ∧ x.f8.length ≤ 100 ∧ x.f5.size ≤ 100 := by
 unfold heavyOp at h
 simp only [Bool.or_eq_false_iff, decide_eq_false_iff_not] at h
 have := heavy_len (show ¬ heavy x.f7 = true by rw [h.1.2]; decide)
 omega
theorem light_opSmall {x : Ox} (h : heavyOp x = false) : opSmall x := by
 have := light_small h
 exact ⟨by omega, by omega, by omega⟩
theorem flat_len {α : Type} {f : α → List Int} {n : Nat} (h : ∀ x, (f x).length = n) : ∀ l : List α, (l.flatMap f).length = n * l.length
 | [] => rfl
 | x :: l => by rw [List.flatMap_cons, List.length_append, h, flat_len h l, List.length_cons, Nat.mul_succ]; omega
theorem opB_length (x : Ox) : (opB x).length = 20 + 4 * x.f1.length + x.f5.size + (rowB x.f7).length + 1 + 5 * x.f8.length := by
 have h1 : (x.f1.flatMap fun n => big n 4).length = 4 * x.f1.length := flat_len (fun n => big_length _ _) _
 have h2 : (x.f8.flatMap dotB).length = 5 * x.f8.length := flat_len (fun d => by simp [dotB, big_length]) _
 simp only [opB, dotB, numsB, stampB, dotsB, encT, List.length_append, big_length, h1, h2, List.length_cons, bytesOf_length]
 omega
theorem opB_kind {x : Ox} (h : opFit x) : rd (opB x) 0 = x.f3 := by
 have hk := h.1.1.1.1.1.1.1.1
 have h0 : 0 ≤ x.f3 ∧ x.f3 < 256 := ⟨hk.1, by have := hk.2; simpa using this⟩
 have hb : big x.f3 1 = [x.f3] := by
  show [x.f3 / 256 ^ 0 % 256] = [x.f3]
  rw [Int.pow_zero, Int.ediv_one, Int.emod_eq_of_lt h0.1 h0.2]
 unfold opB
 rw [hb]; rfl
theorem fit_eq (n : Int) (s : Nat) (h1 : 1 ≤ s) (h7 : s ≤ 7) : raddleref01_fits.f n (s : Int) = some (decide (fitN s n)) := by
 unfold raddleref01_fits.f
 by_cases h : n ≥ 0
 rotate_left
 ·
  rw [if_neg h, decide_eq_false (fun e => h e.1)]
 rw [if_pos h, w64 z4 z4, wu64 z4 z4, if_pos z4, shr_bytes n s z4]
 congr 1
 have hp : (0 : Int) < 256 ^ s := Int.pow_pos z5
 by_cases hf : fitN s n
 ·
  rw [decide_eq_true hf, beq_iff_eq]; exact Int.ediv_eq_zero_of_lt hf.1 hf.2
 rw [decide_eq_false hf, beq_eq_false_iff_ne]
 intro e
 apply hf
 refine ⟨h, ?_⟩
 have h3 := Int.ediv_mul_le n (show (256 : Int) ^ s ≠ 0 by omega)
 have h4 := Int.emod_lt_of_pos n hp
 have h5 := Int.emod_add_mul_ediv n (256 ^ s)
 rw [e, Int.mul_zero, Int.add_zero] at h5
 omega
theorem dotFit_eq (d : Dt) : raddleref01_dotFits.f d.f0 d.f1 = some (decide (dotFit d)) := by
 have a1 := fit_eq d.f0 1 z5 z5
 have a4 := fit_eq d.f1 4 z5 z5
 unfold raddleref01_dotFits.f
 refine (congrArg (fun q => Option.bind q _) a1).trans ?_
 rw [Option.bind_some]
 by_cases h1 : fitN 1 d.f0
 rotate_left
 ·
  rw [decide_eq_false h1, if_neg z5, decide_eq_false (fun e => h1 e.1)]
 rw [decide_eq_true h1, if_pos rfl]
 refine (congrArg (fun q => Option.bind q _) a4).trans ?_
 rw [Option.bind_some]
 congr 1; rw [decide_eq_decide]; exact ⟨fun e => ⟨h1, e⟩, fun e => e.2⟩
theorem stampFit_eq (t : St) : raddleref01_stampFits.f t.f0 t.f1 t.f2 = some (decide (stampFit t)) := by
 have a1 := fit_eq t.f0 6 z5 z5
 have a2 := fit_eq t.f1 3 z5 z5
 have a3 := fit_eq t.f2 1 z5 z5
 unfold raddleref01_stampFits.f
 refine (congrArg (fun q => Option.bind q _) a1).trans ?_
 rw [Option.bind_some]
 by_cases h1 : fitN 6 t.f0
 rotate_left
 ·
  rw [decide_eq_false h1, if_neg z5, decide_eq_false (fun e => h1 e.1.1)]
 rw [decide_eq_true h1, if_pos rfl]
 refine (congrArg (fun q => Option.bind q _) a2).trans ?_
 rw [Option.bind_some]
 by_cases h2 : fitN 3 t.f1
 rotate_left
 ·
  rw [decide_eq_false h2, if_neg z5, decide_eq_false (fun e => h2 e.1.2)]
 rw [decide_eq_true h2, if_pos rfl]
 refine (congrArg (fun q => Option.bind q _) a3).trans ?_
 rw [Option.bind_some]
 congr 1; rw [decide_eq_decide]; exact ⟨fun e => ⟨⟨h1, h2⟩, e⟩, fun e => e.2⟩
theorem vecFit_l0 (l : List Int) (hl : l.length ≤ 1000000) (m : List Int) : ∀ (k i : Nat), l.drop i = m → m.length < k →
  raddleref01_vectorFits.l0 k l (i : Int) = some (decide ((∀ n ∈ m, fitN 4 n) ∧ l.length ≤ 5)) := by
 induction m with
 | nil =>
  intro k i h hk
  obtain ⟨k, rfl⟩ : ∃ j, k = j + 1 := ⟨k - 1, by omega⟩
  have := dropL_end h
  simp only [raddleref01_vectorFits.l0]
  rw [if_neg z4]
  congr 1; rw [decide_eq_decide]; constructor
  ·
   intro e; exact ⟨fun n hn => (by cases hn), by omega⟩
  ·
   intro e; have := e.2; omega
 | cons v m ih =>
  intro k i h hk
  obtain ⟨k, rfl⟩ : ∃ j, k = j + 1 := ⟨k - 1, by omega⟩
  have hi := dropL_lt h
  simp only [List.length_cons] at hk
  have a4 := fit_eq v 4 z5 z5
  simp only [raddleref01_vectorFits.l0]
  rw [if_pos z4, if_pos z4, rd_drop h]
  refine (congrArg (fun q => Option.bind q _) a4).trans ?_
  rw [Option.bind_some]
  by_cases ho : fitN 4 v
  rotate_left
  ·
   rw [decide_eq_false ho, if_neg z5, decide_eq_false (fun e => ho (e.1 v List.mem_cons_self))]
  rw [decide_eq_true ho, if_pos rfl, w64 z4 z4]
  refine (ih k (i + 1) (dropL_tail h) z4).trans ?_
  congr 1; rw [decide_eq_decide]
  exact ⟨fun e => ⟨fun n hn => by rcases List.mem_cons.1 hn with rfl | hn; exact ho; exact e.1 n hn, e.2⟩, fun e => ⟨fun n hn => e.1 n (List.mem_cons_of_mem _ hn), e.2⟩⟩
theorem vecFit_eq (k : Nat) (l : List Int) (hl : l.length ≤ 1000000) (hk : l.length < k) : raddleref01_vectorFits.f k l = some (decide (numsFit l)) := by
 have := vecFit_l0 l hl l k 0 rfl hk
 unfold raddleref01_vectorFits.f
 refine this.trans ?_
 congr 1; rw [decide_eq_decide]; exact ⟨fun e => ⟨e.2, e.1⟩, fun e => ⟨e.2, e.1⟩⟩
theorem dotsFit_l0 (x : Ox) (hl : x.f8.length ≤ 1000000) (m : List Dt) : ∀ (k i : Nat), x.f8.drop i = m → m.length < k →
  raddleref01_OpFits.l0 k (i : Int) x.f0.f0 x.f0.f1 x.f1 x.f2.f0 x.f2.f1 x.f2.f2 x.f3 x.f4 x.f5 x.f6 x.f7 x.f8 = some (decide (∀ d ∈ m, dotFit d)) := by
 induction m with
 | nil =>
  intro k i h hk
  obtain ⟨k, rfl⟩ : ∃ j, k = j + 1 := ⟨k - 1, by omega⟩
  have := dropL_end h
  simp only [raddleref01_OpFits.l0]
  rw [if_neg z4, decide_eq_true (fun d hd => by cases hd)]
 | cons v m ih =>
  intro k i h hk
  obtain ⟨k, rfl⟩ : ∃ j, k = j + 1 := ⟨k - 1, by omega⟩
  have hi := dropL_lt h
  simp only [List.length_cons] at hk
  simp only [raddleref01_OpFits.l0]
  rw [if_pos z4, if_pos z4, rdD_drop h, dotFit_eq, Option.bind_some]
  by_cases ho : dotFit v
  rotate_left
  ·
   rw [decide_eq_false ho, if_neg z5, decide_eq_false (fun e => ho (e v List.mem_cons_self))]
  rw [decide_eq_true ho, if_pos rfl, w64 z4 z4]
  refine (ih k (i + 1) (dropL_tail h) z4).trans ?_
  congr 1; rw [decide_eq_decide]
  exact ⟨fun e d hd => by rcases List.mem_cons.1 hd with rfl | hd; exact ho; exact e d hd, fun e d hd => e d (List.mem_cons_of_mem _ hd)⟩
theorem opFits_eq (k : Nat) (x : Ox) (hx : opSmall x) (hk : 1100 ≤ k) : raddleref01_OpFits.f k x.f0.f0 x.f0.f1 x.f1 x.f2.f0 x.f2.f1 x.f2.f2 x.f3 x.f4 x.f5 x.f6 x.f7 x.f8 = some (decide (opFit x)) := by
 obtain ⟨h1s, h7s, h8s⟩ := hx
 obtain ⟨k, rfl⟩ : ∃ j, k = j + 1 := ⟨k - 1, by omega⟩
 have hT : raddleref01_OpFits.j0 (k + 1) true x.f0.f0 x.f0.f1 x.f1 x.f2.f0 x.f2.f1 x.f2.f2 x.f3 x.f4 x.f5 x.f6 x.f7 x.f8 = some false := by simp only [raddleref01_OpFits.j0, if_true]
 unfold raddleref01_OpFits.f
 refine (congrArg (fun q => Option.bind q _) (fit_eq x.f3 1 z5 z5)).trans ?_
 rw [Option.bind_some]
 by_cases e3 : fitN 1 x.f3
 rotate_left
 ·
  rw [decide_eq_false e3, if_neg z5, hT, decide_eq_false (fun h => e3 h.1.1.1.1.1.1.1.1)]
 rw [decide_eq_true e3, if_pos rfl, dotFit_eq, Option.bind_some]
 by_cases e0 : dotFit x.f0
 rotate_left
 ·
  rw [decide_eq_false e0, if_neg z5, hT, decide_eq_false (fun h => e0 h.1.1.1.1.1.1.1.2)]
 rw [decide_eq_true e0, if_pos rfl, vecFit_eq _ _ z4 z4, Option.bind_some]
 by_cases e1 : numsFit x.f1
 rotate_left
 ·
  rw [decide_eq_false e1, if_neg z5, hT, decide_eq_false (fun h => e1 h.1.1.1.1.1.1.2)]
 rw [decide_eq_true e1, if_pos rfl, stampFit_eq, Option.bind_some]
 by_cases e2 : stampFit x.f2
 rotate_left
 ·
  rw [decide_eq_false e2, if_neg z5, hT, decide_eq_false (fun h => e2 h.1.1.1.1.1.2)]
 rw [decide_eq_true e2, if_pos rfl]
 refine (congrArg (fun q => Option.bind q _) (fit_eq x.f4 1 z5 z5)).trans ?_
 rw [Option.bind_some]
 by_cases e4 : fitN 1 x.f4
 rotate_left
 ·
  rw [decide_eq_false e4, if_neg z5, hT, decide_eq_false (fun h => e4 h.1.1.1.1.2)]
 rw [decide_eq_true e4, if_pos rfl]
 by_cases e5 : (x.f5.size : Int) > 24
 ·
  rw [if_pos e5, hT, decide_eq_false (fun h => by have := h.1.1.1.2; omega)]
 rw [if_neg e5]
 refine (congrArg (fun q => Option.bind q _) (fit_eq x.f6 1 z5 z5)).trans ?_
 rw [Option.bind_some]
 by_cases e6 : fitN 1 x.f6
 rotate_left
 ·
  rw [decide_eq_false e6, if_neg z5, hT, decide_eq_false (fun h => e6 h.1.1.2)]
 rw [decide_eq_true e6, if_pos rfl, refRow_eq _ _ z4 z4, Option.bind_some]
 by_cases e7 : rowE x.f7 = 0
 rotate_left
 ·
  rw [if_neg e7, hT, decide_eq_false (fun h => e7 h.1.2)]
 rw [if_pos e7]
 by_cases e8 : (x.f8.length : Int) > 64
 ·
  rw [decide_eq_true e8, hT, decide_eq_false (fun h => by have := h.2.1; omega)]
 rw [decide_eq_false e8]
 simp only [raddleref01_OpFits.j0]
 rw [if_neg z5]
 refine (dotsFit_l0 x z4 x.f8 k 0 rfl z4).trans ?_
 congr 1; rw [decide_eq_decide]
 exact ⟨fun e => ⟨⟨⟨⟨⟨⟨⟨⟨e3, e0⟩, e1⟩, e2⟩, e4⟩, by omega⟩, e6⟩, e7⟩, by omega, e⟩, fun e => e.2.2⟩
end Go.Proofs.Ytjnjfogfpmeacaa.Ops
end
section
namespace Go.Proofs.Ytjnjfogfpmeacaa.Pure
open Go.RowKit PAll PrintWords PrintLast Plain Ops ZipT PrintWords.Kd PrintMore.Kd
set_option linter.unusedVariables false
set_option linter.unusedSimpArgs false
theorem OpSizes : raddlelaw07_OpSizes.Pure := by
 intro x hw
 refine ⟨1201, ?_⟩
 have hT : raddlelaw07_OpSizes.j0 (1200 + 1) true x.f0.f0 x.f0.f1 x.f1 x.f2.f0 x.f2.f1 x.f2.f2 x.f3 x.f4 x.f5 x.f6 x.f7 x.f8 = some true := by simp only [raddlelaw07_OpSizes.j0, if_true]
 unfold raddlelaw07_OpSizes.f
 rw [heavy1_eq, Option.bind_some]
 cases hh : heavyOp x
 rotate_left
 ·
  rw [if_pos rfl]; exact hT
 rw [if_neg z5, opFits_eq _ _ (light_opSmall hh) z4, Option.bind_some]
 by_cases hf : opFit x
 rotate_left
 ·
  rw [decide_eq_false hf]; exact hT
 rw [decide_eq_true hf]
 show raddlelaw07_OpSizes.j0 (1200 + 1) false _ _ _ _ _ _ _ _ _ _ _ _ = _
 simp only [raddlelaw07_OpSizes.j0]
 have hs := light_small hh
 have hb := bytes_f x (light_opSmall hh)
 rw [opBytes_eq, if_pos hf] at hb
 have hr := rowB_len hf.1.2
 have hl := opB_length x
 rw [if_neg z5, hb, Option.bind_some, rowBytes_eq _ _ z4 z4, Option.bind_some, if_pos hf.1.2]
 simp only
 rw [if_pos trivial, if_pos trivial, w64 (x := 4 * (x.f1.length : Int)) z4 z4, w64 (x := 7 + 4 * (x.f1.length : Int)) z4 z4, w64 (x := 7 + 4 * (x.f1.length : Int) + 10) z4 z4,
  w64 (x := 7 + 4 * (x.f1.length : Int) + 10 + 1) z4 z4, w64 (x := 7 + 4 * (x.f1.length : Int) + 10 + 1 + 1) z4 z4, w64 (x := 7 + 4 * (x.f1.length : Int) + 10 + 1 + 1 + (x.f5.size : Int)) z4 z4,
  w64 (x := 7 + 4 * (x.f1.length : Int) + 10 + 1 + 1 + (x.f5.size : Int) + 1) z4 z4, w64 (x := 7 + 4 * (x.f1.length : Int) + 10 + 1 + 1 + (x.f5.size : Int) + 1 + ((rowB x.f7).length : Int)) z4 z4,
  w64 (x := 7 + 4 * (x.f1.length : Int) + 10 + 1 + 1 + (x.f5.size : Int) + 1 + ((rowB x.f7).length : Int) + 1) z4 z4, w64 (x := 5 * (x.f8.length : Int)) z4 z4, w64 z4 z4,
  if_pos z4, if_pos z4, opB_kind hf]
 have hk := hf.1.1.1.1.1.1.1.1
 have h0 : 0 ≤ x.f3 ∧ x.f3 < 256 := ⟨hk.1, by have := hk.2; simpa using this⟩
 rw [w64 z4 z4, if_pos rfl, wakes7_eq]
 rfl
end Go.Proofs.Ytjnjfogfpmeacaa.Pure
end
