/-
  What is played on a pad: the plain part.
  Conditions: none.
-/
import Derived.Test.YtjpaaicgkdnalaaPadPlain
import Derived.Test.YtjpaaicgkdnalaaPAllx1
namespace Go.Proofs.Ytjpaaicgkdnalaa.Pads
open Go.RowKit Go.Proofs.YtjpaaicgkdnalaaW.PrintWords Go.Proofs.YtjpaaicgkdnalaaW.PrintLast Go.Proofs.YtjpaaicgkdnalaaW.PrintMore Go.Proofs.Ytjpaaicgkdnalaa.Sep PAll
set_option linter.unusedVariables false
set_option linter.unusedSimpArgs false
/-- As long as it may be, ahead of place i. -/
def Light (l : List S41) (i : Nat) : Prop := ∀ j : Nat, i ≤ j → j < l.length → j < 60 → (rd_T41 l (j : Int)).f2.length ≤ 300 ∧ (rd_T41 l (j : Int)).f3.length ≤ 300
theorem heavy_l (l : List S41) (hl : l.length ≤ 240) : ∀ (d i : Nat), i + d = 60 → ∃ r, raddlelaw09_Heavy.l0 (2 * d + 2) l (i : Int) = some r ∧ (r = false → Light l i)
  | 0, i, h => by
    refine ⟨false, ?_, fun _ j hj _ h2 => by omega⟩
    show raddlelaw09_Heavy.l0 (1 + 1) l (i : Int) = _
    unfold raddlelaw09_Heavy.l0
    have hd : decide ((i : Int) < 60) = false := decide_eq_false (by omega)
    split
    · rw [hd]; unfold raddlelaw09_Heavy.j1; rfl
    · unfold raddlelaw09_Heavy.j1; rfl
  | d + 1, i, h => by
    obtain ⟨r, hr, hr2⟩ := heavy_l l hl d (i + 1) (by omega)
    rw [show 2 * (d + 1) + 2 = (2 * d + 2) + 1 + 1 from by omega]
    unfold raddlelaw09_Heavy.l0
    have hd : decide ((i : Int) < 60) = true := decide_eq_true (by omega)
    by_cases hlt : (i : Int) < (l.length : Int)
    · rw [if_pos hlt, hd]
      unfold raddlelaw09_Heavy.j1
      rw [if_pos rfl, if_pos (by omega), if_pos hlt]
      by_cases h2 : (((rd_T41 l (i : Int)).f2).length : Int) > 300
      · rw [if_pos h2]; exact ⟨true, rfl, fun e => by cases e⟩
      · rw [if_neg h2]
        by_cases h3 : (((rd_T41 l (i : Int)).f3).length : Int) > 300
        · rw [if_pos h3]; exact ⟨true, rfl, fun e => by cases e⟩
        · rw [if_neg h3, show wrap64 ((i : Int) + 1) = ((i + 1 : Nat) : Int) from by unfold wrap64; omega]
          refine ⟨r, hr, fun e j hj h4 h5 => ?_⟩
          by_cases hij : j = i
          · subst hij; omega
          · exact hr2 e j (by omega) h4 h5
    · rw [if_neg hlt]
      refine ⟨false, ?_, fun _ j hj h4 _ => by omega⟩
      unfold raddlelaw09_Heavy.j1; rfl
theorem heavy_ok (l : List S41) : ∃ r, raddlelaw09_Heavy.f 122 l = some r ∧ (r = false → l.length ≤ 240 ∧ Light l 0) := by
  unfold raddlelaw09_Heavy.f
  by_cases h : (l.length : Int) > 240
  · rw [if_pos h]; exact ⟨true, rfl, fun e => by cases e⟩
  · rw [if_neg h]
    obtain ⟨r, h1, h2⟩ := heavy_l l (by omega) 60 0 (by omega)
    exact ⟨r, h1, fun e => ⟨by omega, h2 e⟩⟩
theorem mod9 (x : Int) : ∃ s : Nat, s < 9 ∧ (IntKind.u64.wrap x).tmod 9 = (s : Int) := by
  obtain ⟨s, hs, es, _⟩ := Keep.umod x 9 (by decide) (by decide)
  have h0 : 0 ≤ IntKind.u64.wrap x := by rw [Plain.u64_mod]; exact Int.emod_nonneg _ (by decide)
  have h1 : 0 ≤ (IntKind.u64.wrap x).tmod 9 := Int.tmod_nonneg _ h0
  have h2 : (IntKind.u64.wrap x).tmod 9 < 9 := Int.tmod_lt_of_pos _ (by decide)
  exact ⟨((IntKind.u64.wrap x).tmod 9).toNat, by omega, by omega⟩
theorem lit_le {x : Int} (h : (Lit.int .i64 x).wf = true) : x ≤ 9223372036854775807 := (Go.Proofs.Ytjpaaicgkdnalaa.Plain.wf_i64 h).2
/-- The first i of rows, all appended. -/
def rws (rows : List (List Int)) (i : Nat) : List Sl := (rows.take i).map (fun b => (b, false))
theorem rws_length (rows : List (List Int)) (i : Nat) (hi : i ≤ rows.length) : (rws rows i).length = i := by
  unfold rws; rw [List.length_map, List.length_take]; omega
theorem rws_succ (rows : List (List Int)) (i : Nat) (hi : i < rows.length) : rws rows (i + 1) = rws rows i ++ [(rd_L2 rows (i : Int), false)] := by
  unfold rws rd_L2
  rw [List.take_succ_eq_append_getElem hi, List.map_append]
  simp [hi]
theorem rws_get (rows : List (List Int)) (n i : Nat) (hi : i < n) (hn : n ≤ rows.length) : (rws rows n)[i]? = some (rd_L2 rows (i : Int), false) := by
  unfold rws rd_L2
  rw [List.getElem?_map, List.getElem?_take_of_lt hi, List.getElem?_eq_getElem (by omega)]
  simp [show i < rows.length by omega]
theorem rws_ok (rows : List (List Int)) (i sf : Nat) (hs : sf ≤ i) (hi : i ≤ rows.length) (hr : rows.length ≤ 20) (hb : ∀ j : Nat, j < i → (rd_L2 rows (j : Int)).length ≤ 300) : (⟨rws rows i, sf, false, 0, none⟩ : Pd).Ok := by
  refine ⟨by show sf ≤ (rws rows i).length; rw [rws_length rows i hi]; exact hs, by show (rws rows i).length ≤ 4000; rw [rws_length rows i hi]; omega, (fun _ _ _ h => by cases h), fun s hs => ?_⟩
  obtain ⟨j, hj⟩ := List.mem_iff_getElem?.1 (show s ∈ rws rows i from hs)
  have hl := (List.getElem?_eq_some_iff.1 hj).1
  rw [rws_length rows i hi] at hl
  rw [rws_get rows i j hl hi] at hj
  obtain rfl := Option.some.inj hj
  have := hb j hl
  show (rd_L2 rows (j : Int)).length ≤ 65536
  omega
theorem rws_append (rows : List (List Int)) (i : Nat) (hi : i < rows.length) (hr : rows.length ≤ 20) (hb : (rd_L2 rows (i : Int)).length ≤ 300) : (⟨rws rows i, 0, false, 0, none⟩ : Pd).append (rd_L2 rows (i : Int)) = (⟨rws rows (i + 1), 0, false, 0, none⟩, 0) := by
  unfold Pd.append
  dsimp only
  rw [if_neg (by simp), if_neg (by omega), if_neg (by rw [rws_length rows i (by omega)]; omega), Pd.spend_none rfl, rws_succ rows i hi]
  rfl
theorem rws_read (rows : List (List Int)) (n i sf : Nat) (hi : i < n) (hn : n ≤ rows.length) : (⟨rws rows n, sf, false, 0, none⟩ : Pd).read (i : Int) = (rd_L2 rows (i : Int), 0) := by
  unfold Pd.read
  dsimp only
  rw [if_neg (by simp), if_neg (by rw [rws_length rows n hn]; omega)]
  have h := rws_get rows n i hi hn
  rw [Int.toNat_natCast, List.getD_eq_getElem?_getD, h]
  rfl
/-- A row of which the first k are turned. -/
def flips (l : List Bool) (k : Nat) : List Bool := (l.take k).map (!·) ++ l.drop k
theorem flips_zero (l : List Bool) : flips l 0 = l := rfl
theorem flips_length (l : List Bool) (k : Nat) (hk : k ≤ l.length) : (flips l k).length = l.length := by
  unfold flips; simp; omega
theorem flips_get (l : List Bool) (k : Nat) (hk : k < l.length) : (flips l k).getD k false = l.getD k false := by
  unfold flips
  rw [List.getD_eq_getElem?_getD, List.getElem?_append_right (by rw [List.length_map, List.length_take]; omega), List.getD_eq_getElem?_getD]
  simp [Nat.min_eq_left (Nat.le_of_lt hk)]
theorem flips_succ (l : List Bool) (k : Nat) (hk : k < l.length) : (flips l k).set k (!(l.getD k false)) = flips l (k + 1) := by
  have h1 : ((l.take k).map (!·)).length = k := by simp; omega
  unfold flips
  rw [List.set_append_right _ _ (by omega), h1, Nat.sub_self, List.drop_eq_getElem_cons hk, List.set_cons_zero, List.take_succ_eq_append_getElem hk, List.map_append, List.append_assoc]
  simp [List.getD_eq_getElem?_getD, hk]
end Go.Proofs.Ytjpaaicgkdnalaa.Pads
