/-
  The plain law behind WireBack: numbers and texts, put one behind the other, are got so, each in its bytes.
  Conditions: none but those of the given statement.
-/
import Derived.Test.YtomahagonogapaaWireLaws
import Derived.Test.YtomahagonogapaaPAllx9
namespace Go.Proofs.Ytomahagonogapaa.Pure
open Go.RowKit Go.Proofs.Ytomahagonogapaa.PAll Go.Proofs.YtomahagonogapaaW.PrintWords Go.Proofs.YtomahagonogapaaW.PrintLast Go.Proofs.YtomahagonogapaaW.PrintMore Go.Proofs.Ytomahagonogapaa.Plain
set_option linter.unusedVariables false
set_option linter.unusedSimpArgs false

theorem rd_here (a : List Int) (x : Int) (c : List Int) : rd (a ++ x :: c) (a.length : Int) = x := rd_mid a x c rfl
theorem rdOf_here {α : Type} (d : α) (a : List α) (x : α) (c : List α) : rdOf d (a ++ x :: c) (a.length : Int) = x := by
  show (a ++ x :: c).getD ((a.length : Int).toNat) d = x
  rw [Int.toNat_natCast, List.getD_eq_getElem?_getD, List.getElem?_append_right (by omega)]
  simp
def encN (s : Nat) (n : Int) : List Int := big (n % 256 ^ s) s ++ intB (Int.tmod n 1152921504606846977)
def encNs (s : Nat) : List Int → List Int
  | [] => []
  | n :: l => encN s n ++ encNs s l
def encT (t : ByteArray) : List Int := (t.size : Int) :: bytesOf t
def encTs : List ByteArray → List Int
  | [] => []
  | t :: l => encT t ++ encTs l
theorem encN_length (s : Nat) (n : Int) : (encN s n).length = s + 9 := by simp [encN, big_length, intB_length]
theorem encNs_append (s : Nat) (a b : List Int) : encNs s (a ++ b) = encNs s a ++ encNs s b := by
  induction a with
  | nil => rfl
  | cons n a ih => simp [encNs, ih]
theorem encTs_append (a b : List ByteArray) : encTs (a ++ b) = encTs a ++ encTs b := by
  induction a with
  | nil => rfl
  | cons n a ih => simp [encTs, ih]
theorem encNs_length (s : Nat) (a : List Int) : (encNs s a).length = a.length * (s + 9) := by
  induction a with
  | nil => simp [encNs]
  | cons n a ih => simp [encNs, ih, encN_length, Nat.add_mul]; omega
theorem encTs_length (a : List ByteArray) (h : ∀ t ∈ a, t.size ≤ 24) : (encTs a).length ≤ a.length * 25 := by
  induction a with
  | nil => simp [encTs]
  | cons n a ih =>
    have h1 := ih (fun t ht => h t (List.mem_cons_of_mem _ ht))
    have h2 := h n List.mem_cons_self
    simp [encTs, encT, bytesOf_length, Nat.add_mul]; omega
theorem encN_bytes (s : Nat) (n : Int) : Bytes (encN s n) := (big_bytes _ _).append (intB_bytes _)
theorem encNs_bytes (s : Nat) (a : List Int) : Bytes (encNs s a) := by
  induction a with
  | nil => exact Bytes.nil
  | cons n a ih => exact (encN_bytes s n).append ih
theorem encTs_bytes (a : List ByteArray) (h : ∀ t ∈ a, t.size ≤ 24) : Bytes (encTs a) := by
  induction a with
  | nil => exact Bytes.nil
  | cons n a ih =>
    have h2 := h n List.mem_cons_self
    exact (Bytes.cons ⟨by omega, by omega⟩ (bytesOf_bytes n)).append (ih (fun t ht => h t (List.mem_cons_of_mem _ ht)))

section
variable (s : Nat) (hs1 : 1 ≤ s) (hs7 : s ≤ 7) (nums : List Int) (texts : List ByteArray)
theorem mask_eq (hs1 : 1 ≤ s) (hs7 : s ≤ 7) (n : Int) : Go.bits .and .i64 n (wrap64 ((shl .i64 1 (IntKind.u64.wrap (wrap64 (8 * (s : Int))))) - 1)) = n % 256 ^ s := by
  have hp := pow_pos s
  have hl := pow256_le hs7
  rw [w64 (x := 8 * (s : Int)) (by omega) (by omega), wu64 (x := 8 * (s : Int)) (by omega) (by omega), shl_bytes s hs7, w64 (x := (256 : Int) ^ s - 1) (by omega) (by omega), mask_and n s hs1 hs7]
theorem l0_eq (hs1 : 1 ≤ s) (hs7 : s ≤ 7) (suf : List Int) : ∀ (pre : List Int) (k : Nat), nums = pre ++ suf → nums.length ≤ 30 → 100 ≤ k →
    raddlelaw01_WireBack.l0 (k + suf.length + 1) nums texts s (encNs s pre) pre.length = raddlelaw01_WireBack.l1 k nums texts s (encNs s nums) 0 := by
  induction suf with
  | nil =>
    intro pre k h hn hk
    simp only [List.length_nil, Nat.add_zero, raddlelaw01_WireBack.l0]
    have hlen : nums.length = pre.length := by rw [h]; simp
    rw [if_neg (by omega), h]
    simp
  | cons n suf ih =>
    intro pre k h hn hk
    have hp := pow_pos s
    have hl := pow256_le hs7
    have a0 := Int.emod_nonneg n (show (256 : Int) ^ s ≠ 0 by omega)
    have a1 := Int.emod_lt_of_pos n hp
    obtain ⟨p0, p1⟩ := within_bd n
    have hlen : nums.length = pre.length + (suf.length + 1) := by rw [h]; simp
    have hr : rd nums (pre.length : Int) = n := by rw [h]; exact rd_here _ _ _
    have hel := encNs_length s pre
    have hmul : pre.length * (s + 9) ≤ 30 * 16 := Nat.mul_le_mul (by omega) (by omega)
    have e1 : sPut (encNs s pre) (n % 256 ^ s) s = (encNs s pre ++ big (n % 256 ^ s) s, 0) := by unfold sPut; rw [if_pos ⟨by omega, by omega, a0, by simpa using a1⟩]; simp
    have e2 : ∀ l, sPutInt l (Int.tmod n 1152921504606846977) = (l ++ intB (Int.tmod n 1152921504606846977), 0) := fun l => by unfold sPutInt; rw [if_pos ⟨p0, p1⟩]
    have hb := big_length (n % 256 ^ s) s
    have hi := intB_length (Int.tmod n 1152921504606846977)
    rw [List.length_cons, show k + (suf.length + 1) + 1 = (k + suf.length + 1) + 1 from by omega]
    obtain ⟨K, hK⟩ : ∃ K, K = k + suf.length + 1 := ⟨_, rfl⟩
    rw [← hK]
    simp only [raddlelaw01_WireBack.l0]
    rw [if_pos (by omega), if_pos (by omega), mask_eq s hs1 hs7, hr, w64 (x := 8 * (s : Int)) (by omega) (by omega), wu64 (x := 8 * (s : Int)) (by omega) (by omega), if_pos (by omega)]
    rw [put_eq _ _ _ _ (by omega) (by omega), Option.bind_some, e1, within_eq, Option.bind_some]
    simp only
    rw [putInt_eq _ _ _ (by rw [List.length_append]; omega) (by omega), Option.bind_some, e2]
    simp only
    rw [if_pos trivial, if_pos trivial, if_pos (by rw [List.length_append, w64 (by omega) (by omega)]; omega), if_pos (by simp only [List.length_append]; rw [w64 (by omega) (by omega)]; omega), w64 (by omega) (by omega)]
    have := ih (pre ++ [n]) k (by rw [h]; simp) hn hk
    rw [encNs_append] at this
    simp only [encNs, encN, List.append_nil, List.length_append, List.length_singleton] at this
    rw [List.append_assoc, hK]
    exact this
theorem l1_eq (hs1 : 1 ≤ s) (hs7 : s ≤ 7) (hn : nums.length ≤ 30) (suf : List ByteArray) : ∀ (pre : List ByteArray) (k : Nat), texts = pre ++ suf → texts.length ≤ 30 → (∀ t ∈ pre, t.size ≤ 24) → (∀ t ∈ texts, t.size ≤ maxLen) → 100 ≤ k →
    raddlelaw01_WireBack.l1 (k + suf.length + 1) nums texts s (encNs s nums ++ encTs pre) pre.length = some true ∨
    ((∀ t ∈ texts, t.size ≤ 24) ∧ raddlelaw01_WireBack.l1 (k + suf.length + 1) nums texts s (encNs s nums ++ encTs pre) pre.length = raddlelaw01_WireBack.l2 k nums texts s (encNs s nums ++ encTs texts) 0 0) := by
  induction suf with
  | nil =>
    intro pre k h ht hpre hm hk
    simp only [List.append_nil] at h
    subst h
    refine .inr ⟨hpre, ?_⟩
    simp only [List.length_nil, Nat.add_zero, raddlelaw01_WireBack.l1]
    rw [if_neg (by omega)]
  | cons t suf ih =>
    intro pre k h ht hpre hm hk
    have hlen : texts.length = pre.length + (suf.length + 1) := by rw [h]; simp
    have hr : rdOf ByteArray.empty texts (pre.length : Int) = t := by rw [h]; exact rdOf_here _ _ _ _
    have hel := encNs_length s nums
    have hmul : nums.length * (s + 9) ≤ 30 * 16 := Nat.mul_le_mul (by omega) (by omega)
    have htl := encTs_length pre hpre
    rw [List.length_cons, show k + (suf.length + 1) + 1 = (k + suf.length + 1) + 1 from by omega]
    obtain ⟨K, hK⟩ : ∃ K, K = k + suf.length + 1 := ⟨_, rfl⟩
    rw [← hK]
    simp only [raddlelaw01_WireBack.l1]
    rw [if_pos (by omega), if_pos (by omega), hr]
    by_cases hbig : (t.size : Int) > 24
    · rw [if_pos hbig]; exact .inl rfl
    · have e1 : sPutText (encNs s nums ++ encTs pre) t = (encNs s nums ++ encTs pre ++ encT t, 0) := by unfold sPutText; rw [if_pos (by omega)]; rfl
      have etl : (encT t).length = 1 + t.size := by simp [encT, bytesOf_length]; omega
      rw [if_neg hbig, putText_eq _ _ (by rw [List.length_append]; omega), Option.bind_some, e1]
      simp only
      rw [if_pos trivial, if_pos (by simp only [List.length_append]; rw [w64 (x := _ + 1) (by omega) (by omega), w64 (by omega) (by omega)]; omega), w64 (by omega) (by omega)]
      have := ih (pre ++ [t]) k (by rw [h]; simp) ht (fun x hx => by
        rcases List.mem_append.1 hx with hx | hx
        · exact hpre x hx
        · rw [List.mem_singleton.1 hx]; omega) hm hk
      rw [encTs_append] at this
      simp only [encTs, List.append_nil, List.length_append, List.length_singleton] at this
      rw [List.append_assoc, hK]
      exact this
theorem l3_eq (b0 : List Int) (hb0 : Bytes b0) (hb0l : b0.length ≤ 500) (ht24 : ∀ t ∈ texts, t.size ≤ 24) (htl : texts.length ≤ 30) (suf : List ByteArray) : ∀ (pre : List ByteArray) (k : Nat), texts = pre ++ suf → 100 ≤ k →
    raddlelaw01_WireBack.l3 (k + suf.length + 1) texts (b0 ++ encTs texts) ((b0 ++ encTs pre).length : Nat) pre.length = some true := by
  have hall : Bytes (b0 ++ encTs texts) := hb0.append (encTs_bytes texts ht24)
  have hal := encTs_length texts ht24
  induction suf with
  | nil =>
    intro pre k h hk
    simp only [List.append_nil] at h
    subst h
    simp only [List.length_nil, Nat.add_zero, raddlelaw01_WireBack.l3]
    rw [if_neg (by omega), if_pos trivial, wakes_eq k (by omega), Option.bind_some]
  | cons t suf ih =>
    intro pre k h hk
    have hlen : texts.length = pre.length + (suf.length + 1) := by rw [h]; simp
    have hr : rdOf ByteArray.empty texts (pre.length : Int) = t := by rw [h]; exact rdOf_here _ _ _ _
    have htt : t.size ≤ 24 := ht24 t (by rw [h]; simp)
    have hpl := encTs_length pre (fun x hx => ht24 x (by rw [h]; exact List.mem_append_left _ hx))
    have e : b0 ++ encTs texts = (b0 ++ encTs pre) ++ (t.size : Int) :: bytesOf t ++ encTs suf := by rw [h, encTs_append]; simp [encTs, encT]
    have g := getText_put (b0 ++ encTs pre) (encTs suf) t htt
    rw [← e] at g
    rw [List.length_cons, show k + (suf.length + 1) + 1 = (k + suf.length + 1) + 1 from by omega]
    obtain ⟨K, hK⟩ : ∃ K, K = k + suf.length + 1 := ⟨_, rfl⟩
    rw [← hK]
    simp only [raddlelaw01_WireBack.l3]
    have hl2 : (b0 ++ encTs pre).length ≤ 1500 := by rw [List.length_append]; omega
    rw [if_pos (by omega), getText_eq _ _ _ hall (by rw [List.length_append]; omega) (by omega) (by omega), Option.bind_some, g]
    simp only
    rw [if_pos trivial, if_pos (by omega), hr, if_pos rfl, w64 (x := _ + 1) (by omega) (by omega), w64 (x := _ + (t.size : Int)) (by omega) (by omega), if_pos rfl, w64 (by omega) (by omega)]
    have := ih (pre ++ [t]) k (by rw [h]; simp) hk
    rw [encTs_append] at this
    simp only [encTs, encT, List.append_nil, List.length_append, List.length_singleton, List.length_cons, bytesOf_length] at this
    simp only [List.length_append]
    rw [show (((b0.length + (encTs pre).length : Nat) : Int) + 1 + (t.size : Int)) = ((b0.length + ((encTs pre).length + (t.size + 1)) : Nat) : Int) from by omega, show ((pre.length : Int) + 1) = ((pre.length + 1 : Nat) : Int) from rfl, hK]
    exact this
theorem l2_eq (hs1 : 1 ≤ s) (hs7 : s ≤ 7) (hn : nums.length ≤ 30) (c : List Int) (hc : Bytes c) (hcl : c.length ≤ 1000) (suf : List Int) : ∀ (pre : List Int) (k : Nat), nums = pre ++ suf → 100 ≤ k →
    raddlelaw01_WireBack.l2 (k + suf.length + 1) nums texts s (encNs s nums ++ c) ((encNs s pre).length : Nat) pre.length = raddlelaw01_WireBack.l3 k texts (encNs s nums ++ c) ((encNs s nums).length : Nat) 0 := by
  have hall : Bytes (encNs s nums ++ c) := (encNs_bytes s nums).append hc
  have hel := encNs_length s nums
  have hmul : nums.length * (s + 9) ≤ 30 * 16 := Nat.mul_le_mul (by omega) (by omega)
  induction suf with
  | nil =>
    intro pre k h hk
    simp only [List.append_nil] at h
    subst h
    simp only [List.length_nil, Nat.add_zero, raddlelaw01_WireBack.l2]
    rw [if_neg (by omega)]
  | cons n suf ih =>
    intro pre k h hk
    have hp := pow_pos s
    have hl := pow256_le hs7
    have a0 := Int.emod_nonneg n (show (256 : Int) ^ s ≠ 0 by omega)
    have a1 := Int.emod_lt_of_pos n hp
    obtain ⟨p0, p1⟩ := within_bd n
    have hlen : nums.length = pre.length + (suf.length + 1) := by rw [h]; simp
    have hr : rd nums (pre.length : Int) = n := by rw [h]; exact rd_here _ _ _
    have hpl := encNs_length s pre
    have hmul2 : pre.length * (s + 9) ≤ 30 * 16 := Nat.mul_le_mul (by omega) (by omega)
    have e : encNs s nums ++ c = encNs s pre ++ big (n % 256 ^ s) s ++ (intB (Int.tmod n 1152921504606846977) ++ encNs s suf ++ c) := by rw [h, encNs_append]; simp [encNs, encN]
    have e2 : encNs s nums ++ c = (encNs s pre ++ big (n % 256 ^ s) s) ++ intB (Int.tmod n 1152921504606846977) ++ (encNs s suf ++ c) := by rw [h, encNs_append]; simp [encNs, encN]
    have g := get_put (encNs s pre) (intB (Int.tmod n 1152921504606846977) ++ encNs s suf ++ c) (n % 256 ^ s) s hs1 hs7 a0 a1
    rw [← e] at g
    have g2 := getInt_put (encNs s pre ++ big (n % 256 ^ s) s) (encNs s suf ++ c) (Int.tmod n 1152921504606846977) p0 p1
    rw [← e2, List.length_append, big_length] at g2
    have hL : (encNs s nums ++ c).length ≤ 10000 := by rw [List.length_append]; omega
    rw [List.length_cons, show k + (suf.length + 1) + 1 = (k + suf.length + 1) + 1 from by omega]
    obtain ⟨K, hK⟩ : ∃ K, K = k + suf.length + 1 := ⟨_, rfl⟩
    rw [← hK]
    simp only [raddlelaw01_WireBack.l2]
    rw [if_pos (by omega), get_eq _ _ _ _ hall (by omega) (by omega) (by omega), Option.bind_some, g]
    simp only
    rw [show (((encNs s pre).length : Int) + (s : Int)) = (((encNs s pre).length + s : Nat) : Int) from rfl, getInt_eq _ _ _ hall (by omega) (by omega) (by omega), Option.bind_some, g2]
    simp only
    rw [if_pos trivial, if_pos trivial, if_pos (by omega), w64 (x := 8 * (s : Int)) (by omega) (by omega), wu64 (x := 8 * (s : Int)) (by omega) (by omega), if_pos (by omega), hr]
    have hm := mask_eq s hs1 hs7 n
    rw [w64 (x := 8 * (s : Int)) (by omega) (by omega), wu64 (x := 8 * (s : Int)) (by omega) (by omega)] at hm
    rw [hm, if_pos rfl, within_eq, Option.bind_some, if_pos rfl, if_pos (by rw [w64 (by omega) (by omega)]), w64 (x := _ + 9) (by omega) (by omega), if_pos rfl, w64 (by omega) (by omega)]
    have := ih (pre ++ [n]) k (by rw [h]; simp) hk
    rw [encNs_append] at this
    simp only [encNs, List.append_nil, List.length_append, encN_length, List.length_singleton] at this
    rw [show ((((encNs s pre).length + s : Nat) : Int) + 9) = (((encNs s pre).length + (s + 9) : Nat) : Int) from by omega, show ((pre.length : Int) + 1) = ((pre.length + 1 : Nat) : Int) from rfl, hK]
    exact this
end

theorem WireBack : raddlelaw01_WireBack.Pure := by
  intro nums texts size wn wt wz
  obtain ⟨s, hs1, hs7, hs⟩ := size7 size (wf_i64 wz)
  by_cases g1 : (nums.length : Int) > 30
  · refine ⟨2, ?_⟩
    unfold raddlelaw01_WireBack.f
    rw [if_pos g1]; simp [raddlelaw01_WireBack.j0]
  by_cases g2 : (texts.length : Int) > 30
  · refine ⟨2, ?_⟩
    unfold raddlelaw01_WireBack.f
    rw [if_neg g1]; simp [raddlelaw01_WireBack.j0, g2]
  refine ⟨((((100 + texts.length + 1) + nums.length + 1) + texts.length + 1) + nums.length + 1) + 1, ?_⟩
  unfold raddlelaw01_WireBack.f
  rw [if_neg g1]
  simp only [raddlelaw01_WireBack.j0, g2, decide_false]
  rw [if_neg (by simp), hs]
  have h0 := l0_eq s nums texts hs1 hs7 nums [] (((100 + texts.length + 1) + nums.length + 1) + texts.length + 1) (by simp) (by omega) (by omega)
  simp only [encNs, List.length_nil, Int.natCast_zero] at h0
  rw [h0]
  have h1 := l1_eq s nums texts hs1 hs7 (by omega) texts [] ((100 + texts.length + 1) + nums.length + 1) (by simp) (by omega) (by simp) wt.2 (by omega)
  simp only [encTs, List.append_nil, List.length_nil, Int.natCast_zero] at h1
  rcases h1 with h1 | ⟨ht, h1⟩
  · exact h1
  rw [h1]
  have htl := encTs_length texts ht
  have h2 := l2_eq s nums texts hs1 hs7 (by omega) (encTs texts) (encTs_bytes texts ht) (by omega) nums [] (100 + texts.length + 1) (by simp) (by omega)
  simp only [encNs, List.length_nil, Int.natCast_zero] at h2
  rw [h2]
  have hmul : nums.length * (s + 9) ≤ 30 * 16 := Nat.mul_le_mul (by omega) (by omega)
  have h3 := l3_eq texts (encNs s nums) (encNs_bytes s nums) (by rw [encNs_length]; omega) ht (by omega) texts [] 100 (by simp) (by omega)
  simp only [encTs, List.append_nil, List.length_nil, Int.natCast_zero] at h3
  exact h3
end Go.Proofs.Ytomahagonogapaa.Pure
