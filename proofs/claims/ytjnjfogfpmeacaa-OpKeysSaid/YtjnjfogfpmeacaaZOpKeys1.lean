-- wip/slice2.py
import Derived.Test.YtjnjfogfpmeacaaZOpKeys0

set_option maxHeartbeats 8000000
set_option maxRecDepth 100000
open Go.Proofs.YtjnjfogfpmeacaaW Go.Proofs.Ytjnjfogfpmeacaa
section
namespace Go.Proofs.Ytjnjfogfpmeacaa.PAll
open Go.RowKit PrintWords PrintLast PrintMore ZipT PrintWords.Kd PrintMore.Kd
attribute [local go_sem] max2_int min2_int max_two min_two max_three min_three max_four min_four   -- for this text's walks alone
set_option linter.unusedVariables false
set_option linter.unusedSimpArgs false
def raddlelaw07_OpKeys.l0 : Nat → Int → Int → List Int → Int → Option (Bool)
 | 0, _, _, _, _ => none
 | k + 1, x0, x1, x5, x6 => if x6 < x0 then (if 0 ≤ x6 then (if x6 < (x5.length : Int) then (raddlelaw07_OpKeys.l0 k x0 x1 (x5.set (x6 : Int).toNat x1) (wrap64 (x6 + 1))) else (none)) else (none)) else ((op_Key.f (strOfNums x5)).bind fun t342 => (if x0 ≥ 1 then (if (t342 == (decide (x0 ≤ 12))) = true then ((raddlelaw07_wakes.f).bind fun t343 => (some t343)) else (some false)) else (if (t342 == false) = true then ((raddlelaw07_wakes.f).bind fun t344 => (some t344)) else (some false))))
def raddlelaw07_OpKeys.f (k : Nat) (a0 : Int) (a1 : Int) : Option (Bool) := if 0 ≤ (wrap64 (Int.tmod (IntKind.u64.wrap (a0)) 15)) then (if (wrap64 (Int.tmod (IntKind.u64.wrap (a0)) 15) : Int).toNat ≤ 281474976710656 then (raddlelaw07_OpKeys.l0 k (wrap64 (Int.tmod (IntKind.u64.wrap (a0)) 15)) a1 (List.replicate (wrap64 (Int.tmod (IntKind.u64.wrap (a0)) 15) : Int).toNat 0) 0) else (none)) else (none)
theorem raddlelaw07_OpKeys.calls (k : Nat) (a0 : Int) (a1 : Int) (r : Bool) (w : World) (hrt : r = true) (h : raddlelaw07_OpKeys.f k a0 a1 = some r) :
  Calls Try.prog 9 #[.int .i64 a0, .int .u8 a1] w fun e w' => e = .returned (.bool r) ∧ Below w.heap.size w w' := by
 have HB := mk_ (Below.refl w.heap.size w)
 have H : (if 0 ≤ (wrap64 (Int.tmod (IntKind.u64.wrap (a0)) 15)) then (if (wrap64 (Int.tmod (IntKind.u64.wrap (a0)) 15) : Int).toNat ≤ 281474976710656 then (raddlelaw07_OpKeys.l0 k (wrap64 (Int.tmod (IntKind.u64.wrap (a0)) 15)) a1 (List.replicate (wrap64 (Int.tmod (IntKind.u64.wrap (a0)) 15) : Int).toNat 0) 0) else (none)) else (none)) = some r := h
 clear h
 obtain ⟨ji3, hji3⟩ : ∃ j_ : Int, (wrap64 (Int.tmod (IntKind.u64.wrap (a0)) 15)) = j_ := ⟨_, rfl⟩
 replace H : (if 0 ≤ (ji3) then (if (ji3 : Int).toNat ≤ 281474976710656 then (raddlelaw07_OpKeys.l0 k ji3 a1 (List.replicate (ji3 : Int).toNat 0) 0) else (none)) else (none)) = some r := by first | (rw [hji3] at H; exact H) | (simp only [hji3] at H ⊢; exact H)
 have hji3w : (IntKind.i64.wrap (Int.tmod (IntKind.u64.wrap (a0)) 15)) = ji3 := (i64_w _).trans hji3
 by_cases c4 : 0 ≤ (ji3)
 rotate_left
 ·
  rw [if_neg c4] at H
  exact absurd H (by simp)
 rw [if_pos c4] at H
 have c4b0 := eq_true c4
 have c4b1 : decide (0 ≤ (ji3)) = true := decide_eq_true c4
 clear c4
 by_cases c5 : (ji3 : Int).toNat ≤ 281474976710656
 rotate_left
 ·
  rw [if_neg c5] at H
  exact absurd H (by simp)
 rw [if_pos c5] at H
 have c5b0 := eq_true c5
 have c5b1 : decide ((ji3 : Int).toNat ≤ 281474976710656) = true := decide_eq_true c5
 clear c5
 obtain ⟨y338, hy338⟩ : ∃ y_ : List Int, y_ = (List.replicate (ji3 : Int).toNat 0) := ⟨_, rfl⟩
 replace H : (raddlelaw07_OpKeys.l0 k ji3 a1 y338 0) = some r := by first | (rw [hy338]; with_reducible exact H) | (have H2_ := (Option.bind_some _ _).symm.trans H; rw [hy338]; with_reducible exact H2_) | (have H2_ := (Option.bind_some _ _).symm.trans H; with_reducible exact H2_) | with_reducible exact H | (rw [hy338]; exact H) | exact H
 have Ny338 := mk_ hy338
 clear hy338
 have H' := mk_ H
 clear H
 go_enter Try.func9, Try.ntmps9
 go_wp2_with (first | ((with_reducible refine gate_dst (N := 12) rfl ?_); refine R_make (Kd.int .u8) _ 5 rfl (N := 12) rfl 22 _ _ rfl ji3 rfl rfl Try.underlying22 (.int .u8 0) 1 info5 rfl z5 z3 0 (ok := fun _ => True) (okp := fun _ => True) rfl (fun _ hk => hk) trivial (of_decide_eq_true z1) (Nat.le_trans (Nat.mul_le_mul_right _ (of_decide_eq_true z1 : ji3.toNat ≤ 281474976710656)) z3) (Below.refl _ _) (Nat.le_refl _) ?_; intro v339 w6 ho7 hb hg_ hnew_; clear hg_ hnew_; (first | rw [← Ny338.out] at ho7 | (simp only [Int.reduceToNat] at ho7; rw [← Ny338.out] at ho7)); have n0_ := mk_ (R_lower ho7 (below_size (Short.hB HB))); have n1_ := mk_ (below_step (Short.hB HB) hb); clear HB; revert n0_ n1_; intro HO340 HB; clear hb ho7))
 go_loopg [6] k (fun kq v6 w' => ∃ (x5_1 : List Int) (x6_1 : Int), v6 = .int .i64 x6_1 ∧ Aside0 (raddlelaw07_OpKeys.l0 kq ji3 a1 x5_1 x6_1 = some r) ∧ Aside0 (kq ≤ k) ∧ Aside0 (Kd.R (Kd.int .u8) 5 w' w.heap.size (fun _ => True) v339 x5_1) ∧ Aside0 (Below w.heap.size w w'))
 case atStart => exact ⟨(y338), (0), z4, H', ⟨Nat.le_refl _⟩, ⟨by (with_reducible repeat (first | apply R_alloc | apply R_drewN | apply R_drew)); exact HO340.out⟩, ⟨Short.hB HB⟩⟩
 case round =>
  clear H'
  try clear p2
  try clear c4
  try clear c4b0
  try clear c4b1
  try clear c5
  try clear c5b0
  try clear c5b1
  try clear p6
  obtain ⟨x5_1, x6_1, rfl, HA, HK1, HO_5, HB⟩ := hrel
  cases gk with
  | zero => exact absurd HA.out (by simp [raddlelaw07_OpKeys.l0])
  | succ k1 =>
   have H := HA.out
   clear HA
   simp only [raddlelaw07_OpKeys.l0] at H
   by_cases c8 : x6_1 < ji3
   ·
    rw [if_pos c8] at H
    have c8b0 : decide (x6_1 < ji3) = true := decide_eq_true c8
    clear c8
    by_cases c9 : 0 ≤ x6_1
    rotate_left
    ·
     rw [if_neg c9] at H
     exact absurd H (by simp)
    rw [if_pos c9] at H
    have c9b0 : decide (0 ≤ x6_1) = true := decide_eq_true c9
    clear c9
    by_cases c10 : x6_1 < (x5_1.length : Int)
    rotate_left
    ·
     rw [if_neg c10] at H
     exact absurd H (by simp)
    rw [if_pos c10] at H
    have c10b0 : decide (x6_1 < (x5_1.length : Int)) = true := decide_eq_true c10
    clear c10
    obtain ⟨y341, hy341⟩ : ∃ y_ : List Int, y_ = (x5_1.set (x6_1 : Int).toNat a1) := ⟨_, rfl⟩
    replace H : (raddlelaw07_OpKeys.l0 k1 ji3 a1 y341 (wrap64 (x6_1 + 1))) = some r := by first | (rw [hy341]; with_reducible exact H) | (have H2_ := (Option.bind_some _ _).symm.trans H; rw [hy341]; with_reducible exact H2_) | (have H2_ := (Option.bind_some _ _).symm.trans H; with_reducible exact H2_) | with_reducible exact H | (rw [hy341]; exact H) | exact H
    have Ny341 := mk_ hy341
    clear hy341
    have H' := mk_ H
    clear H
    have p11 : 0 ≤ (x6_1 : Int) := of_decide_eq_true z1
    have q11 : (x6_1 : Int) < ((x5_1.length : Int) : Int) := of_decide_eq_true z1
    obtain ⟨go11, co11, eo11, gb11, gl11, cl11, HG11⟩ := R_form HO_5.out z3
    (first | cases eo11 | (injection eo11 with ea_ en_ ec_; (first | subst ea_ | (injection ea_ with ea_; subst ea_)); subst ec_; clear en_))
    have GB11 := mk_ gb11
    have GG11 := mk_ HG11
    clear gb11 gl11 HG11
    obtain ⟨hx11_0, hf11_0⟩ := R_celln 0 HO_5.out (x6_1 : Int) p11 q11
    replace p11 := eq_true p11
    replace q11 := eq_true q11
    have HP12 := R_putg HO_5.out (x6_1 : Int) a1
    go_wp2_with (first | ((with_reducible refine gate_store (t := 5) (p := 21) rfl ?_); refine store_event (t := 5) (p := 21) (v := ?vo_w13) (w1 := (wr.setCell ⟨go11, (x6_1 : Int).toNat, none⟩ (.int .u8 a1))) ?hg ?ho ?hn ?hr ?_; (case ho => rfl); (case hg => rfl); (case hn => rfl); (case hr => first | (go_simp; done) | (go_simp; rfl)); intro w13 hw; have hg : wr.grownBy w13 (some go11) := (by rw [hw]; exact HP12.2); have hp_ : Kd.R (Kd.int .u8) 5 w13 w.heap.size (fun _ => True) (.slice (some ⟨go11, 0, none⟩) x5_1.length co11) y341 := (by rw [hw, Ny341.out]; exact HP12.1); clear HP12; have n0_ := mk_ (hp_); have n1_ := mk_ ((by rw [hw]; exact below_set (HB.out) GB11.out : Below w.heap.size w w13)); clear HO_5 HB; revert n0_ n1_; intro HO_5 HB; clear hg hw hp_))
    go_roundg k1
    case measure => have := HK1.out; omega
    case rel => exact ⟨(y341), (wrap64 (x6_1 + 1)), z4, H', ⟨by have := HK1.out; omega⟩, ⟨by (with_reducible repeat (first | apply R_alloc | apply R_drewN | apply R_drew)); exact HO_5.out⟩, ⟨Short.hB HB⟩⟩
   rw [if_neg c8] at H
   have c8b0 : decide (x6_1 < ji3) = false := decide_eq_false c8
   clear c8
   replace H := Option.bind_eq_some_iff.mp H
   obtain ⟨t342, A140, H⟩ := H
   replace H : (if ji3 ≥ 1 then (if (t342 == (decide (ji3 ≤ 12))) = true then ((raddlelaw07_wakes.f).bind fun t343 => (some t343)) else (some false)) else (if (t342 == false) = true then ((raddlelaw07_wakes.f).bind fun t344 => (some t344)) else (some false))) = some r := H
   have A14 := mk_ A140
   clear A140
   by_cases c15 : ji3 ≥ 1
   ·
    rw [if_pos c15] at H
    have c15b0 : decide (1 ≤ ji3) = true := decide_eq_true c15
    clear c15
    by_cases c16 : (t342 == (decide (ji3 ≤ 12))) = true
    rotate_left
    ·
     rw [if_neg c16] at H
     have c16b0 : (t342 == (decide (ji3 ≤ 12))) = false := by simpa using c16
     (try (have c16b1 : decide (t342 = (decide (ji3 ≤ 12))) = false := by simpa using c16))
     (try (have c16b2 : (t342 == (decide (ji3 ≤ 12))) = false := by simpa using c16))
     (try (have c16b3 : ¬ (t342 = (decide (ji3 ≤ 12))) := by simpa using c16))
     clear c16
     exact absurd H (by rw [hrt]; simp)
    rw [if_pos c16] at H
    have c16b0 : (t342 == (decide (ji3 ≤ 12))) = true := c16
    (try (have c16b1 : decide (t342 = (decide (ji3 ≤ 12))) = true := by simpa using c16))
    (try (have c16b2 : (t342 == (decide (ji3 ≤ 12))) = true := by simpa using c16))
    clear c16
    replace H := Option.bind_eq_some_iff.mp H
    obtain ⟨t343, A170, H⟩ := H
    replace H : (some t343) = some r := H
    have A17 := mk_ A170
    clear A170
    obtain rfl := Option.some.inj H
    have hcv18 := own_string (P := Try.prog) Try.underlying22 Try.underlying5 Try.underlying9 (Kd.own_of_R HO_5.out)
    go_wp2_with (first | ((with_reducible refine gate_callee (f := 25) rfl ?_); refine Short.gL (some 24) Try.func25 #[.string (strOfNums x5_1)] (h := ?_); (with_reducible refine (op_Key.calls (strOfNums x5_1) t342 _ A14.out).mono ?_); rintro e w' ⟨rfl, ⟨nd, rfl⟩⟩; refine ⟨_, rfl, ?_⟩) | (go_at_call 15; (with_reducible refine (raddlelaw07_wakes.calls  t343 _ A17.out).mono ?_); rintro e w19 ⟨rfl, hb⟩; have n0_ := mk_ (R_below (ZKR HO_5) hb); have n1_ := mk_ (below_step (Short.hB HB) hb); clear HO_5 HB; revert n0_ n1_; intro HO_5 HB; (try clear hb); (try clear hb2); (try clear hk); (try clear hi)))
    go_ret
    exact ⟨by first | rfl | (simp [errW_none, errW_some] <;> rfl) | (simp only [← hji3]; first | rfl | (simp [errW_none, errW_some] <;> rfl)) | (simp [*, errW_none, errW_some] <;> rfl), Short.hB HB⟩
   rw [if_neg c15] at H
   have c15b0 : decide (1 ≤ ji3) = false := decide_eq_false c15
   clear c15
   by_cases c20 : (t342 == false) = true
   rotate_left
   ·
    rw [if_neg c20] at H
    have c20b0 : (t342 == false) = false := by simpa using c20
    (try (have c20b1 : decide (t342 = false) = false := by simpa using c20))
    (try (have c20b2 : (t342 == false) = false := by simpa using c20))
    (try (have c20b3 : ¬ (t342 = false) := by simpa using c20))
    clear c20
    exact absurd H (by rw [hrt]; simp)
   rw [if_pos c20] at H
   have c20b0 : (t342 == false) = true := c20
   (try (have c20b1 : decide (t342 = false) = true := by simpa using c20))
   (try (have c20b2 : (t342 == false) = true := by simpa using c20))
   clear c20
   replace H := Option.bind_eq_some_iff.mp H
   obtain ⟨t344, A210, H⟩ := H
   replace H : (some t344) = some r := H
   have A21 := mk_ A210
   clear A210
   obtain rfl := Option.some.inj H
   have hcv22 := own_string (P := Try.prog) Try.underlying22 Try.underlying5 Try.underlying9 (Kd.own_of_R HO_5.out)
   go_wp2_with (first | ((with_reducible refine gate_callee (f := 25) rfl ?_); refine Short.gL (some 24) Try.func25 #[.string (strOfNums x5_1)] (h := ?_); (with_reducible refine (op_Key.calls (strOfNums x5_1) t342 _ A14.out).mono ?_); rintro e w' ⟨rfl, ⟨nd, rfl⟩⟩; refine ⟨_, rfl, ?_⟩) | (go_at_call 15; (with_reducible refine (raddlelaw07_wakes.calls  t344 _ A21.out).mono ?_); rintro e w23 ⟨rfl, hb⟩; have n0_ := mk_ (R_below (ZKR HO_5) hb); have n1_ := mk_ (below_step (Short.hB HB) hb); clear HO_5 HB; revert n0_ n1_; intro HO_5 HB; (try clear hb); (try clear hb2); (try clear hk); (try clear hi)))
   go_ret
   exact ⟨by first | rfl | (simp [errW_none, errW_some] <;> rfl) | (simp only [← hji3]; first | rfl | (simp [errW_none, errW_some] <;> rfl)) | (simp [*, errW_none, errW_some] <;> rfl), Short.hB HB⟩
def raddlelaw07_OpKeys.Pure : Prop := ∀ (a0 : Int) (a1 : Int), (Lit.int .i64 a0).wf = true → (Lit.int .u8 a1).wf = true → ∃ k, raddlelaw07_OpKeys.f k a0 a1 = some true
theorem raddlelaw07_OpKeys.walk (P : raddlelaw07_OpKeys.Pure) (a0 : Int) (a1 : Int) (w : World) (w0 : (Lit.int .i64 a0).wf = true) (w1 : (Lit.int .u8 a1).wf = true) :
  Calls Try.prog 9 #[.int .i64 a0, .int .u8 a1] w fun e w' => e = .returned (.bool true) ∧ Below w.heap.size w w' := by
 obtain ⟨k, h⟩ := P a0 a1 w0 w1
 refine (raddlelaw07_OpKeys.calls k a0 a1 true w rfl h).mono ?_
 rintro e w' ⟨rfl, hd⟩
 exact ⟨rfl, hd⟩
end Go.Proofs.Ytjnjfogfpmeacaa.PAll
end
section
namespace Go.Proofs.Ytjnjfogfpmeacaa.Pure
open Go.RowKit PAll PrintWords PrintLast Plain Ops ZipT PrintWords.Kd PrintMore.Kd
set_option linter.unusedVariables false
set_option linter.unusedSimpArgs false
theorem tmod15 (n : Int) : wrap64 (Int.tmod (IntKind.u64.wrap n) 15) = n % 18446744073709551616 % 15 := by
 rw [u64_mod, Int.tmod_eq_emod_of_nonneg z3, w64 z3 z3]
theorem opKeys_l0 (a1 : Int) (n : Nat) (hn : n ≤ 14) (j : Nat) : ∀ (k i : Nat) (xs : List Int), 1200 + j ≤ k → xs.length = n → i + j = n → raddlelaw07_OpKeys.l0 k (n : Int) a1 xs (i : Int) = some true := by
 induction j with
 | zero =>
  intro k i xs hk hx hi
  obtain ⟨k, rfl⟩ : ∃ q, k = q + 1 := ⟨k - 1, by omega⟩
  have hi : i = n := by omega
  subst hi
  simp only [raddlelaw07_OpKeys.l0]
  rw [if_neg z3, key_eq, Option.bind_some]
  have hk : keyB (strOfNums xs) = decide (1 ≤ i ∧ i ≤ 12) := by unfold keyB; rw [strOfNums_size, hx]
  rw [hk]
  by_cases h1 : (i : Int) ≥ 1
  ·
   rw [if_pos h1, if_pos (by rw [beq_iff_eq, decide_eq_decide]; omega), wakes7_eq]; rfl
  rw [if_neg h1, if_pos (by rw [decide_eq_false z3]; rfl), wakes7_eq]; rfl
 | succ j ih =>
  intro k i xs hk hx hi
  obtain ⟨k, rfl⟩ : ∃ q, k = q + 1 := ⟨k - 1, by omega⟩
  simp only [raddlelaw07_OpKeys.l0]
  rw [if_pos z3, if_pos z3, if_pos z3, w64 z3 z3]
  exact ih k (i + 1) _ z3 (by rw [List.length_set]; exact hx) z3
theorem OpKeys : raddlelaw07_OpKeys.Pure := by
 intro a0 a1 h0 h1
 refine ⟨1300, ?_⟩
 unfold raddlelaw07_OpKeys.f
 rw [tmod15]
 have h : 0 ≤ a0 % 18446744073709551616 % 15 ∧ a0 % 18446744073709551616 % 15 ≤ 14 := by omega
 generalize a0 % 18446744073709551616 % 15 = m at *
 obtain ⟨n, rfl⟩ := Int.eq_ofNat_of_zero_le h.1
 rw [if_pos h.1, Int.toNat_natCast, if_pos z3]
 exact opKeys_l0 a1 n z3 n 1300 0 _ z3 (List.length_replicate ..) z3
end Go.Proofs.Ytjnjfogfpmeacaa.Pure
end
