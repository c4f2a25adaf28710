-- Put together by a program of this session (wip/slice2.py) out of the seat's texts.
import Derived.Test.YtjnjfogfpmeacaaZOKp0

set_option maxHeartbeats 8000000
set_option maxRecDepth 100000
open Go.Proofs.YtjnjfogfpmeacaaW Go.Proofs.Ytjnjfogfpmeacaa
section
namespace Go.Proofs.Ytjnjfogfpmeacaa.PAll
open Go.RowKit PrintWords PrintLast PrintMore ZipT PrintWords.Kd PrintMore.Kd
attribute [local go_sem] max2_int min2_int max_two min_two max_three min_three max_four min_four   -- for this text's walks alone
set_option linter.unusedVariables false
set_option linter.unusedSimpArgs false
def wire_big.l0 : Nat → Int → List Int → Int → Option (List Int)
 | 0, _, _, _ => none
 | k + 1, x1, x7, x8 => if x8 ≥ 0 then (if 0 ≤ (wrap64 (8 * x8)) then (if x7.length < 140737488355328 then (wire_big.l0 k x1 (x7 ++ [(shr .i64 x1 (wrap64 (8 * x8))) % 256]) (wrap64 (x8 - 1))) else (none)) else (none)) else (some x7)
def wire_big.f (k : Nat) (l0 : List Int) (a1 : Int) (a2 : Int) : Option (List Int) := (slices_Clone_byte_byte.f l0).bind fun t186 => (wire_big.l0 k a1 t186 (wrap64 (a2 - 1)))
theorem wire_big.calls (k : Nat) (A0 : Option Addr) (c0 : Nat) (l0 : List Int) (a1 : Int) (a2 : Int) (r : List Int) (w : World) (hr0 : Kd.C (Kd.int .u8) w A0 l0.length l0) (hc0 : l0.length ≤ c0) (h : wire_big.f k l0 a1 a2 = some r) :
  Calls Try.prog 108 #[.slice A0 l0.length c0, .int .i64 a1, .int .i64 a2] w fun e w' => ∃ v0_ : Value, e = .returned (v0_) ∧ Kd.R (Kd.int .u8) 5 w' w.heap.size (fun _ => True) v0_ r ∧ Below w.heap.size w w' := by
 have HR0 := mk_ hr0
 have HC0 := mk_ hc0
 clear hr0 hc0
 have HB := mk_ (Below.refl w.heap.size w)
 have H : ((slices_Clone_byte_byte.f l0).bind fun t186 => (wire_big.l0 k a1 t186 (wrap64 (a2 - 1)))) = some r := h
 clear h
 obtain ⟨t186, A4, H⟩ := Option.bind_eq_some_iff.mp H
 replace A4 := mk_ A4
 have H' := mk_ H
 clear H
 go_enter Try.func108, Try.ntmps108
 go_wp2_with (first | ((with_reducible refine gate_callee (f := 109) rfl ?_); refine Short.gL (some 10) Try.func109 #[.slice A0 l0.length c0] (h := ?_); (with_reducible refine (slices_Clone_byte_byte.calls _ _ l0 t186 _ ?side1 ?side2 A4.out).mono ?_); (case side1 => repeat (first | exact HR0.out | (with_reducible refine C_alloc ?_ _) | (with_reducible refine C_drewN ?_ _) | (with_reducible refine C_drew ?_))); (case side2 => exact HC0.out); rintro e w5 ⟨v187, rfl, ho0, hb⟩; refine ⟨_, rfl, ?_⟩; have n0_ := mk_ (R_lower ho0 (below_size (Short.hB HB))); have n1_ := mk_ (below_step (Short.hB HB) hb); clear HB; revert n0_ n1_; intro HO188 HB; (try clear hb ho0)))
 go_loopg [7, 8] k (fun kq v7 v8 w' => ∃ (x7_1 : List Int) (x8_1 : Int), v8 = .int .i64 x8_1 ∧ Aside0 (wire_big.l0 kq a1 x7_1 x8_1 = some r) ∧ Aside0 (kq ≤ k) ∧ Aside0 (Kd.R (Kd.int .u8) 5 w' w.heap.size (fun _ => True) v7 x7_1) ∧ Aside0 (Below w.heap.size w w'))
 case atStart => exact ⟨(t186), (wrap64 (a2 - 1)), z4_, H', ⟨Nat.le_refl _⟩, ⟨by (with_reducible repeat (first | apply R_alloc | apply R_drewN | apply R_drew)); exact HO188.out⟩, ⟨Short.hB HB⟩⟩
 case round =>
  clear H'
  try clear c1
  try clear p2
  obtain ⟨x7_1, x8_1, rfl, HA, HK1, HO_7, HB⟩ := hrel
  cases gk with
  | zero => exact absurd HA.out (by simp [wire_big.l0])
  | succ k1 =>
   have H := HA.out
   clear HA
   simp only [wire_big.l0] at H
   by_cases c6 : x8_1 ≥ 0
   rotate_left
   ·
    rw [if_neg c6] at H
    have c6b0 : decide (0 ≤ x8_1) = false := decide_eq_false c6
    clear c6
    obtain rfl := Option.some.inj H
    go_wp2
    go_ret
    exact ⟨_, by first | rfl | (simp [errW_none, errW_some] <;> rfl) | (simp [*, errW_none, errW_some] <;> rfl), by (with_reducible repeat (first | apply R_alloc | apply R_drewN | apply R_drew)); exact HO_7.out, Short.hB HB⟩
   rw [if_pos c6] at H
   have c6b0 : decide (0 ≤ x8_1) = true := decide_eq_true c6
   clear c6
   obtain ⟨ji7, hji7⟩ : ∃ j_ : Int, (wrap64 (8 * x8_1)) = j_ := ⟨_, rfl⟩
   replace H : (if 0 ≤ (ji7) then (if x7_1.length < 140737488355328 then (wire_big.l0 k1 a1 (x7_1 ++ [(shr .i64 a1 (ji7)) % 256]) (wrap64 (x8_1 - 1))) else (none)) else (none)) = some r := by first | (rw [hji7] at H; exact H) | (simp only [hji7] at H ⊢; exact H)
   have hji7w : (IntKind.i64.wrap (8 * x8_1)) = ji7 := (i64_w _).trans hji7
   by_cases c8 : 0 ≤ (ji7)
   rotate_left
   ·
    rw [if_neg c8] at H
    exact absurd H (by simp)
   rw [if_pos c8] at H
   have c8b0 := eq_true c8
   have c8b1 : decide (0 ≤ (ji7)) = true := decide_eq_true c8
   clear c8
   obtain ⟨ji9, hji9⟩ : ∃ j_ : Int, (shr .i64 a1 (ji7)) = j_ := ⟨_, rfl⟩
   replace H : (if x7_1.length < 140737488355328 then (wire_big.l0 k1 a1 (x7_1 ++ [(ji9) % 256]) (wrap64 (x8_1 - 1))) else (none)) = some r := by first | (rw [hji9] at H; exact H) | (simp only [hji9] at H ⊢; exact H)
   have hji9_ : (a1 / 2 ^ min (ji7).toNat 64) = ji9 := hji9
   have hji9z : (ji7) ≤ 64 → (a1 / 2 ^ (ji7).toNat) = ji9 := shr_small hji9
   by_cases c10 : x7_1.length < 140737488355328
   rotate_left
   ·
    rw [if_neg c10] at H
    exact absurd H (by simp)
   rw [if_pos c10] at H
   have LMc10 := mk_ c10
   clear c10
   obtain ⟨y189, hy189⟩ : ∃ y_ : List Int, y_ = (x7_1 ++ [(ji9) % 256]) := ⟨_, rfl⟩
   replace H : (wire_big.l0 k1 a1 y189 (wrap64 (x8_1 - 1))) = some r := by first | (rw [hy189]; with_reducible exact H) | (have H2_ := (Option.bind_some _ _).symm.trans H; rw [hy189]; with_reducible exact H2_) | (have H2_ := (Option.bind_some _ _).symm.trans H; with_reducible exact H2_) | with_reducible exact H | (rw [hy189]; exact H) | exact H
   have Ny189 := mk_ hy189
   clear hy189
   have H' := mk_ H
   clear H
   go_wp2_with (first | ((with_reducible refine gate_builtin (b := .append) (xs := #[.tmp 17, .tmp 23]) rfl ?_); at_builtin; refine R_append (Kd.int .u8) (w0 := w) w.heap.size rfl (.tmp 17) (.tmp 23) 22 5 (.int .u8 0) 1 rfl Try.underlying22 info5 rfl z5_ z3_ u7 x7_1 ((ji9) % 256) [.int .u8 ((ji9) % 256)] (fun _ => True) (fun _ => False) rfl rfl ?aP (fun _ hk => hk.elim) ?aF ?aO ?aB ?aS ?aL ?_; (case aP => exact rfl); (case aB => exact (Short.hB HB)); (case aF => exact (fun _ _ => trivial)); (case aO => exact (ZKR HO_7)); (case aS => exact (below_size (Short.hB HB))); (case aL => have := LMc10.out; omega); intro v190 w11 ho hb hg hat; rw [← Ny189.out] at ho; have n0_ := mk_ (hb); have n1_ := mk_ (ho); clear HB HO_7; revert n0_ n1_; intro HB HO191; clear ho hb hg hat))
   go_roundg k1
   case measure => have := HK1.out; omega
   case rel => exact ⟨(y189), (wrap64 (x8_1 - 1)), z4_, H', ⟨by have := HK1.out; omega⟩, ⟨by (with_reducible repeat (first | apply R_alloc | apply R_drewN | apply R_drew)); exact HO191.out⟩, ⟨Short.hB HB⟩⟩
def wire_PutInt.j0 : Nat → List Int → Int → Bool → Option (List Int × Int)
 | 0, _, _, _ => none
 | k + 1, x0, x1, x12 => if x12 = true then (some (([] : List Int), 1)) else (if x1 < 0 then ((slices_Clone_byte_byte.f x0).bind fun t192 => (if t192.length < 140737488355328 then ((wire_big.f k (t192 ++ [1]) (wrap64 (-x1)) 8).bind fun t198 => (some (t198, 0))) else (none))) else ((slices_Clone_byte_byte.f x0).bind fun t201 => (if t201.length < 140737488355328 then ((wire_big.f k (t201 ++ [0]) x1 8).bind fun t207 => (some (t207, 0))) else (none))))
def wire_PutInt.f (k : Nat) (l0 : List Int) (a1 : Int) : Option (List Int × Int) := if a1 < (-1152921504606846976) then (wire_PutInt.j0 k l0 a1 true) else (wire_PutInt.j0 k l0 a1 (decide (a1 > 1152921504606846976)))
theorem wire_PutInt.calls (k : Nat) (A0 : Option Addr) (c0 : Nat) (l0 : List Int) (a1 : Int) (r1 : List Int) (r2 : Int) (w : World) (hr0 : Kd.C (Kd.int .u8) w A0 l0.length l0) (hc0 : l0.length ≤ c0) (h : wire_PutInt.f k l0 a1 = some (r1, r2)) :
  Calls Try.prog 88 #[.slice A0 l0.length c0, .int .i64 a1] w fun e w' => ∃ v0_ : Value, e = .returned (.tuple #[v0_, .int .i64 r2]) ∧ Kd.R (Kd.int .u8) 5 w' w.heap.size (fun _ => True) v0_ r1 ∧ Below w.heap.size w w' := by
 have HR0 := mk_ hr0
 have HC0 := mk_ hc0
 clear hr0 hc0
 have HB := mk_ (Below.refl w.heap.size w)
 have H : (if a1 < (-1152921504606846976) then (wire_PutInt.j0 k l0 a1 true) else (wire_PutInt.j0 k l0 a1 (decide (a1 > 1152921504606846976)))) = some (r1, r2) := h
 clear h
 have HC3 := mk_ H
 clear H
 go_enter Try.func88, Try.ntmps88
 go_upto_region 1 with (fail)
 go_cut [12] (fun v12 wc => ∃ (kq : Nat) (x12_2 : Bool), v12 = .bool x12_2 ∧ Aside0 (wire_PutInt.j0 kq l0 a1 x12_2 = some (r1, r2)) ∧ Aside0 (kq ≤ k) ∧ Aside0 (Below w.heap.size w wc))
 case first =>
  have H := HC3.out
  clear HC3
  by_cases c4 : a1 < (-1152921504606846976)
  ·
   rw [if_pos c4] at H
   have c4b0 : decide (a1 < (-1152921504606846976)) = true := decide_eq_true c4
   clear c4
   (first | rw [c4b0] | (simp only [i64_w, i32_w]; rw [c4b0]) | skip)
   have H' := mk_ H
   clear H
   go_wp2
   go_meet
   case rel => exact ⟨_, (true), z4_, H', ⟨by first | omega | exact Nat.le_refl _⟩, ⟨Short.hB HB⟩⟩
  rw [if_neg c4] at H
  have c4b0 : decide (a1 < (-1152921504606846976)) = false := decide_eq_false c4
  clear c4
  (first | rw [c4b0] | (simp only [i64_w, i32_w]; rw [c4b0]) | skip)
  have H' := mk_ H
  clear H
  go_wp2
  go_meet
  case rel => exact ⟨_, (decide (a1 > 1152921504606846976)), z4_, H', ⟨by first | omega | exact Nat.le_refl _⟩, ⟨Short.hB HB⟩⟩
 case rest => as_aux_lemma =>
  clear HC3
  try clear p2
  try clear c4
  try clear c4b0
  obtain ⟨kq, x12_2, rfl, HA, HJ2, HB⟩ := hcut
  cases kq with
  | zero => exact absurd HA.out (by simp [wire_PutInt.j0])
  | succ kj2 =>
   have H := HA.out
   clear HA
   simp only [wire_PutInt.j0] at H
   by_cases c5 : x12_2 = true
   ·
    subst c5
    rw [if_pos rfl] at H
    simp only [Option.some.injEq, Prod.mk.injEq] at H
    obtain ⟨rfl, rfl⟩ := H
    go_wp2
    go_ret2
    exact ⟨_, by first | rfl | (simp [errW_none, errW_some] <;> rfl) | (simp [*, errW_none, errW_some] <;> rfl), by first | exact R_nil _ _ _ _ _ | exact N_nil _ _ _ _ _ | exact V_nil _ _ _ _ _ | exact Q_nil _ _ _ _ _ | exact S_nil _ _ _ _ _, Short.hB HB⟩
   ·
    replace c5 := Bool.eq_false_iff.mpr c5
    subst c5
    rw [if_neg (show ¬ (false = true) by decide)] at H
    by_cases c6 : a1 < 0
    ·
     rw [if_pos c6] at H
     have c6b0 : decide (a1 < 0) = true := decide_eq_true c6
     clear c6
     obtain ⟨t192, A7, H⟩ := Option.bind_eq_some_iff.mp H
     replace A7 := mk_ A7
     by_cases c8 : t192.length < 140737488355328
     ·
      rw [if_pos c8] at H
      have LMc8 := mk_ c8
      clear c8
      obtain ⟨y195, hy195⟩ : ∃ y_ : List Int, y_ = (t192 ++ [1]) := ⟨_, rfl⟩
      replace H : ((wire_big.f kj2 y195 (wrap64 (-a1)) 8).bind fun t198 => (some (t198, 0))) = some (r1, r2) := by first | (rw [hy195]; with_reducible exact H) | (have H2_ := (Option.bind_some _ _).symm.trans H; rw [hy195]; with_reducible exact H2_) | (have H2_ := (Option.bind_some _ _).symm.trans H; with_reducible exact H2_) | with_reducible exact H | (rw [hy195]; exact H) | exact H
      have Ny195 := mk_ hy195
      clear hy195
      obtain ⟨t198, A9, H⟩ := Option.bind_eq_some_iff.mp H
      replace A9 := mk_ A9
      simp only [Option.some.injEq, Prod.mk.injEq] at H
      obtain ⟨rfl, rfl⟩ := H
      go_wp2_with (first | ((with_reducible refine gate_callee (f := 109) rfl ?_); refine Short.gL (some 18) Try.func109 #[.slice A0 l0.length c0] (h := ?_); (with_reducible refine (slices_Clone_byte_byte.calls _ _ l0 t192 _ ?side1 ?side2 A7.out).mono ?_); (case side1 => exact cX_ (C_below HR0.out HB.out)); (case side2 => exact HC0.out); rintro e w10 ⟨v193, rfl, ho0, hb⟩; refine ⟨_, rfl, ?_⟩; have n0_ := mk_ (R_lower ho0 (below_size (Short.hB HB))); have n1_ := mk_ (below_step (Short.hB HB) hb); clear HB; revert n0_ n1_; intro HO194 HB; (try clear hb ho0)) | ((with_reducible refine gate_builtin (b := .append) (xs := #[.tmp 18, .tmp 20]) rfl ?_); at_builtin; refine R_append (Kd.int .u8) (w0 := w) w.heap.size rfl (.tmp 18) (.tmp 20) 22 5 (.int .u8 0) 1 rfl Try.underlying22 info5 rfl z5_ z3_ v193 t192 1 [.int .u8 1] (fun _ => True) (fun _ => False) rfl rfl ?aP (fun _ hk => hk.elim) ?aF ?aO ?aB ?aS ?aL ?_; (case aP => exact rfl); (case aB => exact (Short.hB HB)); (case aF => exact (fun _ _ => trivial)); (case aO => exact (ZKR HO194)); (case aS => exact (below_size (Short.hB HB))); (case aL => have := LMc8.out; omega); intro v196 w11 ho hb hg hat; rw [← Ny195.out] at ho; have n0_ := mk_ (hb); have n1_ := mk_ (ho); clear HB HO194; revert n0_ n1_; intro HB HO197; clear ho hb hg hat; obtain ⟨Ao12, co12, eo12⟩ := R_slice HO197.out; subst eo12) | ((with_reducible refine gate_callee (f := 108) rfl ?_); refine Short.gL (some 23) Try.func108 #[.slice Ao12 y195.length co12, .int .i64 (wrap64 (-a1)), .int .i64 8] (h := ?_); (with_reducible refine (wire_big.calls kj2 _ _ y195 (wrap64 (-a1)) 8 t198 _ ?side1 ?side2 A9.out).mono ?_); (case side1 => exact cX_ (R_reads' HO197.out).2.2); (case side2 => exact (R_reads' HO197.out).2.1); rintro e w13 ⟨v199, rfl, ho0, hb⟩; refine ⟨_, rfl, ?_⟩; have n0_ := mk_ (R_elder' (ZKR HO197) (R_base ho0) hb); have n1_ := mk_ (R_lower (R_new' ho0 (R_lt (ZKR HO197))) (below_size (Short.hB HB))); have n2_ := mk_ (below_step (Short.hB HB) hb); clear HO197 HB; revert n0_ n1_ n2_; intro HO197 HO200 HB; (try clear hb ho0)))
      go_ret2
      exact ⟨_, by first | rfl | (simp [errW_none, errW_some] <;> rfl) | (simp [*, errW_none, errW_some] <;> rfl), by (with_reducible repeat (first | apply R_alloc | apply R_drewN | apply R_drew)); exact R_mono HO200.out (fun _ hk => trivial), Short.hB HB⟩
     ·
      rw [if_neg c8] at H
      exact absurd H (by simp)
    ·
     rw [if_neg c6] at H
     have c6b0 : decide (a1 < 0) = false := decide_eq_false c6
     clear c6
     obtain ⟨t201, A14, H⟩ := Option.bind_eq_some_iff.mp H
     replace A14 := mk_ A14
     by_cases c15 : t201.length < 140737488355328
     ·
      rw [if_pos c15] at H
      have LMc15 := mk_ c15
      clear c15
      obtain ⟨y204, hy204⟩ : ∃ y_ : List Int, y_ = (t201 ++ [0]) := ⟨_, rfl⟩
      replace H : ((wire_big.f kj2 y204 a1 8).bind fun t207 => (some (t207, 0))) = some (r1, r2) := by first | (rw [hy204]; with_reducible exact H) | (have H2_ := (Option.bind_some _ _).symm.trans H; rw [hy204]; with_reducible exact H2_) | (have H2_ := (Option.bind_some _ _).symm.trans H; with_reducible exact H2_) | with_reducible exact H | (rw [hy204]; exact H) | exact H
      have Ny204 := mk_ hy204
      clear hy204
      obtain ⟨t207, A16, H⟩ := Option.bind_eq_some_iff.mp H
      replace A16 := mk_ A16
      simp only [Option.some.injEq, Prod.mk.injEq] at H
      obtain ⟨rfl, rfl⟩ := H
      go_wp2_with (first | ((with_reducible refine gate_callee (f := 109) rfl ?_); refine Short.gL (some 18) Try.func109 #[.slice A0 l0.length c0] (h := ?_); (with_reducible refine (slices_Clone_byte_byte.calls _ _ l0 t201 _ ?side1 ?side2 A14.out).mono ?_); (case side1 => exact cX_ (C_below HR0.out HB.out)); (case side2 => exact HC0.out); rintro e w17 ⟨v202, rfl, ho0, hb⟩; refine ⟨_, rfl, ?_⟩; have n0_ := mk_ (R_lower ho0 (below_size (Short.hB HB))); have n1_ := mk_ (below_step (Short.hB HB) hb); clear HB; revert n0_ n1_; intro HO203 HB; (try clear hb ho0)) | ((with_reducible refine gate_builtin (b := .append) (xs := #[.tmp 18, .tmp 20]) rfl ?_); at_builtin; refine R_append (Kd.int .u8) (w0 := w) w.heap.size rfl (.tmp 18) (.tmp 20) 22 5 (.int .u8 0) 1 rfl Try.underlying22 info5 rfl z5_ z3_ v202 t201 0 [.int .u8 0] (fun _ => True) (fun _ => False) rfl rfl ?aP (fun _ hk => hk.elim) ?aF ?aO ?aB ?aS ?aL ?_; (case aP => exact rfl); (case aB => exact (Short.hB HB)); (case aF => exact (fun _ _ => trivial)); (case aO => exact (ZKR HO203)); (case aS => exact (below_size (Short.hB HB))); (case aL => have := LMc15.out; omega); intro v205 w18 ho hb hg hat; rw [← Ny204.out] at ho; have n0_ := mk_ (hb); have n1_ := mk_ (ho); clear HB HO203; revert n0_ n1_; intro HB HO206; clear ho hb hg hat; obtain ⟨Ao19, co19, eo19⟩ := R_slice HO206.out; subst eo19) | ((with_reducible refine gate_callee (f := 108) rfl ?_); refine Short.gL (some 23) Try.func108 #[.slice Ao19 y204.length co19, .int .i64 a1, .int .i64 8] (h := ?_); (with_reducible refine (wire_big.calls kj2 _ _ y204 a1 8 t207 _ ?side1 ?side2 A16.out).mono ?_); (case side1 => exact cX_ (R_reads' HO206.out).2.2); (case side2 => exact (R_reads' HO206.out).2.1); rintro e w20 ⟨v208, rfl, ho0, hb⟩; refine ⟨_, rfl, ?_⟩; have n0_ := mk_ (R_elder' (ZKR HO206) (R_base ho0) hb); have n1_ := mk_ (R_lower (R_new' ho0 (R_lt (ZKR HO206))) (below_size (Short.hB HB))); have n2_ := mk_ (below_step (Short.hB HB) hb); clear HO206 HB; revert n0_ n1_ n2_; intro HO206 HO209 HB; (try clear hb ho0)))
      go_ret2
      exact ⟨_, by first | rfl | (simp [errW_none, errW_some] <;> rfl) | (simp [*, errW_none, errW_some] <;> rfl), by (with_reducible repeat (first | apply R_alloc | apply R_drewN | apply R_drew)); exact R_mono HO209.out (fun _ hk => trivial), Short.hB HB⟩
     ·
      rw [if_neg c15] at H
      exact absurd H (by simp)
def wire_PutText.f (l0 : List Int) (a1 : ByteArray) : Option (List Int × Int) := if (a1.size : Int) > 24 then (some (([] : List Int), 2)) else ((slices_Clone_byte_byte.f l0).bind fun t210 => (if t210.length < 140737488355328 then ((some (t210 ++ [((a1.size : Int)) % 256] : List Int)).bind fun y213 => (if y213.length + a1.size < 140737488355328 then (some ((y213 ++ bytesOf a1), 0)) else (none))) else (none)))
theorem wire_PutText.calls (A0 : Option Addr) (c0 : Nat) (l0 : List Int) (a1 : ByteArray) (r1 : List Int) (r2 : Int) (w : World) (hr0 : Kd.C (Kd.int .u8) w A0 l0.length l0) (hc0 : l0.length ≤ c0) (h : wire_PutText.f l0 a1 = some (r1, r2)) :
  Calls Try.prog 89 #[.slice A0 l0.length c0, .string a1] w fun e w' => ∃ v0_ : Value, e = .returned (.tuple #[v0_, .int .i64 r2]) ∧ Kd.R (Kd.int .u8) 5 w' w.heap.size (fun _ => True) v0_ r1 ∧ Below w.heap.size w w' := by
 have HR0 := mk_ hr0
 have HC0 := mk_ hc0
 clear hr0 hc0
 have HB := mk_ (Below.refl w.heap.size w)
 have H : (if (a1.size : Int) > 24 then (some (([] : List Int), 2)) else ((slices_Clone_byte_byte.f l0).bind fun t210 => (if t210.length < 140737488355328 then ((some (t210 ++ [((a1.size : Int)) % 256] : List Int)).bind fun y213 => (if y213.length + a1.size < 140737488355328 then (some ((y213 ++ bytesOf a1), 0)) else (none))) else (none)))) = some (r1, r2) := h
 clear h
 by_cases c3 : (a1.size : Int) > 24
 ·
  rw [if_pos c3] at H
  have c3b0 : decide (24 < (a1.size : Int)) = true := decide_eq_true c3
  have c3b1 : decide (24 < a1.size) = true := decide_eq_true z3_
  clear c3
  simp only [Option.some.injEq, Prod.mk.injEq] at H
  obtain ⟨rfl, rfl⟩ := H
  go_enter Try.func89, Try.ntmps89
  go_wp2
  go_ret2
  exact ⟨_, by first | rfl | (simp [errW_none, errW_some] <;> rfl) | (simp [*, errW_none, errW_some] <;> rfl), by first | exact R_nil _ _ _ _ _ | exact N_nil _ _ _ _ _ | exact V_nil _ _ _ _ _ | exact Q_nil _ _ _ _ _ | exact S_nil _ _ _ _ _, Short.hB HB⟩
 rw [if_neg c3] at H
 have c3b0 : decide (24 < (a1.size : Int)) = false := decide_eq_false c3
 have c3b1 : decide (24 < a1.size) = false := decide_eq_false z3_
 clear c3
 obtain ⟨t210, A4, H⟩ := Option.bind_eq_some_iff.mp H
 replace A4 := mk_ A4
 by_cases c5 : t210.length < 140737488355328
 rotate_left
 ·
  rw [if_neg c5] at H
  exact absurd H (by simp)
 rw [if_pos c5] at H
 have LMc5 := mk_ c5
 clear c5
 obtain ⟨y213, hy213⟩ : ∃ y_ : List Int, y_ = (t210 ++ [((a1.size : Int)) % 256]) := ⟨_, rfl⟩
 replace H : (if y213.length + a1.size < 140737488355328 then (some ((y213 ++ bytesOf a1), 0)) else (none)) = some (r1, r2) := by first | (rw [hy213]; with_reducible exact H) | (have H2_ := (Option.bind_some _ _).symm.trans H; rw [hy213]; with_reducible exact H2_) | (have H2_ := (Option.bind_some _ _).symm.trans H; with_reducible exact H2_) | with_reducible exact H | (rw [hy213]; exact H) | exact H
 have Ny213 := mk_ hy213
 clear hy213
 by_cases c6 : y213.length + a1.size < 140737488355328
 rotate_left
 ·
  rw [if_neg c6] at H
  exact absurd H (by simp)
 rw [if_pos c6] at H
 have LMc6 := mk_ c6
 clear c6
 obtain ⟨y216, hy216⟩ : ∃ y_ : List Int, y_ = (y213 ++ bytesOf a1) := ⟨_, rfl⟩
 replace H : (some (y216, 0)) = some (r1, r2) := by first | (rw [hy216]; with_reducible exact H) | (have H2_ := (Option.bind_some _ _).symm.trans H; rw [hy216]; with_reducible exact H2_) | (have H2_ := (Option.bind_some _ _).symm.trans H; with_reducible exact H2_) | with_reducible exact H | (rw [hy216]; exact H) | exact H
 have Ny216 := mk_ hy216
 clear hy216
 simp only [Option.some.injEq, Prod.mk.injEq] at H
 obtain ⟨rfl, rfl⟩ := H
 go_enter Try.func89, Try.ntmps89
 go_wp2_with (first | ((with_reducible refine gate_callee (f := 109) rfl ?_); refine Short.gL (some 10) Try.func109 #[.slice A0 l0.length c0] (h := ?_); (with_reducible refine (slices_Clone_byte_byte.calls _ _ l0 t210 _ ?side1 ?side2 A4.out).mono ?_); (case side1 => repeat (first | exact HR0.out | (with_reducible refine C_alloc ?_ _) | (with_reducible refine C_drewN ?_ _) | (with_reducible refine C_drew ?_))); (case side2 => exact HC0.out); rintro e w7 ⟨v211, rfl, ho0, hb⟩; refine ⟨_, rfl, ?_⟩; have n0_ := mk_ (R_lower ho0 (below_size (Short.hB HB))); have n1_ := mk_ (below_step (Short.hB HB) hb); clear HB; revert n0_ n1_; intro HO212 HB; (try clear hb ho0)) | ((with_reducible refine gate_builtin (b := .append) (xs := #[.tmp 10, .tmp 14]) rfl ?_); at_builtin; refine R_append (Kd.int .u8) (w0 := w) w.heap.size rfl (.tmp 10) (.tmp 14) 22 5 (.int .u8 0) 1 rfl Try.underlying22 info5 rfl z5_ z3_ v211 t210 (((a1.size : Int)) % 256) [.int .u8 (((a1.size : Int)) % 256)] (fun _ => True) (fun _ => False) rfl rfl ?aP (fun _ hk => hk.elim) ?aF ?aO ?aB ?aS ?aL ?_; (case aP => exact rfl); (case aB => exact (Short.hB HB)); (case aF => exact (fun _ _ => trivial)); (case aO => exact (ZKR HO212)); (case aS => exact (below_size (Short.hB HB))); (case aL => have := LMc5.out; omega); intro v214 w8 ho hb hg hat; rw [← Ny213.out] at ho; have n0_ := mk_ (hb); have n1_ := mk_ (ho); clear HB HO212; revert n0_ n1_; intro HB HO215; clear ho hb hg hat) | (at_builtin; refine print_append_str (w0 := w) w.heap.size rfl (.tmp 15) _ 22 9 5 rfl Try.underlying22 Try.underlying9 info5 v214 y213 a1 rfl rfl ?aO ?aB ?aS ?aL ?_; (case aB => exact (Short.hB HB)); (case aO => exact (Kd.own_of_R (ZKR HO215))); (case aS => exact (below_size (Short.hB HB))); (case aL => have := LMc6.out; omega); intro v217 w9 ho0 hb hg; have ho := R_of_own (h1 := fun _ => rfl) (ok := fun _ => True) ho0 (fun _ _ => trivial); clear ho0; have hat := True.intro; rw [← Ny216.out] at ho; change Kd.R (Kd.int .u8) 5 w9 w.heap.size (fun _ => True) v217 y216 at ho; have n0_ := mk_ (hb); have n1_ := mk_ (ho); clear HB HO215; revert n0_ n1_; intro HB HO218; clear ho hb hg hat))
 go_ret2
 exact ⟨_, by first | rfl | (simp [errW_none, errW_some] <;> rfl) | (simp [*, errW_none, errW_some] <;> rfl), by (with_reducible repeat (first | apply R_alloc | apply R_drewN | apply R_drew)); exact HO218.out, Short.hB HB⟩
def value_Bytes.f (k : Nat) (a0_0 : Int) (a0_1 : Int) (a0_2 : ByteArray) : Option (List Int × Int) := (value_Check.f a0_0 a0_1 a0_2).bind fun t220 => (if t220 = 0 then ((some (([(a0_0) % 256] : List Int) : List Int)).bind fun y221 => (if a0_0 = 2 then (if y221.length < 140737488355328 then (some ((y221 ++ [(a0_1) % 256]), 0)) else (none)) else (if a0_0 = 3 then ((wire_PutInt.f k y221 a0_1).bind fun bt227 => (some (bt227.1, bt227.2))) else (if a0_0 = 4 then ((wire_PutText.f y221 a0_2).bind fun bt231 => (some (bt231.1, bt231.2))) else (some (y221, 0)))))) else (some (([] : List Int), t220)))
theorem value_Bytes.calls (k : Nat) (a0_0 : Int) (a0_1 : Int) (a0_2 : ByteArray) (r1 : List Int) (r2 : Int) (w : World) (h : value_Bytes.f k a0_0 a0_1 a0_2 = some (r1, r2)) :
  Calls Try.prog 47 #[.agg #[.int .i64 a0_0, .int .i64 a0_1, .string a0_2]] w fun e w' => ∃ v0_ : Value, e = .returned (.tuple #[v0_, .int .i64 r2]) ∧ Kd.R (Kd.int .u8) 5 w' w.heap.size (fun _ => True) v0_ r1 ∧ Below w.heap.size w w' := by
 have hu84 := Try.underlying84
 have HB := mk_ (Below.refl w.heap.size w)
 have H : ((value_Check.f a0_0 a0_1 a0_2).bind fun t220 => (if t220 = 0 then ((some (([(a0_0) % 256] : List Int) : List Int)).bind fun y221 => (if a0_0 = 2 then (if y221.length < 140737488355328 then (some ((y221 ++ [(a0_1) % 256]), 0)) else (none)) else (if a0_0 = 3 then ((wire_PutInt.f k y221 a0_1).bind fun bt227 => (some (bt227.1, bt227.2))) else (if a0_0 = 4 then ((wire_PutText.f y221 a0_2).bind fun bt231 => (some (bt231.1, bt231.2))) else (some (y221, 0)))))) else (some (([] : List Int), t220)))) = some (r1, r2) := h
 clear h
 obtain ⟨t220, A2, H⟩ := Option.bind_eq_some_iff.mp H
 replace A2 := mk_ A2
 by_cases c3 : t220 = 0
 rotate_left
 ·
  rw [if_neg c3] at H
  have c3b0 : (t220 == 0) = false := beq_eq_false_iff_ne.mpr c3
  have c3b1 : (t220 != 0) = true := bne_iff_ne.mpr c3
  simp only [Option.some.injEq, Prod.mk.injEq] at H
  obtain ⟨rfl, rfl⟩ := H
  go_enter Try.func47, Try.ntmps47
  go_wp2_with (first | ((with_reducible refine gate_dst (N := 1) rfl ?_); refine box_event ?hg (N := 1) ?hd (cs := #[.int .i64 a0_0, .int .i64 a0_1, .string a0_2]) (t := 84) ?hr ?_; (case hd => rfl); (case hg => rfl); (case hr => first | (go_simp; done) | (go_simp; rfl)); intro gb219 hg w43 hbox hb; have n0_ := mk_ (below_step (Short.hB HB) hb); have n1_ := mk_ (hbox); have n2_ := mk_ ((by rw [hg]; exact (below_size (Short.hB HB)) : w.heap.size ≤ gb219)); have n3_ := mk_ ((by rw [hg]; exact (below_size (Short.hB HB)) : w.heap.size ≤ gb219)); clear HB; revert n0_ n1_ n2_ n3_; intro HB BK219 GW219 GE219; clear hb hbox hg; obtain ⟨hcz_0, hcz_1, hcz_2, hfz_0, hfz_1, hfz_2⟩ := Short.c3 BK219.out) | ((with_reducible refine gate_callee (f := 87) rfl ?_); refine Short.gL (some 7) Try.func87 #[.agg #[.int .i64 a0_0, .int .i64 a0_1, .string a0_2]] (h := ?_); (with_reducible refine (value_Check.calls a0_0 a0_1 a0_2 t220 _ A2.out).mono ?_); rintro e w45 ⟨rfl, hb⟩; refine ⟨_, rfl, ?_⟩; have n0_ := mk_ (bB_ BK219 hb); have n1_ := mk_ (below_step (Short.hB HB) hb); clear BK219 HB; revert n0_ n1_; intro BK219 HB; (try clear hb)))
  go_ret2
  exact ⟨_, by first | rfl | (simp [errW_none, errW_some] <;> rfl) | (simp [*, errW_none, errW_some] <;> rfl), by first | exact R_nil _ _ _ _ _ | exact N_nil _ _ _ _ _ | exact V_nil _ _ _ _ _ | exact Q_nil _ _ _ _ _ | exact S_nil _ _ _ _ _, Short.hB HB⟩
 rw [if_pos c3] at H
 have c3b0 : (t220 == 0) = true := beq_iff_eq.mpr c3
 have c3b1 : (t220 != 0) = false := bne_eq_false_iff_eq.mpr c3
 clear c3
 obtain ⟨y221, hy221⟩ : ∃ y_ : List Int, y_ = (([(a0_0) % 256] : List Int)) := ⟨_, rfl⟩
 replace H : (if a0_0 = 2 then (if y221.length < 140737488355328 then (some ((y221 ++ [(a0_1) % 256]), 0)) else (none)) else (if a0_0 = 3 then ((wire_PutInt.f k y221 a0_1).bind fun bt227 => (some (bt227.1, bt227.2))) else (if a0_0 = 4 then ((wire_PutText.f y221 a0_2).bind fun bt231 => (some (bt231.1, bt231.2))) else (some (y221, 0))))) = some (r1, r2) := by first | (rw [hy221]; with_reducible exact H) | (have H2_ := (Option.bind_some _ _).symm.trans H; rw [hy221]; with_reducible exact H2_) | (have H2_ := (Option.bind_some _ _).symm.trans H; with_reducible exact H2_) | with_reducible exact H | (rw [hy221]; exact H) | exact H
 have Ny221 := mk_ hy221
 clear hy221
 by_cases c4 : a0_0 = 2
 ·
  rw [if_pos c4] at H
  have c4b0 : (a0_0 == 2) = true := beq_iff_eq.mpr c4
  have c4b1 : (a0_0 != 2) = false := bne_eq_false_iff_eq.mpr c4
  clear c4
  by_cases c5 : y221.length < 140737488355328
  rotate_left
  ·
   rw [if_neg c5] at H
   exact absurd H (by simp)
  rw [if_pos c5] at H
  have LMc5 := mk_ c5
  clear c5
  obtain ⟨y224, hy224⟩ : ∃ y_ : List Int, y_ = (y221 ++ [(a0_1) % 256]) := ⟨_, rfl⟩
  replace H : (some (y224, 0)) = some (r1, r2) := by first | (rw [hy224]; with_reducible exact H) | (have H2_ := (Option.bind_some _ _).symm.trans H; rw [hy224]; with_reducible exact H2_) | (have H2_ := (Option.bind_some _ _).symm.trans H; with_reducible exact H2_) | with_reducible exact H | (rw [hy224]; exact H) | exact H
  have Ny224 := mk_ hy224
  clear hy224
  simp only [Option.some.injEq, Prod.mk.injEq] at H
  obtain ⟨rfl, rfl⟩ := H
  go_enter Try.func47, Try.ntmps47
  go_wp2_with (first | ((with_reducible refine gate_dst (N := 1) rfl ?_); refine box_event ?hg (N := 1) ?hd (cs := #[.int .i64 a0_0, .int .i64 a0_1, .string a0_2]) (t := 84) ?hr ?_; (case hd => rfl); (case hg => rfl); (case hr => first | (go_simp; done) | (go_simp; rfl)); intro gb219 hg w6 hbox hb; have n0_ := mk_ (below_step (Short.hB HB) hb); have n1_ := mk_ (hbox); have n2_ := mk_ ((by rw [hg]; exact (below_size (Short.hB HB)) : w.heap.size ≤ gb219)); have n3_ := mk_ ((by rw [hg]; exact (below_size (Short.hB HB)) : w.heap.size ≤ gb219)); clear HB; revert n0_ n1_ n2_ n3_; intro HB BK219 GW219 GE219; clear hb hbox hg; obtain ⟨hcz_0, hcz_1, hcz_2, hfz_0, hfz_1, hfz_2⟩ := Short.c3 BK219.out) | ((with_reducible refine gate_callee (f := 87) rfl ?_); refine Short.gL (some 7) Try.func87 #[.agg #[.int .i64 a0_0, .int .i64 a0_1, .string a0_2]] (h := ?_); (with_reducible refine (value_Check.calls a0_0 a0_1 a0_2 t220 _ A2.out).mono ?_); rintro e w8 ⟨rfl, hb⟩; refine ⟨_, rfl, ?_⟩; have n0_ := mk_ (bB_ BK219 hb); have n1_ := mk_ (below_step (Short.hB HB) hb); clear BK219 HB; revert n0_ n1_; intro BK219 HB; (try clear hb); obtain ⟨hcz_0, hcz_1, hcz_2, hfz_0, hfz_1, hfz_2⟩ := Short.c3 BK219.out) | ((with_reducible refine gate_dst (N := 14) rfl ?_); refine R_lit (Kd.int .u8) _ 5 ?hg (N := 14) ?hd (xs := ([(a0_0) % 256] : List Int)) (inner := [.int .u8 ((a0_0) % 256)]) (ok := fun _ => True) (okp := fun _ => True) ?hr ?hp (fun _ hk => hk) trivial (Below.refl _ _) (Nat.le_refl _) (by simp) ?_; (case hd => rfl); (case hg => rfl); (case hr => first | (go_simp; done) | (go_simp; rfl)); (case hp => exact (Reps.one (show Kd.M (Kd.int .u8) _ _ _ ((a0_0) % 256) [.int .u8 ((a0_0) % 256)] from rfl) (Reps.none _ _))); intro v222 w10 ho11 hb hg_ hnew_; clear hg_ hnew_; (first | rw [← Ny221.out] at ho11 | (simp only [Int.reduceToNat] at ho11; rw [← Ny221.out] at ho11)); have n0_ := mk_ (R_lower ho11 (below_size (Short.hB HB))); have n1_ := mk_ (bB_ BK219 hb); have n2_ := mk_ (below_step (Short.hB HB) hb); clear BK219 HB; revert n0_ n1_ n2_; intro HO223 BK219 HB; clear hb ho11; obtain ⟨hcz_0, hcz_1, hcz_2, hfz_0, hfz_1, hfz_2⟩ := Short.c3 BK219.out) | ((with_reducible refine gate_builtin (b := .append) (xs := #[.tmp 19, .tmp 23]) rfl ?_); at_builtin; refine R_append (Kd.int .u8) (w0 := w) w.heap.size rfl (.tmp 19) (.tmp 23) 22 5 (.int .u8 0) 1 rfl Try.underlying22 info5 rfl z5_ z3_ v222 y221 ((a0_1) % 256) [.int .u8 ((a0_1) % 256)] (fun _ => True) (fun _ => False) rfl rfl ?aP (fun _ hk => hk.elim) ?aF ?aO ?aB ?aS ?aL ?_; (case aP => exact rfl); (case aB => exact (Short.hB HB)); (case aF => exact (fun _ _ => trivial)); (case aO => exact (ZKR HO223)); (case aS => exact (below_size (Short.hB HB))); (case aL => have := LMc5.out; omega); intro v225 w13 ho hb hg hat; rw [← Ny224.out] at ho; have n0_ := mk_ (blk_grown (g := gb219) (o := .cells #[.int .i64 a0_0, .int .i64 a0_1, .string a0_2] 84 (0, 0)) (Short.bK BK219) hg (R_ne HO223.out BK219.out z5_)); have n1_ := mk_ (hb); have n2_ := mk_ (ho); clear BK219 HB HO223; revert n0_ n1_ n2_; intro BK219 HB HO226; clear ho hb hg hat))
  go_ret2
  exact ⟨_, by first | rfl | (simp [errW_none, errW_some] <;> rfl) | (simp [*, errW_none, errW_some] <;> rfl), by (with_reducible repeat (first | apply R_alloc | apply R_drewN | apply R_drew)); exact HO226.out, Short.hB HB⟩
 rw [if_neg c4] at H
 have c4b0 : (a0_0 == 2) = false := beq_eq_false_iff_ne.mpr c4
 have c4b1 : (a0_0 != 2) = true := bne_iff_ne.mpr c4
 by_cases c14 : a0_0 = 3
 ·
  rw [if_pos c14] at H
  have c14b0 : (a0_0 == 3) = true := beq_iff_eq.mpr c14
  have c14b1 : (a0_0 != 3) = false := bne_eq_false_iff_eq.mpr c14
  clear c14
  obtain ⟨⟨t227, t228⟩, A15, H⟩ := Option.bind_eq_some_iff.mp H
  try dsimp only at H
  replace A15 := mk_ A15
  simp only [Option.some.injEq, Prod.mk.injEq] at H
  obtain ⟨rfl, rfl⟩ := H
  go_enter Try.func47, Try.ntmps47
  go_wp2_with (first | ((with_reducible refine gate_dst (N := 1) rfl ?_); refine box_event ?hg (N := 1) ?hd (cs := #[.int .i64 a0_0, .int .i64 a0_1, .string a0_2]) (t := 84) ?hr ?_; (case hd => rfl); (case hg => rfl); (case hr => first | (go_simp; done) | (go_simp; rfl)); intro gb219 hg w16 hbox hb; have n0_ := mk_ (below_step (Short.hB HB) hb); have n1_ := mk_ (hbox); have n2_ := mk_ ((by rw [hg]; exact (below_size (Short.hB HB)) : w.heap.size ≤ gb219)); have n3_ := mk_ ((by rw [hg]; exact (below_size (Short.hB HB)) : w.heap.size ≤ gb219)); clear HB; revert n0_ n1_ n2_ n3_; intro HB BK219 GW219 GE219; clear hb hbox hg; obtain ⟨hcz_0, hcz_1, hcz_2, hfz_0, hfz_1, hfz_2⟩ := Short.c3 BK219.out) | ((with_reducible refine gate_callee (f := 87) rfl ?_); refine Short.gL (some 7) Try.func87 #[.agg #[.int .i64 a0_0, .int .i64 a0_1, .string a0_2]] (h := ?_); (with_reducible refine (value_Check.calls a0_0 a0_1 a0_2 t220 _ A2.out).mono ?_); rintro e w18 ⟨rfl, hb⟩; refine ⟨_, rfl, ?_⟩; have n0_ := mk_ (bB_ BK219 hb); have n1_ := mk_ (below_step (Short.hB HB) hb); clear BK219 HB; revert n0_ n1_; intro BK219 HB; (try clear hb); obtain ⟨hcz_0, hcz_1, hcz_2, hfz_0, hfz_1, hfz_2⟩ := Short.c3 BK219.out) | ((with_reducible refine gate_dst (N := 14) rfl ?_); refine R_lit (Kd.int .u8) _ 5 ?hg (N := 14) ?hd (xs := ([(a0_0) % 256] : List Int)) (inner := [.int .u8 ((a0_0) % 256)]) (ok := fun _ => True) (okp := fun _ => True) ?hr ?hp (fun _ hk => hk) trivial (Below.refl _ _) (Nat.le_refl _) (by simp) ?_; (case hd => rfl); (case hg => rfl); (case hr => first | (go_simp; done) | (go_simp; rfl)); (case hp => exact (Reps.one (show Kd.M (Kd.int .u8) _ _ _ ((a0_0) % 256) [.int .u8 ((a0_0) % 256)] from rfl) (Reps.none _ _))); intro v222 w20 ho21 hb hg_ hnew_; clear hg_ hnew_; (first | rw [← Ny221.out] at ho21 | (simp only [Int.reduceToNat] at ho21; rw [← Ny221.out] at ho21)); have n0_ := mk_ (R_lower ho21 (below_size (Short.hB HB))); have n1_ := mk_ (bB_ BK219 hb); have n2_ := mk_ (below_step (Short.hB HB) hb); clear BK219 HB; revert n0_ n1_ n2_; intro HO223 BK219 HB; clear hb ho21; obtain ⟨hcz_0, hcz_1, hcz_2, hfz_0, hfz_1, hfz_2⟩ := Short.c3 BK219.out; obtain ⟨Ao23, co23, eo23⟩ := R_slice HO223.out; subst eo23) | ((with_reducible refine gate_callee (f := 88) rfl ?_); refine Short.gL (some 30) Try.func88 #[.slice Ao23 y221.length co23, .int .i64 a0_1] (h := ?_); (with_reducible refine (wire_PutInt.calls k _ _ y221 a0_1 t227 t228 _ ?side1 ?side2 A15.out).mono ?_); (case side1 => exact cX_ (R_reads' HO223.out).2.2); (case side2 => exact (R_reads' HO223.out).2.1); rintro e w24 ⟨v229, rfl, ho0, hb⟩; refine ⟨_, rfl, ?_⟩; have n0_ := mk_ (R_elder' (ZKR HO223) (R_base ho0) hb); have n1_ := mk_ (R_lower (R_new' ho0 (R_lt (ZKR HO223))) (below_size (Short.hB HB))); have n2_ := mk_ (bB_ BK219 hb); have n3_ := mk_ (below_step (Short.hB HB) hb); clear HO223 BK219 HB; revert n0_ n1_ n2_ n3_; intro HO223 HO230 BK219 HB; (try clear hb ho0)))
  go_ret2
  exact ⟨_, by first | rfl | (simp [errW_none, errW_some] <;> rfl) | (simp [*, errW_none, errW_some] <;> rfl), by (with_reducible repeat (first | apply R_alloc | apply R_drewN | apply R_drew)); exact R_mono HO230.out (fun _ hk => trivial), Short.hB HB⟩
 rw [if_neg c14] at H
 have c14b0 : (a0_0 == 3) = false := beq_eq_false_iff_ne.mpr c14
 have c14b1 : (a0_0 != 3) = true := bne_iff_ne.mpr c14
 by_cases c25 : a0_0 = 4
 rotate_left
 ·
  rw [if_neg c25] at H
  have c25b0 : (a0_0 == 4) = false := beq_eq_false_iff_ne.mpr c25
  have c25b1 : (a0_0 != 4) = true := bne_iff_ne.mpr c25
  simp only [Option.some.injEq, Prod.mk.injEq] at H
  obtain ⟨rfl, rfl⟩ := H
  go_enter Try.func47, Try.ntmps47
  go_wp2_with (first | ((with_reducible refine gate_dst (N := 1) rfl ?_); refine box_event ?hg (N := 1) ?hd (cs := #[.int .i64 a0_0, .int .i64 a0_1, .string a0_2]) (t := 84) ?hr ?_; (case hd => rfl); (case hg => rfl); (case hr => first | (go_simp; done) | (go_simp; rfl)); intro gb219 hg w36 hbox hb; have n0_ := mk_ (below_step (Short.hB HB) hb); have n1_ := mk_ (hbox); have n2_ := mk_ ((by rw [hg]; exact (below_size (Short.hB HB)) : w.heap.size ≤ gb219)); have n3_ := mk_ ((by rw [hg]; exact (below_size (Short.hB HB)) : w.heap.size ≤ gb219)); clear HB; revert n0_ n1_ n2_ n3_; intro HB BK219 GW219 GE219; clear hb hbox hg; obtain ⟨hcz_0, hcz_1, hcz_2, hfz_0, hfz_1, hfz_2⟩ := Short.c3 BK219.out) | ((with_reducible refine gate_callee (f := 87) rfl ?_); refine Short.gL (some 7) Try.func87 #[.agg #[.int .i64 a0_0, .int .i64 a0_1, .string a0_2]] (h := ?_); (with_reducible refine (value_Check.calls a0_0 a0_1 a0_2 t220 _ A2.out).mono ?_); rintro e w38 ⟨rfl, hb⟩; refine ⟨_, rfl, ?_⟩; have n0_ := mk_ (bB_ BK219 hb); have n1_ := mk_ (below_step (Short.hB HB) hb); clear BK219 HB; revert n0_ n1_; intro BK219 HB; (try clear hb); obtain ⟨hcz_0, hcz_1, hcz_2, hfz_0, hfz_1, hfz_2⟩ := Short.c3 BK219.out) | ((with_reducible refine gate_dst (N := 14) rfl ?_); refine R_lit (Kd.int .u8) _ 5 ?hg (N := 14) ?hd (xs := ([(a0_0) % 256] : List Int)) (inner := [.int .u8 ((a0_0) % 256)]) (ok := fun _ => True) (okp := fun _ => True) ?hr ?hp (fun _ hk => hk) trivial (Below.refl _ _) (Nat.le_refl _) (by simp) ?_; (case hd => rfl); (case hg => rfl); (case hr => first | (go_simp; done) | (go_simp; rfl)); (case hp => exact (Reps.one (show Kd.M (Kd.int .u8) _ _ _ ((a0_0) % 256) [.int .u8 ((a0_0) % 256)] from rfl) (Reps.none _ _))); intro v222 w40 ho41 hb hg_ hnew_; clear hg_ hnew_; (first | rw [← Ny221.out] at ho41 | (simp only [Int.reduceToNat] at ho41; rw [← Ny221.out] at ho41)); have n0_ := mk_ (R_lower ho41 (below_size (Short.hB HB))); have n1_ := mk_ (bB_ BK219 hb); have n2_ := mk_ (below_step (Short.hB HB) hb); clear BK219 HB; revert n0_ n1_ n2_; intro HO223 BK219 HB; clear hb ho41; obtain ⟨hcz_0, hcz_1, hcz_2, hfz_0, hfz_1, hfz_2⟩ := Short.c3 BK219.out))
  go_ret2
  exact ⟨_, by first | rfl | (simp [errW_none, errW_some] <;> rfl) | (simp [*, errW_none, errW_some] <;> rfl), by (with_reducible repeat (first | apply R_alloc | apply R_drewN | apply R_drew)); exact HO223.out, Short.hB HB⟩
 rw [if_pos c25] at H
 have c25b0 : (a0_0 == 4) = true := beq_iff_eq.mpr c25
 have c25b1 : (a0_0 != 4) = false := bne_eq_false_iff_eq.mpr c25
 clear c25
 obtain ⟨⟨t231, t232⟩, A26, H⟩ := Option.bind_eq_some_iff.mp H
 try dsimp only at H
 replace A26 := mk_ A26
 simp only [Option.some.injEq, Prod.mk.injEq] at H
 obtain ⟨rfl, rfl⟩ := H
 go_enter Try.func47, Try.ntmps47
 go_wp2_with (first | ((with_reducible refine gate_dst (N := 1) rfl ?_); refine box_event ?hg (N := 1) ?hd (cs := #[.int .i64 a0_0, .int .i64 a0_1, .string a0_2]) (t := 84) ?hr ?_; (case hd => rfl); (case hg => rfl); (case hr => first | (go_simp; done) | (go_simp; rfl)); intro gb219 hg w27 hbox hb; have n0_ := mk_ (below_step (Short.hB HB) hb); have n1_ := mk_ (hbox); have n2_ := mk_ ((by rw [hg]; exact (below_size (Short.hB HB)) : w.heap.size ≤ gb219)); have n3_ := mk_ ((by rw [hg]; exact (below_size (Short.hB HB)) : w.heap.size ≤ gb219)); clear HB; revert n0_ n1_ n2_ n3_; intro HB BK219 GW219 GE219; clear hb hbox hg; obtain ⟨hcz_0, hcz_1, hcz_2, hfz_0, hfz_1, hfz_2⟩ := Short.c3 BK219.out) | ((with_reducible refine gate_callee (f := 87) rfl ?_); refine Short.gL (some 7) Try.func87 #[.agg #[.int .i64 a0_0, .int .i64 a0_1, .string a0_2]] (h := ?_); (with_reducible refine (value_Check.calls a0_0 a0_1 a0_2 t220 _ A2.out).mono ?_); rintro e w29 ⟨rfl, hb⟩; refine ⟨_, rfl, ?_⟩; have n0_ := mk_ (bB_ BK219 hb); have n1_ := mk_ (below_step (Short.hB HB) hb); clear BK219 HB; revert n0_ n1_; intro BK219 HB; (try clear hb); obtain ⟨hcz_0, hcz_1, hcz_2, hfz_0, hfz_1, hfz_2⟩ := Short.c3 BK219.out) | ((with_reducible refine gate_dst (N := 14) rfl ?_); refine R_lit (Kd.int .u8) _ 5 ?hg (N := 14) ?hd (xs := ([(a0_0) % 256] : List Int)) (inner := [.int .u8 ((a0_0) % 256)]) (ok := fun _ => True) (okp := fun _ => True) ?hr ?hp (fun _ hk => hk) trivial (Below.refl _ _) (Nat.le_refl _) (by simp) ?_; (case hd => rfl); (case hg => rfl); (case hr => first | (go_simp; done) | (go_simp; rfl)); (case hp => exact (Reps.one (show Kd.M (Kd.int .u8) _ _ _ ((a0_0) % 256) [.int .u8 ((a0_0) % 256)] from rfl) (Reps.none _ _))); intro v222 w31 ho32 hb hg_ hnew_; clear hg_ hnew_; (first | rw [← Ny221.out] at ho32 | (simp only [Int.reduceToNat] at ho32; rw [← Ny221.out] at ho32)); have n0_ := mk_ (R_lower ho32 (below_size (Short.hB HB))); have n1_ := mk_ (bB_ BK219 hb); have n2_ := mk_ (below_step (Short.hB HB) hb); clear BK219 HB; revert n0_ n1_ n2_; intro HO223 BK219 HB; clear hb ho32; obtain ⟨hcz_0, hcz_1, hcz_2, hfz_0, hfz_1, hfz_2⟩ := Short.c3 BK219.out; obtain ⟨Ao34, co34, eo34⟩ := R_slice HO223.out; subst eo34) | ((with_reducible refine gate_callee (f := 89) rfl ?_); refine Short.gL (some 38) Try.func89 #[.slice Ao34 y221.length co34, .string a0_2] (h := ?_); (with_reducible refine (wire_PutText.calls _ _ y221 a0_2 t231 t232 _ ?side1 ?side2 A26.out).mono ?_); (case side1 => exact cX_ (R_reads' HO223.out).2.2); (case side2 => exact (R_reads' HO223.out).2.1); rintro e w35 ⟨v233, rfl, ho0, hb⟩; refine ⟨_, rfl, ?_⟩; have n0_ := mk_ (R_elder' (ZKR HO223) (R_base ho0) hb); have n1_ := mk_ (R_lower (R_new' ho0 (R_lt (ZKR HO223))) (below_size (Short.hB HB))); have n2_ := mk_ (bB_ BK219 hb); have n3_ := mk_ (below_step (Short.hB HB) hb); clear HO223 BK219 HB; revert n0_ n1_ n2_ n3_; intro HO223 HO234 BK219 HB; (try clear hb ho0)))
 go_ret2
 exact ⟨_, by first | rfl | (simp [errW_none, errW_some] <;> rfl) | (simp [*, errW_none, errW_some] <;> rfl), by (with_reducible repeat (first | apply R_alloc | apply R_drewN | apply R_drew)); exact R_mono HO234.out (fun _ hk => trivial), Short.hB HB⟩
def row_Bytes.l0 : Nat → List Int → List (S84) → Int → Int → Option (List Int × Int)
 | 0, _, _, _, _ => none
 | k + 1, x5, x19, x20, x21 => if x21 < x20 then (if 0 ≤ x21 then (if x21 < (x19.length : Int) then ((value_Bytes.f k ((rd_T84 x19 x21).f0) ((rd_T84 x19 x21).f1) ((rd_T84 x19 x21).f2)).bind fun bt241 => (if x5.length + bt241.1.length < 140737488355328 then (row_Bytes.l0 k (x5 ++ bt241.1) x19 x20 (wrap64 (x21 + 1))) else (none))) else (none)) else (none)) else (some (x5, 0))
def row_Bytes.f (k : Nat) (l0 : List (S84)) : Option (List Int × Int) := (row_Check.f k l0).bind fun t235 => (if t235 = 0 then (row_Bytes.l0 k (([((l0.length : Int)) % 256] : List Int)) l0 (l0.length : Int) 0) else (some (([] : List Int), t235)))
theorem row_Bytes.calls (k : Nat) (A0 : Option Addr) (c0 : Nat) (l0 : List (S84)) (r1 : List Int) (r2 : Int) (w : World) (hr0 : Kd.C k84 w A0 l0.length l0) (hc0 : l0.length ≤ c0) (h : row_Bytes.f k l0 = some (r1, r2)) :
  Calls Try.prog 23 #[.slice A0 l0.length c0] w fun e w' => ∃ v0_ : Value, e = .returned (.tuple #[v0_, .int .i64 r2]) ∧ Kd.R (Kd.int .u8) 5 w' w.heap.size (fun _ => True) v0_ r1 ∧ Below w.heap.size w w' := by
 have hu84 := Try.underlying84
 have HR0 := mk_ hr0
 have HC0 := mk_ hc0
 clear hr0 hc0
 have HB := mk_ (Below.refl w.heap.size w)
 have H : ((row_Check.f k l0).bind fun t235 => (if t235 = 0 then (row_Bytes.l0 k (([((l0.length : Int)) % 256] : List Int)) l0 (l0.length : Int) 0) else (some (([] : List Int), t235)))) = some (r1, r2) := h
 clear h
 obtain ⟨t235, A2, H⟩ := Option.bind_eq_some_iff.mp H
 replace A2 := mk_ A2
 by_cases c3 : t235 = 0
 rotate_left
 ·
  rw [if_neg c3] at H
  have c3b0 : (t235 == 0) = false := beq_eq_false_iff_ne.mpr c3
  have c3b1 : (t235 != 0) = true := bne_iff_ne.mpr c3
  simp only [Option.some.injEq, Prod.mk.injEq] at H
  obtain ⟨rfl, rfl⟩ := H
  go_enter Try.func23, Try.ntmps23
  go_wp2_with (first | ((with_reducible refine gate_callee (f := 46) rfl ?_); refine Short.gL (some 11) Try.func46 #[.slice A0 l0.length c0] (h := ?_); (with_reducible refine (row_Check.calls k _ _ l0 t235 _ ?side1 ?side2 A2.out).mono ?_); (case side1 => repeat (first | exact HR0.out | (with_reducible refine C_alloc ?_ _) | (with_reducible refine C_drewN ?_ _) | (with_reducible refine C_drew ?_))); (case side2 => exact HC0.out); rintro e w17 ⟨rfl, hb⟩; refine ⟨_, rfl, ?_⟩; have n0_ := mk_ (below_step (Short.hB HB) hb); clear HB; revert n0_; intro HB; (try clear hb)))
  go_ret2
  exact ⟨_, by first | rfl | (simp [errW_none, errW_some] <;> rfl) | (simp [*, errW_none, errW_some] <;> rfl), by first | exact R_nil _ _ _ _ _ | exact N_nil _ _ _ _ _ | exact V_nil _ _ _ _ _ | exact Q_nil _ _ _ _ _ | exact S_nil _ _ _ _ _, Short.hB HB⟩
 rw [if_pos c3] at H
 have c3b0 : (t235 == 0) = true := beq_iff_eq.mpr c3
 have c3b1 : (t235 != 0) = false := bne_eq_false_iff_eq.mpr c3
 clear c3
 obtain ⟨y236, hy236⟩ : ∃ y_ : List Int, y_ = (([((l0.length : Int)) % 256] : List Int)) := ⟨_, rfl⟩
 replace H : (row_Bytes.l0 k y236 l0 (l0.length : Int) 0) = some (r1, r2) := by first | (rw [hy236]; with_reducible exact H) | (have H2_ := (Option.bind_some _ _).symm.trans H; rw [hy236]; with_reducible exact H2_) | (have H2_ := (Option.bind_some _ _).symm.trans H; with_reducible exact H2_) | with_reducible exact H | (rw [hy236]; exact H) | exact H
 have Ny236 := mk_ hy236
 clear hy236
 have H' := mk_ H
 clear H
 go_enter Try.func23, Try.ntmps23
 go_wp2_with (first | ((with_reducible refine gate_callee (f := 46) rfl ?_); refine Short.gL (some 11) Try.func46 #[.slice A0 l0.length c0] (h := ?_); (with_reducible refine (row_Check.calls k _ _ l0 t235 _ ?side1 ?side2 A2.out).mono ?_); (case side1 => repeat (first | exact HR0.out | (with_reducible refine C_alloc ?_ _) | (with_reducible refine C_drewN ?_ _) | (with_reducible refine C_drew ?_))); (case side2 => exact HC0.out); rintro e w4 ⟨rfl, hb⟩; refine ⟨_, rfl, ?_⟩; have n0_ := mk_ (below_step (Short.hB HB) hb); clear HB; revert n0_; intro HB; (try clear hb)) | ((with_reducible refine gate_dst (N := 18) rfl ?_); refine R_lit (Kd.int .u8) _ 5 ?hg (N := 18) ?hd (xs := ([((l0.length : Int)) % 256] : List Int)) (inner := [.int .u8 (((l0.length : Int)) % 256)]) (ok := fun _ => True) (okp := fun _ => True) ?hr ?hp (fun _ hk => hk) trivial (Below.refl _ _) (Nat.le_refl _) (by simp) ?_; (case hd => rfl); (case hg => rfl); (case hr => first | (go_simp; done) | (go_simp; rfl)); (case hp => exact (Reps.one (show Kd.M (Kd.int .u8) _ _ _ (((l0.length : Int)) % 256) [.int .u8 (((l0.length : Int)) % 256)] from rfl) (Reps.none _ _))); intro v237 w5 ho6 hb hg_ hnew_; clear hg_ hnew_; (first | rw [← Ny236.out] at ho6 | (simp only [Int.reduceToNat] at ho6; rw [← Ny236.out] at ho6)); have n0_ := mk_ (R_lower ho6 (below_size (Short.hB HB))); have n1_ := mk_ (below_step (Short.hB HB) hb); clear HB; revert n0_ n1_; intro HO238 HB; clear hb ho6))
 go_loopg [5, 21] k (fun kq v5 v21 w' => ∃ (x5_1 : List Int) (x21_1 : Int), v21 = .int .i64 x21_1 ∧ Aside0 (row_Bytes.l0 kq x5_1 l0 (l0.length : Int) x21_1 = some (r1, r2)) ∧ Aside0 (kq ≤ k) ∧ Aside0 (Kd.R (Kd.int .u8) 5 w' w.heap.size (fun _ => True) v5 x5_1) ∧ Aside0 (Below w.heap.size w w'))
 case atStart => exact ⟨(y236), (0), z4_, H', ⟨Nat.le_refl _⟩, ⟨by (with_reducible repeat (first | apply R_alloc | apply R_drewN | apply R_drew)); exact HO238.out⟩, ⟨Short.hB HB⟩⟩
 case round =>
  clear H'
  try clear c2
  try clear p2
  try clear c3
  try clear c3b0
  try clear c3b1
  try clear c4
  obtain ⟨x5_1, x21_1, rfl, HA, HK1, HO_5, HB⟩ := hrel
  cases gk with
  | zero => exact absurd HA.out (by simp [row_Bytes.l0])
  | succ k1 =>
   have H := HA.out
   clear HA
   simp only [row_Bytes.l0] at H
   by_cases c7 : x21_1 < (l0.length : Int)
   rotate_left
   ·
    rw [if_neg c7] at H
    have c7b0 : decide (x21_1 < (l0.length : Int)) = false := decide_eq_false c7
    clear c7
    simp only [Option.some.injEq, Prod.mk.injEq] at H
    obtain ⟨rfl, rfl⟩ := H
    go_wp2
    go_ret2
    exact ⟨_, by first | rfl | (simp [errW_none, errW_some] <;> rfl) | (simp [*, errW_none, errW_some] <;> rfl), by (with_reducible repeat (first | apply R_alloc | apply R_drewN | apply R_drew)); exact HO_5.out, Short.hB HB⟩
   rw [if_pos c7] at H
   have c7b0 : decide (x21_1 < (l0.length : Int)) = true := decide_eq_true c7
   clear c7
   by_cases c8 : 0 ≤ x21_1
   rotate_left
   ·
    rw [if_neg c8] at H
    exact absurd H (by simp)
   rw [if_pos c8] at H
   have c8b0 : decide (0 ≤ x21_1) = true := decide_eq_true c8
   clear c8
   by_cases c9 : x21_1 < (l0.length : Int)
   rotate_left
   ·
    rw [if_neg c9] at H
    exact absurd H (by simp)
   rw [if_pos c9] at H
   have c9b0 : decide (x21_1 < (l0.length : Int)) = true := decide_eq_true c9
   clear c9
   obtain ⟨⟨t241, t244⟩, A10, H⟩ := Option.bind_eq_some_iff.mp H
   try dsimp only at H
   replace A10 := mk_ A10
   by_cases c11 : x5_1.length + t241.length < 140737488355328
   rotate_left
   ·
    rw [if_neg c11] at H
    exact absurd H (by simp)
   rw [if_pos c11] at H
   have LMc11 := mk_ c11
   clear c11
   obtain ⟨y245, hy245⟩ : ∃ y_ : List Int, y_ = (x5_1 ++ t241) := ⟨_, rfl⟩
   replace H : (row_Bytes.l0 k1 y245 l0 (l0.length : Int) (wrap64 (x21_1 + 1))) = some (r1, r2) := by first | (rw [hy245]; with_reducible exact H) | (have H2_ := (Option.bind_some _ _).symm.trans H; rw [hy245]; with_reducible exact H2_) | (have H2_ := (Option.bind_some _ _).symm.trans H; with_reducible exact H2_) | with_reducible exact H | (rw [hy245]; exact H) | exact H
   have Ny245 := mk_ hy245
   clear hy245
   have H' := mk_ H
   clear H
   have p239 : 0 ≤ (x21_1 : Int) := of_decide_eq_true z1_
   have q239 : x21_1 < (l0.length : Int) := of_decide_eq_true z1_
   obtain ⟨ad239, e239, hx239_0, hx239_1, hx239_2⟩ := at_T84 HR0.out x21_1 p239 q239
   cases e239
   replace hx239_0 := up_ HB hx239_0
   replace hx239_1 := up_ HB hx239_1
   replace hx239_2 := up_ HB hx239_2
   replace p239 := eq_true p239
   replace q239 := eq_true q239
   go_wp2_with (first | ((with_reducible refine gate_dst (N := 7) rfl ?_); refine box_event ?hg (N := 7) ?hd (cs := #[.int .i64 0, .int .i64 0, .string (⟨#[]⟩ : ByteArray)]) (t := 84) ?hr ?_; (case hd => rfl); (case hg => rfl); (case hr => first | (go_simp; done) | (go_simp; rfl)); intro gb240 hg w12 hbox hb; have n0_ := mk_ (R_below (ZKR HO_5) hb); have n1_ := mk_ (below_step (Short.hB HB) hb); have n2_ := mk_ (hbox); have n3_ := mk_ ((by rw [hg]; exact (below_size (Short.hB HB)) : w.heap.size ≤ gb240)); have n4_ := mk_ ((by rw [hg]; exact (below_size (Short.hB HB)) : w.heap.size ≤ gb240)); clear HO_5 HB; revert n0_ n1_ n2_ n3_ n4_; intro HO_5 HB BK240 GW240 GE240; clear hb hbox hg; obtain ⟨hcz_0, hcz_1, hcz_2, hfz_0, hfz_1, hfz_2⟩ := Short.c3 BK240.out) | ((with_reducible refine gate_callee (f := 47) rfl ?_); refine Short.gL (some 27) Try.func47 #[.agg #[.int .i64 ((rd_T84 l0 x21_1).f0), .int .i64 ((rd_T84 l0 x21_1).f1), .string ((rd_T84 l0 x21_1).f2)]] (h := ?_); (with_reducible refine (value_Bytes.calls k1 ((rd_T84 l0 x21_1).f0) ((rd_T84 l0 x21_1).f1) ((rd_T84 l0 x21_1).f2) t241 t244 _ A10.out).mono ?_); rintro e w14 ⟨v242, rfl, ho0, hb⟩; refine ⟨_, rfl, ?_⟩; have n0_ := mk_ (R_elder' (by (with_reducible repeat (first | apply R_alloc | apply R_drewN | apply R_drew)); exact (R_mono (R_far (p := ⟨gb240, 2, none⟩) (R_far (p := ⟨gb240, 1, none⟩) (R_far (p := ⟨gb240, 0, none⟩) (R_types HO_5.out BK240.out z5_) (fun _ hk => hk.2) (.int .i64 ((rd_T84 l0 x21_1).f0))) (fun _ hk => hk.2) (.int .i64 ((rd_T84 l0 x21_1).f1))) (fun _ hk => hk.2) (.string ((rd_T84 l0 x21_1).f2))) (fun _ h_ => h_.1))) (R_base ho0) hb); have n1_ := mk_ (R_lower (R_new' ho0 (R_lt (by (with_reducible repeat (first | apply R_alloc | apply R_drewN | apply R_drew)); exact (R_mono (R_far (p := ⟨gb240, 2, none⟩) (R_far (p := ⟨gb240, 1, none⟩) (R_far (p := ⟨gb240, 0, none⟩) (R_types HO_5.out BK240.out z5_) (fun _ hk => hk.2) (.int .i64 ((rd_T84 l0 x21_1).f0))) (fun _ hk => hk.2) (.int .i64 ((rd_T84 l0 x21_1).f1))) (fun _ hk => hk.2) (.string ((rd_T84 l0 x21_1).f2))) (fun _ h_ => h_.1))))) (below_size (Short.hB HB))); have n2_ := mk_ (blk_below (g := gb240) (o := .cells #[.int .i64 ((rd_T84 l0 x21_1).f0), .int .i64 ((rd_T84 l0 x21_1).f1), .string ((rd_T84 l0 x21_1).f2)] 84 (0, 0)) (by (with_reducible repeat (first | refine blk_drewN ?_ _ | refine blk_drew ?_ | refine blk_alloc ?_ _)); refine blk_put (cs := #[.int .i64 ((rd_T84 l0 x21_1).f0), .int .i64 ((rd_T84 l0 x21_1).f1), .string (⟨#[]⟩ : ByteArray)]) ?_ 2 _ rfl; (with_reducible repeat (first | refine blk_drewN ?_ _ | refine blk_drew ?_ | refine blk_alloc ?_ _)); refine blk_put (cs := #[.int .i64 ((rd_T84 l0 x21_1).f0), .int .i64 0, .string (⟨#[]⟩ : ByteArray)]) ?_ 1 _ rfl; (with_reducible repeat (first | refine blk_drewN ?_ _ | refine blk_drew ?_ | refine blk_alloc ?_ _)); refine blk_put (cs := #[.int .i64 0, .int .i64 0, .string (⟨#[]⟩ : ByteArray)]) ?_ 0 _ rfl; (with_reducible repeat (first | refine blk_drewN ?_ _ | refine blk_drew ?_ | refine blk_alloc ?_ _)); exact BK240.out) hb); have n3_ := mk_ (below_step (Short.hB HB) hb); clear HO_5 BK240 HB; revert n0_ n1_ n2_ n3_; intro HO_5 HO243 BK240 HB; (try clear hb ho0); obtain ⟨Ao16, co16, eo16⟩ := R_slice HO243.out; subst eo16) | ((with_reducible refine gate_builtin (b := .append) (xs := #[.tmp 30, .tmp 31]) rfl ?_); at_builtin; refine R_append_rows (Kd.int .u8) (w0 := w) w.heap.size rfl (.tmp 30) (.tmp 31) 22 5 (.int .u8 0) 1 rfl Try.underlying22 info5 rfl z5_ z3_ u5 x5_1 t241 _ _ _ (fun k_ => nb_ k_ (.slice Ao16 t241.length co16)) (fun _ => False) rfl rfl ?aO ?aR (fun _ _ h => h) (fun _ h => h.elim) ?aF ?aB ?aS ?aL ?_; (case aR => exact cX_ (R_reads' HO243.out).2.2); (case aB => exact (Short.hB HB)); (case aF => exact (fun k_ hk => Kd.fresh' (R_lt (ZKR HO243)) k_ hk)); (case aO => exact (rM_ HO_5 (fun _ hk => hk.2))); (case aS => exact (below_size (Short.hB HB))); (case aL => have := LMc11.out; omega); intro v246 w15 ho hb hg hat; rw [← Ny245.out] at ho; have n0_ := mk_ (blk_grown (g := gb240) (o := .cells #[.int .i64 ((rd_T84 l0 x21_1).f0), .int .i64 ((rd_T84 l0 x21_1).f1), .string ((rd_T84 l0 x21_1).f2)] 84 (0, 0)) (Short.bK BK240) hg (R_ne HO_5.out BK240.out z5_)); have n1_ := mk_ (R_after (ok := (fun _ => True)) (ZKR HO243) hg hat); have n2_ := mk_ (hb); have n3_ := mk_ (ho); clear BK240 HO243 HB HO_5; revert n0_ n1_ n2_ n3_; intro BK240 HO243 HB HO247; clear ho hb hg hat))
   go_roundg k1
   case measure => have := HK1.out; omega
   case rel => exact ⟨(y245), (wrap64 (x21_1 + 1)), z4_, H', ⟨by have := HK1.out; omega⟩, ⟨by (with_reducible repeat (first | apply R_alloc | apply R_drewN | apply R_drew)); exact R_mono HO247.out (fun _ hk => trivial)⟩, ⟨Short.hB HB⟩⟩
def wire_Put.f (k : Nat) (l0 : List Int) (a1 : Int) (a2 : Int) : Option (List Int × Int) := if a2 < 1 then (some (([] : List Int), 1)) else (if a2 > 7 then (some (([] : List Int), 1)) else (if a1 < 0 then (some (([] : List Int), 1)) else (if 0 ≤ (wrap64 (8 * a2)) then (if a1 ≥ (shl .i64 1 (wrap64 (8 * a2))) then (some (([] : List Int), 1)) else ((wire_big.f k l0 a1 a2).bind fun t248 => (some (t248, 0)))) else (none))))
theorem wire_Put.calls (k : Nat) (A0 : Option Addr) (c0 : Nat) (l0 : List Int) (a1 : Int) (a2 : Int) (r1 : List Int) (r2 : Int) (w : World) (hr0 : Kd.C (Kd.int .u8) w A0 l0.length l0) (hc0 : l0.length ≤ c0) (h : wire_Put.f k l0 a1 a2 = some (r1, r2)) :
  Calls Try.prog 98 #[.slice A0 l0.length c0, .int .i64 a1, .int .i64 a2] w fun e w' => ∃ v0_ : Value, e = .returned (.tuple #[v0_, .int .i64 r2]) ∧ Kd.R (Kd.int .u8) 5 w' w.heap.size (fun _ => True) v0_ r1 ∧ Below w.heap.size w w' := by
 have HR0 := mk_ hr0
 have HC0 := mk_ hc0
 clear hr0 hc0
 have HB := mk_ (Below.refl w.heap.size w)
 have H : (if a2 < 1 then (some (([] : List Int), 1)) else (if a2 > 7 then (some (([] : List Int), 1)) else (if a1 < 0 then (some (([] : List Int), 1)) else (if 0 ≤ (wrap64 (8 * a2)) then (if a1 ≥ (shl .i64 1 (wrap64 (8 * a2))) then (some (([] : List Int), 1)) else ((wire_big.f k l0 a1 a2).bind fun t248 => (some (t248, 0)))) else (none))))) = some (r1, r2) := h
 clear h
 by_cases c4 : a2 < 1
 ·
  rw [if_pos c4] at H
  have c4b0 : decide (a2 < 1) = true := decide_eq_true c4
  clear c4
  simp only [Option.some.injEq, Prod.mk.injEq] at H
  obtain ⟨rfl, rfl⟩ := H
  go_enter Try.func98, Try.ntmps98
  go_wp2
  go_ret2
  exact ⟨_, by first | rfl | (simp [errW_none, errW_some] <;> rfl) | (simp [*, errW_none, errW_some] <;> rfl), by first | exact R_nil _ _ _ _ _ | exact N_nil _ _ _ _ _ | exact V_nil _ _ _ _ _ | exact Q_nil _ _ _ _ _ | exact S_nil _ _ _ _ _, Short.hB HB⟩
 rw [if_neg c4] at H
 have c4b0 : decide (a2 < 1) = false := decide_eq_false c4
 clear c4
 by_cases c5 : a2 > 7
 ·
  rw [if_pos c5] at H
  have c5b0 : decide (7 < a2) = true := decide_eq_true c5
  clear c5
  simp only [Option.some.injEq, Prod.mk.injEq] at H
  obtain ⟨rfl, rfl⟩ := H
  go_enter Try.func98, Try.ntmps98
  go_wp2
  go_ret2
  exact ⟨_, by first | rfl | (simp [errW_none, errW_some] <;> rfl) | (simp [*, errW_none, errW_some] <;> rfl), by first | exact R_nil _ _ _ _ _ | exact N_nil _ _ _ _ _ | exact V_nil _ _ _ _ _ | exact Q_nil _ _ _ _ _ | exact S_nil _ _ _ _ _, Short.hB HB⟩
 rw [if_neg c5] at H
 have c5b0 : decide (7 < a2) = false := decide_eq_false c5
 clear c5
 by_cases c6 : a1 < 0
 ·
  rw [if_pos c6] at H
  have c6b0 : decide (a1 < 0) = true := decide_eq_true c6
  clear c6
  simp only [Option.some.injEq, Prod.mk.injEq] at H
  obtain ⟨rfl, rfl⟩ := H
  go_enter Try.func98, Try.ntmps98
  go_wp2
  go_ret2
  exact ⟨_, by first | rfl | (simp [errW_none, errW_some] <;> rfl) | (simp [*, errW_none, errW_some] <;> rfl), by first | exact R_nil _ _ _ _ _ | exact N_nil _ _ _ _ _ | exact V_nil _ _ _ _ _ | exact Q_nil _ _ _ _ _ | exact S_nil _ _ _ _ _, Short.hB HB⟩
 rw [if_neg c6] at H
 have c6b0 : decide (a1 < 0) = false := decide_eq_false c6
 clear c6
 obtain ⟨ji7, hji7⟩ : ∃ j_ : Int, (wrap64 (8 * a2)) = j_ := ⟨_, rfl⟩
 replace H : (if 0 ≤ (ji7) then (if a1 ≥ (shl .i64 1 (ji7)) then (some (([] : List Int), 1)) else ((wire_big.f k l0 a1 a2).bind fun t248 => (some (t248, 0)))) else (none)) = some (r1, r2) := by first | (rw [hji7] at H; exact H) | (simp only [hji7] at H ⊢; exact H)
 have hji7w : (IntKind.i64.wrap (8 * a2)) = ji7 := (i64_w _).trans hji7
 by_cases c8 : 0 ≤ (ji7)
 rotate_left
 ·
  rw [if_neg c8] at H
  exact absurd H (by simp)
 rw [if_pos c8] at H
 have c8b0 := eq_true c8
 have c8b1 : decide (0 ≤ (ji7)) = true := decide_eq_true c8
 clear c8
 obtain ⟨ji9, hji9⟩ : ∃ j_ : Int, (shl .i64 1 (ji7)) = j_ := ⟨_, rfl⟩
 replace H : (if a1 ≥ (ji9) then (some (([] : List Int), 1)) else ((wire_big.f k l0 a1 a2).bind fun t248 => (some (t248, 0)))) = some (r1, r2) := by first | (rw [hji9] at H; exact H) | (simp only [hji9] at H ⊢; exact H)
 have hji9_ : (IntKind.i64.wrap (1 * 2 ^ min (ji7).toNat 64)) = ji9 := hji9
 have hji9z : (ji7) ≤ 64 → (IntKind.i64.wrap (1 * 2 ^ (ji7).toNat)) = ji9 := shl_small hji9
 have hji9u : (IntKind.i64.wrap (2 ^ min (ji7).toNat 64)) = ji9 := by have h_ := hji9_; rw [Int.one_mul] at h_; exact h_
 have hji9v : (ji7) ≤ 64 → (IntKind.i64.wrap (2 ^ (ji7).toNat)) = ji9 := fun hle_ => by have h_ := hji9z hle_; rw [Int.one_mul] at h_; exact h_
 have hji9y : (wrap64 (1 * 2 ^ min (ji7).toNat 64)) = ji9 := (i64_w _).symm.trans hji9_
 have hji9x : (ji7) ≤ 64 → (wrap64 (1 * 2 ^ (ji7).toNat)) = ji9 := fun h_ => (i64_w _).symm.trans (hji9z h_)
 by_cases c10 : a1 ≥ (ji9)
 ·
  rw [if_pos c10] at H
  have c10b0 : decide ((ji9) ≤ a1) = true := decide_eq_true c10
  clear c10
  simp only [Option.some.injEq, Prod.mk.injEq] at H
  obtain ⟨rfl, rfl⟩ := H
  go_enter Try.func98, Try.ntmps98
  go_wp2
  go_ret2
  exact ⟨_, by first | rfl | (simp [errW_none, errW_some] <;> rfl) | (simp only [← hji7, ← hji9]; first | rfl | (simp [errW_none, errW_some] <;> rfl)) | (simp [*, errW_none, errW_some] <;> rfl), by first | exact R_nil _ _ _ _ _ | exact N_nil _ _ _ _ _ | exact V_nil _ _ _ _ _ | exact Q_nil _ _ _ _ _ | exact S_nil _ _ _ _ _, Short.hB HB⟩
 rw [if_neg c10] at H
 have c10b0 : decide ((ji9) ≤ a1) = false := decide_eq_false c10
 clear c10
 obtain ⟨t248, A11, H⟩ := Option.bind_eq_some_iff.mp H
 replace A11 := mk_ A11
 simp only [Option.some.injEq, Prod.mk.injEq] at H
 obtain ⟨rfl, rfl⟩ := H
 go_enter Try.func98, Try.ntmps98
 go_wp2_with (first | ((with_reducible refine gate_callee (f := 108) rfl ?_); refine Short.gL (some 28) Try.func108 #[.slice A0 l0.length c0, .int .i64 a1, .int .i64 a2] (h := ?_); (with_reducible refine (wire_big.calls k _ _ l0 a1 a2 t248 _ ?side1 ?side2 A11.out).mono ?_); (case side1 => repeat (first | exact HR0.out | (with_reducible refine C_alloc ?_ _) | (with_reducible refine C_drewN ?_ _) | (with_reducible refine C_drew ?_))); (case side2 => exact HC0.out); rintro e w12 ⟨v249, rfl, ho0, hb⟩; refine ⟨_, rfl, ?_⟩; have n0_ := mk_ (R_lower ho0 (below_size (Short.hB HB))); have n1_ := mk_ (below_step (Short.hB HB) hb); clear HB; revert n0_ n1_; intro HO250 HB; (try clear hb ho0)))
 go_ret2
 exact ⟨_, by first | rfl | (simp [errW_none, errW_some] <;> rfl) | (simp only [← hji7, ← hji9]; first | rfl | (simp [errW_none, errW_some] <;> rfl)) | (simp [*, errW_none, errW_some] <;> rfl), by (with_reducible repeat (first | apply R_alloc | apply R_drewN | apply R_drew)); exact HO250.out, Short.hB HB⟩
def op_Forms_1.f (l0_0 : List Int) : Option (Bool) := if (l0_0.length : Int) < 1 then (some true) else (some (decide ((l0_0.length : Int) > 4)))
theorem op_Forms_1.calls (A0_0 : Option Addr) (c0_0 : Nat) (l0_0 : List Int) (r : Bool) (w : World) (hr0_0 : Kd.C (Kd.int .i64) w A0_0 l0_0.length l0_0) (hc0_0 : l0_0.length ≤ c0_0) (h : op_Forms_1.f l0_0 = some r) :
  Calls Try.prog 49 #[.agg #[.slice A0_0 l0_0.length c0_0]] w fun e w' => e = .returned (.bool r) ∧ Below w.heap.size w w' := by
 have hu51 := Try.underlying51
 have HR0_0 := mk_ hr0_0
 have HC0_0 := mk_ hc0_0
 clear hr0_0 hc0_0
 have HB := mk_ (Below.refl w.heap.size w)
 have H : (if (l0_0.length : Int) < 1 then (some true) else (some (decide ((l0_0.length : Int) > 4)))) = some r := h
 clear h
 by_cases c2 : (l0_0.length : Int) < 1
 ·
  rw [if_pos c2] at H
  have c2b0 : decide ((l0_0.length : Int) < 1) = true := decide_eq_true c2
  have c2b1 : decide (l0_0.length < 1) = true := decide_eq_true z3_
  clear c2
  obtain rfl := Option.some.inj H
  go_enter Try.func49, Try.ntmps49
  go_wp2_with (first | ((with_reducible refine gate_dst (N := 1) rfl ?_); (try (refine gate_guard (by rfl) ?_; dsimp only)); refine box_event ?hg (N := 1) ?hd (cs := #[.slice A0_0 l0_0.length c0_0]) (t := 51) ?hr ?_; (case hd => rfl); (case hg => rfl); (case hr => first | (go_simp; done) | (go_simp; rfl)); intro gb262 hg w3 hbox hb; have n0_ := mk_ (below_step (Short.hB HB) hb); have n1_ := mk_ (hbox); have n2_ := mk_ ((by rw [hg]; exact (below_size (Short.hB HB)) : w.heap.size ≤ gb262)); have n3_ := mk_ ((by rw [hg]; exact (below_size (Short.hB HB)) : w.heap.size ≤ gb262)); clear HB; revert n0_ n1_ n2_ n3_; intro HB BK262 GW262 GE262; clear hb hbox hg; obtain ⟨hcz_0, hfz_0⟩ := Short.c1 BK262.out))
  go_ret
  exact ⟨q0, Short.hB HB⟩
 rw [if_neg c2] at H
 have c2b0 : decide ((l0_0.length : Int) < 1) = false := decide_eq_false c2
 have c2b1 : decide (l0_0.length < 1) = false := decide_eq_false z3_
 clear c2
 obtain rfl := Option.some.inj H
 go_enter Try.func49, Try.ntmps49
 go_wp2_with (first | ((with_reducible refine gate_dst (N := 1) rfl ?_); (try (refine gate_guard (by rfl) ?_; dsimp only)); refine box_event ?hg (N := 1) ?hd (cs := #[.slice A0_0 l0_0.length c0_0]) (t := 51) ?hr ?_; (case hd => rfl); (case hg => rfl); (case hr => first | (go_simp; done) | (go_simp; rfl)); intro gb262 hg w5 hbox hb; have n0_ := mk_ (below_step (Short.hB HB) hb); have n1_ := mk_ (hbox); have n2_ := mk_ ((by rw [hg]; exact (below_size (Short.hB HB)) : w.heap.size ≤ gb262)); have n3_ := mk_ ((by rw [hg]; exact (below_size (Short.hB HB)) : w.heap.size ≤ gb262)); clear HB; revert n0_ n1_ n2_ n3_; intro HB BK262 GW262 GE262; clear hb hbox hg; obtain ⟨hcz_0, hfz_0⟩ := Short.c1 BK262.out))
 go_ret
 exact ⟨q0, Short.hB HB⟩
def op_Forms_2.f (a0 : Int) : Option (Bool) := if a0 < 2 then (some true) else (some (decide (a0 > 4)))
theorem op_Forms_2.calls (a0 : Int) (r : Bool) (w : World) (h : op_Forms_2.f a0 = some r) :
  Calls Try.prog 51 #[.int .i64 a0] w fun e w' => e = .returned (.bool r) ∧ Drawn0 w w' := by
 have H : (if a0 < 2 then (some true) else (some (decide (a0 > 4)))) = some r := h
 clear h
 by_cases c2 : a0 < 2
 ·
  rw [if_pos c2] at H
  have c2b0 : decide (a0 < 2) = true := decide_eq_true c2
  clear c2
  obtain rfl := Option.some.inj H
  go_enter Try.func51, Try.ntmps51
  go_wp2
  go_ret
  exact ⟨z4_, by repeat (first | exact Drawn0.refl _ | apply Drawn0.step)⟩
 rw [if_neg c2] at H
 have c2b0 : decide (a0 < 2) = false := decide_eq_false c2
 clear c2
 obtain rfl := Option.some.inj H
 go_enter Try.func51, Try.ntmps51
 go_wp2
 go_ret
 exact ⟨z4_, by repeat (first | exact Drawn0.refl _ | apply Drawn0.step)⟩
def slices_IndexFunc_at_op_Forms_1.l0 : Nat → List (S51) → Int → Int → Option (Int)
 | 0, _, _, _ => none
 | k + 1, x0, x7, x8 => if x8 < x7 then (if 0 ≤ x8 then (if x8 < (x0.length : Int) then ((op_Forms_1.f ((rd_T51 x0 x8).f0)).bind fun t264 => (if t264 = true then (some x8) else (slices_IndexFunc_at_op_Forms_1.l0 k x0 x7 (wrap64 (x8 + 1))))) else (none)) else (none)) else (some (-1))
def slices_IndexFunc_at_op_Forms_1.f (k : Nat) (l0 : List (S51)) (a1 : Unit) : Option (Int) := slices_IndexFunc_at_op_Forms_1.l0 k l0 (l0.length : Int) 0
theorem slices_IndexFunc_at_op_Forms_1.calls (k : Nat) (A0 : Option Addr) (c0 : Nat) (l0 : List (S51)) (a1 : Unit) (r : Int) (w : World) (hr0 : Kd.C k51 w A0 l0.length l0) (hc0 : l0.length ≤ c0) (h : slices_IndexFunc_at_op_Forms_1.f k l0 a1 = some r) :
  Calls Try.prog 90 #[.slice A0 l0.length c0, .func (.func 49) #[] #[]] w fun e w' => e = .returned (.int .i64 r) ∧ Below w.heap.size w w' := by
 have hu51 := Try.underlying51
 have HR0 := mk_ hr0
 have HC0 := mk_ hc0
 clear hr0 hc0
 have HB := mk_ (Below.refl w.heap.size w)
 have H : (slices_IndexFunc_at_op_Forms_1.l0 k l0 (l0.length : Int) 0) = some r := h
 clear h
 have H' := mk_ H
 clear H
 go_enter Try.func90, Try.ntmps90
 go_wp2
 go_loopg [8] k (fun kq v8 w' => ∃ (x8_1 : Int), v8 = .int .i64 x8_1 ∧ Aside0 (slices_IndexFunc_at_op_Forms_1.l0 kq l0 (l0.length : Int) x8_1 = some r) ∧ Aside0 (kq ≤ k) ∧ Aside0 (Below w.heap.size w w'))
 case atStart => exact ⟨(0), z4_, H', ⟨Nat.le_refl _⟩, ⟨Short.hB HB⟩⟩
 case round =>
  clear H'
  try clear p2
  obtain ⟨x8_1, rfl, HA, HK1, HB⟩ := hrel
  cases gk with
  | zero => exact absurd HA.out (by simp [slices_IndexFunc_at_op_Forms_1.l0])
  | succ k1 =>
   have H := HA.out
   clear HA
   simp only [slices_IndexFunc_at_op_Forms_1.l0] at H
   by_cases c3 : x8_1 < (l0.length : Int)
   rotate_left
   ·
    rw [if_neg c3] at H
    have c3b0 : decide (x8_1 < (l0.length : Int)) = false := decide_eq_false c3
    clear c3
    obtain rfl := Option.some.inj H
    go_wp2
    go_ret
    exact ⟨q0, Short.hB HB⟩
   rw [if_pos c3] at H
   have c3b0 : decide (x8_1 < (l0.length : Int)) = true := decide_eq_true c3
   clear c3
   by_cases c4 : 0 ≤ x8_1
   rotate_left
   ·
    rw [if_neg c4] at H
    exact absurd H (by simp)
   rw [if_pos c4] at H
   have c4b0 : decide (0 ≤ x8_1) = true := decide_eq_true c4
   clear c4
   by_cases c5 : x8_1 < (l0.length : Int)
   rotate_left
   ·
    rw [if_neg c5] at H
    exact absurd H (by simp)
   rw [if_pos c5] at H
   have c5b0 : decide (x8_1 < (l0.length : Int)) = true := decide_eq_true c5
   clear c5
   obtain ⟨t264, A6, H⟩ := Option.bind_eq_some_iff.mp H
   replace A6 := mk_ A6
   by_cases c7 : t264 = true
   ·
    subst c7
    rw [if_pos rfl] at H
    obtain rfl := Option.some.inj H
    have p263 : 0 ≤ (x8_1 : Int) := of_decide_eq_true z1_
    have q263 : x8_1 < (l0.length : Int) := of_decide_eq_true z1_
    obtain ⟨ad263, A263_0, c263_0, e263, hx263_0, hl263_0, hi263_0⟩ := at_T51 HR0.out x8_1 p263 q263
    cases e263
    replace hx263_0 := up_ HB hx263_0
    have HR263_0 := mk_ hi263_0
    have HC263_0 := mk_ hl263_0
    clear hi263_0 hl263_0
    replace p263 := eq_true p263
    replace q263 := eq_true q263
    go_wp2_with (first | ((first | ((with_reducible refine gate_callee (f := 49) rfl ?_); refine Short.gL (some 16) Try.func49 #[.agg #[.slice A263_0 ((rd_T51 l0 x8_1).f0).length c263_0]] (h := ?_)) | ((with_reducible refine Go.Proofs.Ytjnjfogfpmeacaa.Steps.gate_any rfl ?_); refine Go.Proofs.Ytjnjfogfpmeacaa.Steps.goesV_ (some 16) rfl rfl Try.func49 z0_ rfl #[.agg #[.slice A263_0 ((rd_T51 l0 x8_1).f0).length c263_0]] rfl (by first | rfl | go_simp) z2_ ?_)); (with_reducible refine (op_Forms_1.calls _ _ ((rd_T51 l0 x8_1).f0) true _ ?side1 ?side2 A6.out).mono ?_); (case side1 => exact cX_ (C_below HR263_0.out HB.out)); (case side2 => exact HC263_0.out); rintro e w8 ⟨rfl, hb⟩; refine ⟨_, rfl, ?_⟩; have n0_ := mk_ (below_step (Short.hB HB) hb); clear HB; revert n0_; intro HB; (try clear hb)))
    go_ret
    exact ⟨q0, Short.hB HB⟩
   replace c7 := Bool.eq_false_iff.mpr c7
   subst c7
   rw [if_neg (show ¬ (false = true) by decide)] at H
   have H' := mk_ H
   clear H
   have p263 : 0 ≤ (x8_1 : Int) := of_decide_eq_true z1_
   have q263 : x8_1 < (l0.length : Int) := of_decide_eq_true z1_
   obtain ⟨ad263, A263_0, c263_0, e263, hx263_0, hl263_0, hi263_0⟩ := at_T51 HR0.out x8_1 p263 q263
   cases e263
   replace hx263_0 := up_ HB hx263_0
   have HR263_0 := mk_ hi263_0
   have HC263_0 := mk_ hl263_0
   clear hi263_0 hl263_0
   replace p263 := eq_true p263
   replace q263 := eq_true q263
   go_wp2_with (first | ((first | ((with_reducible refine gate_callee (f := 49) rfl ?_); refine Short.gL (some 16) Try.func49 #[.agg #[.slice A263_0 ((rd_T51 l0 x8_1).f0).length c263_0]] (h := ?_)) | ((with_reducible refine Go.Proofs.Ytjnjfogfpmeacaa.Steps.gate_any rfl ?_); refine Go.Proofs.Ytjnjfogfpmeacaa.Steps.goesV_ (some 16) rfl rfl Try.func49 z0_ rfl #[.agg #[.slice A263_0 ((rd_T51 l0 x8_1).f0).length c263_0]] rfl (by first | rfl | go_simp) z2_ ?_)); (with_reducible refine (op_Forms_1.calls _ _ ((rd_T51 l0 x8_1).f0) false _ ?side1 ?side2 A6.out).mono ?_); (case side1 => exact cX_ (C_below HR263_0.out HB.out)); (case side2 => exact HC263_0.out); rintro e w9 ⟨rfl, hb⟩; refine ⟨_, rfl, ?_⟩; have n0_ := mk_ (below_step (Short.hB HB) hb); clear HB; revert n0_; intro HB; (try clear hb)))
   go_roundg k1
   case measure => have := HK1.out; omega
   case rel => exact ⟨(wrap64 (x8_1 + 1)), z4_, H', ⟨by have := HK1.out; omega⟩, ⟨Short.hB HB⟩⟩
end Go.Proofs.Ytjnjfogfpmeacaa.PAll
end
section
namespace Go.Proofs.Ytjnjfogfpmeacaa.PAll
open Go.RowKit PrintWords PrintLast PrintMore ZipT PrintWords.Kd PrintMore.Kd
attribute [local go_sem] max2_int min2_int max_two min_two max_three min_three max_four min_four   -- for this text's walks alone
set_option linter.unusedVariables false
set_option linter.unusedSimpArgs false
def slices_ContainsFunc_at_op_Forms_1.f (k : Nat) (l0 : List (S51)) (a1 : Unit) : Option (Bool) := (slices_IndexFunc_at_op_Forms_1.f k l0 a1).bind fun t265 => (some (decide (t265 ≥ 0)))
theorem slices_ContainsFunc_at_op_Forms_1.calls (k : Nat) (A0 : Option Addr) (c0 : Nat) (l0 : List (S51)) (a1 : Unit) (r : Bool) (w : World) (hr0 : Kd.C k51 w A0 l0.length l0) (hc0 : l0.length ≤ c0) (h : slices_ContainsFunc_at_op_Forms_1.f k l0 a1 = some r) :
  Calls Try.prog 48 #[.slice A0 l0.length c0, .func (.func 49) #[] #[]] w fun e w' => e = .returned (.bool r) ∧ Below w.heap.size w w' := by
 have HR0 := mk_ hr0
 have HC0 := mk_ hc0
 clear hr0 hc0
 have HB := mk_ (Below.refl w.heap.size w)
 have H : ((slices_IndexFunc_at_op_Forms_1.f k l0 a1).bind fun t265 => (some (decide (t265 ≥ 0)))) = some r := h
 clear h
 obtain ⟨t265, A3, H⟩ := Option.bind_eq_some_iff.mp H
 replace A3 := mk_ A3
 obtain rfl := Option.some.inj H
 go_enter Try.func48, Try.ntmps48
 go_wp2_with (first | ((first | ((with_reducible refine gate_callee (f := 90) rfl ?_); refine Short.gL (some 7) Try.func90 #[.slice A0 l0.length c0, .func (.func 49) #[] #[]] (h := ?_)) | ((with_reducible refine Go.Proofs.Ytjnjfogfpmeacaa.Steps.gate_any rfl ?_); refine Go.Proofs.Ytjnjfogfpmeacaa.Steps.goesV_ (some 7) rfl rfl Try.func90 z0_ rfl #[.slice A0 l0.length c0, .func (.func 49) #[] #[]] rfl (by first | rfl | go_simp) z2_ ?_)); (with_reducible refine (slices_IndexFunc_at_op_Forms_1.calls k _ _ l0 a1 t265 _ ?side1 ?side2 A3.out).mono ?_); (case side1 => repeat (first | exact HR0.out | (with_reducible refine C_alloc ?_ _) | (with_reducible refine C_drewN ?_ _) | (with_reducible refine C_drew ?_))); (case side2 => exact HC0.out); rintro e w4 ⟨rfl, hb⟩; refine ⟨_, rfl, ?_⟩; have n0_ := mk_ (below_step (Short.hB HB) hb); clear HB; revert n0_; intro HB; (try clear hb)))
 go_ret
 exact ⟨q0, Short.hB HB⟩
def slices_IndexFunc_at_op_Forms_2.l0 : Nat → List Int → Int → Int → Option (Int)
 | 0, _, _, _ => none
 | k + 1, x0, x7, x8 => if x8 < x7 then (if 0 ≤ x8 then (if x8 < (x0.length : Int) then ((op_Forms_2.f (rd x0 x8)).bind fun t267 => (if t267 = true then (some x8) else (slices_IndexFunc_at_op_Forms_2.l0 k x0 x7 (wrap64 (x8 + 1))))) else (none)) else (none)) else (some (-1))
def slices_IndexFunc_at_op_Forms_2.f (k : Nat) (l0 : List Int) (a1 : Unit) : Option (Int) := slices_IndexFunc_at_op_Forms_2.l0 k l0 (l0.length : Int) 0
theorem slices_IndexFunc_at_op_Forms_2.calls (k : Nat) (A0 : Option Addr) (c0 : Nat) (l0 : List Int) (a1 : Unit) (r : Int) (w : World) (hr0 : Kd.C (Kd.int .i64) w A0 l0.length l0) (hc0 : l0.length ≤ c0) (h : slices_IndexFunc_at_op_Forms_2.f k l0 a1 = some r) :
  Calls Try.prog 91 #[.slice A0 l0.length c0, .func (.func 51) #[] #[]] w fun e w' => e = .returned (.int .i64 r) ∧ Drawn0 w w' := by
 have HR0 := mk_ hr0
 have HC0 := mk_ hc0
 clear hr0 hc0
 have H : (slices_IndexFunc_at_op_Forms_2.l0 k l0 (l0.length : Int) 0) = some r := h
 clear h
 have H' := mk_ H
 clear H
 go_enter Try.func91, Try.ntmps91
 go_wp2
 go_loopg [8] k (fun kq v8 w' => ∃ (x8_1 : Int), v8 = .int .i64 x8_1 ∧ Aside0 (slices_IndexFunc_at_op_Forms_2.l0 kq l0 (l0.length : Int) x8_1 = some r) ∧ Aside0 (kq ≤ k) ∧ Drawn0 w w')
 case atStart => exact ⟨(0), z4_, H', ⟨Nat.le_refl _⟩, by repeat (first | exact Drawn0.refl _ | apply Drawn0.step)⟩
 case round =>
  clear H'
  try clear p2
  obtain ⟨x8_1, rfl, HA, HK1, ⟨m1, rfl⟩⟩ := hrel
  cases gk with
  | zero => exact absurd HA.out (by simp [slices_IndexFunc_at_op_Forms_2.l0])
  | succ k1 =>
   have H := HA.out
   clear HA
   simp only [slices_IndexFunc_at_op_Forms_2.l0] at H
   by_cases c3 : x8_1 < (l0.length : Int)
   rotate_left
   ·
    rw [if_neg c3] at H
    have c3b0 : decide (x8_1 < (l0.length : Int)) = false := decide_eq_false c3
    clear c3
    obtain rfl := Option.some.inj H
    go_wp2
    go_ret
    exact ⟨z4_, by repeat (first | exact Drawn0.refl _ | apply Drawn0.step)⟩
   rw [if_pos c3] at H
   have c3b0 : decide (x8_1 < (l0.length : Int)) = true := decide_eq_true c3
   clear c3
   by_cases c4 : 0 ≤ x8_1
   rotate_left
   ·
    rw [if_neg c4] at H
    exact absurd H (by simp)
   rw [if_pos c4] at H
   have c4b0 : decide (0 ≤ x8_1) = true := decide_eq_true c4
   clear c4
   by_cases c5 : x8_1 < (l0.length : Int)
   rotate_left
   ·
    rw [if_neg c5] at H
    exact absurd H (by simp)
   rw [if_pos c5] at H
   have c5b0 : decide (x8_1 < (l0.length : Int)) = true := decide_eq_true c5
   clear c5
   obtain ⟨t267, A6, H⟩ := Option.bind_eq_some_iff.mp H
   replace A6 := mk_ A6
   by_cases c7 : t267 = true
   ·
    subst c7
    rw [if_pos rfl] at H
    obtain rfl := Option.some.inj H
    have p266 : 0 ≤ (x8_1 : Int) := of_decide_eq_true z1_
    have q266 : x8_1 < (l0.length : Int) := of_decide_eq_true z1_
    obtain ⟨ad266, e266, hx266_0⟩ := Kd.at_int HR0.out x8_1 p266 q266
    cases e266
    replace p266 := eq_true p266
    replace q266 := eq_true q266
    go_wp2_with (first | ((first | ((with_reducible refine gate_callee (f := 51) rfl ?_); refine Short.gL (some 16) Try.func51 #[.int .i64 (rd l0 x8_1)] (h := ?_)) | ((with_reducible refine Go.Proofs.Ytjnjfogfpmeacaa.Steps.gate_any rfl ?_); refine Go.Proofs.Ytjnjfogfpmeacaa.Steps.goesV_ (some 16) rfl rfl Try.func51 z0_ rfl #[.int .i64 (rd l0 x8_1)] rfl (by first | rfl | go_simp) z2_ ?_)); (with_reducible refine (op_Forms_2.calls (rd l0 x8_1) true _ A6.out).mono ?_); rintro e w' ⟨rfl, ⟨nd, rfl⟩⟩; refine ⟨_, rfl, ?_⟩))
    go_ret
    exact ⟨z4_, by repeat (first | exact Drawn0.refl _ | apply Drawn0.step)⟩
   replace c7 := Bool.eq_false_iff.mpr c7
   subst c7
   rw [if_neg (show ¬ (false = true) by decide)] at H
   have H' := mk_ H
   clear H
   have p266 : 0 ≤ (x8_1 : Int) := of_decide_eq_true z1_
   have q266 : x8_1 < (l0.length : Int) := of_decide_eq_true z1_
   obtain ⟨ad266, e266, hx266_0⟩ := Kd.at_int HR0.out x8_1 p266 q266
   cases e266
   replace p266 := eq_true p266
   replace q266 := eq_true q266
   go_wp2_with (first | ((first | ((with_reducible refine gate_callee (f := 51) rfl ?_); refine Short.gL (some 16) Try.func51 #[.int .i64 (rd l0 x8_1)] (h := ?_)) | ((with_reducible refine Go.Proofs.Ytjnjfogfpmeacaa.Steps.gate_any rfl ?_); refine Go.Proofs.Ytjnjfogfpmeacaa.Steps.goesV_ (some 16) rfl rfl Try.func51 z0_ rfl #[.int .i64 (rd l0 x8_1)] rfl (by first | rfl | go_simp) z2_ ?_)); (with_reducible refine (op_Forms_2.calls (rd l0 x8_1) false _ A6.out).mono ?_); rintro e w' ⟨rfl, ⟨nd, rfl⟩⟩; refine ⟨_, rfl, ?_⟩))
   go_roundg k1
   case measure => have := HK1.out; omega
   case rel => exact ⟨(wrap64 (x8_1 + 1)), z4_, H', ⟨by have := HK1.out; omega⟩, by repeat (first | exact Drawn0.refl _ | apply Drawn0.step)⟩
def slices_ContainsFunc_at_op_Forms_2.f (k : Nat) (l0 : List Int) (a1 : Unit) : Option (Bool) := (slices_IndexFunc_at_op_Forms_2.f k l0 a1).bind fun t268 => (some (decide (t268 ≥ 0)))
theorem slices_ContainsFunc_at_op_Forms_2.calls (k : Nat) (A0 : Option Addr) (c0 : Nat) (l0 : List Int) (a1 : Unit) (r : Bool) (w : World) (hr0 : Kd.C (Kd.int .i64) w A0 l0.length l0) (hc0 : l0.length ≤ c0) (h : slices_ContainsFunc_at_op_Forms_2.f k l0 a1 = some r) :
  Calls Try.prog 50 #[.slice A0 l0.length c0, .func (.func 51) #[] #[]] w fun e w' => e = .returned (.bool r) ∧ Drawn0 w w' := by
 have HR0 := mk_ hr0
 have HC0 := mk_ hc0
 clear hr0 hc0
 have H : ((slices_IndexFunc_at_op_Forms_2.f k l0 a1).bind fun t268 => (some (decide (t268 ≥ 0)))) = some r := h
 clear h
 obtain ⟨t268, A3, H⟩ := Option.bind_eq_some_iff.mp H
 replace A3 := mk_ A3
 obtain rfl := Option.some.inj H
 go_enter Try.func50, Try.ntmps50
 go_wp2_with (first | ((first | ((with_reducible refine gate_callee (f := 91) rfl ?_); refine Short.gL (some 7) Try.func91 #[.slice A0 l0.length c0, .func (.func 51) #[] #[]] (h := ?_)) | ((with_reducible refine Go.Proofs.Ytjnjfogfpmeacaa.Steps.gate_any rfl ?_); refine Go.Proofs.Ytjnjfogfpmeacaa.Steps.goesV_ (some 7) rfl rfl Try.func91 z0_ rfl #[.slice A0 l0.length c0, .func (.func 51) #[] #[]] rfl (by first | rfl | go_simp) z2_ ?_)); (with_reducible refine (slices_IndexFunc_at_op_Forms_2.calls k _ _ l0 a1 t268 _ ?side1 ?side2 A3.out).mono ?_); (case side1 => repeat (first | exact HR0.out | (with_reducible refine C_alloc ?_ _) | (with_reducible refine C_drewN ?_ _) | (with_reducible refine C_drew ?_))); (case side2 => exact HC0.out); rintro e w' ⟨rfl, ⟨nd, rfl⟩⟩; refine ⟨_, rfl, ?_⟩))
 go_ret
 exact ⟨z4_, by repeat (first | exact Drawn0.refl _ | apply Drawn0.step)⟩
mutual
def op_Forms.j0 : Nat → List (S51) → Bool → Option (Int)
 | 0, _, _ => none
 | k + 1, x0, x12 => if x12 = true then (some 2) else ((slices_ContainsFunc_at_op_Forms_1.f k x0 ()).bind fun t269 => (if t269 = true then (some 2) else (op_Forms.l0 k x0 (x0.length : Int) 0)))
def op_Forms.l0 : Nat → List (S51) → Int → Int → Option (Int)
 | 0, _, _, _ => none
 | k + 1, x15, x16, x17 => if x17 < x16 then (if 0 ≤ x17 then (if x17 < (x15.length : Int) then ((slices_ContainsFunc_at_op_Forms_2.f k ((rd_T51 x15 x17).f0) ()).bind fun t272 => (if t272 = true then (some 10) else (op_Forms.l0 k x15 x16 (wrap64 (x17 + 1))))) else (none)) else (none)) else (some 0)
end
def op_Forms.f (k : Nat) (l0 : List (S51)) : Option (Int) := if (l0.length : Int) < 1 then (op_Forms.j0 k l0 true) else (op_Forms.j0 k l0 (decide ((l0.length : Int) > 3)))
theorem op_Forms.calls (k : Nat) (A0 : Option Addr) (c0 : Nat) (l0 : List (S51)) (r : Int) (w : World) (hr0 : Kd.C k51 w A0 l0.length l0) (hc0 : l0.length ≤ c0) (h : op_Forms.f k l0 = some r) :
  Calls Try.prog 24 #[.slice A0 l0.length c0] w fun e w' => e = .returned (.int .i64 r) ∧ Below w.heap.size w w' := by
 have hu51 := Try.underlying51
 have HR0 := mk_ hr0
 have HC0 := mk_ hc0
 clear hr0 hc0
 have HB := mk_ (Below.refl w.heap.size w)
 have H : (if (l0.length : Int) < 1 then (op_Forms.j0 k l0 true) else (op_Forms.j0 k l0 (decide ((l0.length : Int) > 3)))) = some r := h
 clear h
 have HC2 := mk_ H
 clear H
 go_enter Try.func24, Try.ntmps24
 go_upto_region 1 with (fail)
 go_cut [12] (fun v12 wc => ∃ (kq : Nat) (x12_1 : Bool), v12 = .bool x12_1 ∧ Aside0 (op_Forms.j0 kq l0 x12_1 = some r) ∧ Aside0 (kq ≤ k) ∧ Aside0 (Below w.heap.size w wc))
 case first =>
  have H := HC2.out
  clear HC2
  by_cases c3 : (l0.length : Int) < 1
  ·
   rw [if_pos c3] at H
   have c3b0 : decide ((l0.length : Int) < 1) = true := decide_eq_true c3
   have c3b1 : decide (l0.length < 1) = true := decide_eq_true z3_
   clear c3
   (first | rw [c3b0] | (simp only [i64_w, i32_w]; rw [c3b0]) | skip)
   have H' := mk_ H
   clear H
   go_wp2
   go_meet
   case rel => exact ⟨_, (true), z4_, H', ⟨by first | omega | exact Nat.le_refl _⟩, ⟨Short.hB HB⟩⟩
  rw [if_neg c3] at H
  have c3b0 : decide ((l0.length : Int) < 1) = false := decide_eq_false c3
  have c3b1 : decide (l0.length < 1) = false := decide_eq_false z3_
  clear c3
  (first | rw [c3b0] | (simp only [i64_w, i32_w]; rw [c3b0]) | skip)
  have H' := mk_ H
  clear H
  go_wp2
  go_meet
  case rel => exact ⟨_, (decide ((l0.length : Int) > 3)), z4_, H', ⟨by first | omega | exact Nat.le_refl _⟩, ⟨Short.hB HB⟩⟩
 case rest => as_aux_lemma =>
  clear HC2
  try clear c2
  try clear p2
  try clear c3
  try clear c3b0
  try clear c3b1
  obtain ⟨kq, x12_1, rfl, HA, HJ1, HB⟩ := hcut
  cases kq with
  | zero => exact absurd HA.out (by simp [op_Forms.j0])
  | succ kj1 =>
   have H := HA.out
   clear HA
   simp only [op_Forms.j0] at H
   by_cases c4 : x12_1 = true
   ·
    subst c4
    rw [if_pos rfl] at H
    obtain rfl := Option.some.inj H
    go_wp2
    go_ret
    exact ⟨q0, Short.hB HB⟩
   ·
    replace c4 := Bool.eq_false_iff.mpr c4
    subst c4
    rw [if_neg (show ¬ (false = true) by decide)] at H
    obtain ⟨t269, A5, H⟩ := Option.bind_eq_some_iff.mp H
    replace A5 := mk_ A5
    by_cases c6 : t269 = true
    ·
     subst c6
     rw [if_pos rfl] at H
     obtain rfl := Option.some.inj H
     go_wp2_with (first | ((with_reducible refine gate_callee (f := 48) rfl ?_); refine Short.gL (some 14) Try.func48 #[.slice A0 l0.length c0, .func (.func 49) #[] #[]] (h := ?_); (with_reducible refine (slices_ContainsFunc_at_op_Forms_1.calls kj1 _ _ l0 () true _ ?side1 ?side2 A5.out).mono ?_); (case side1 => exact cX_ (C_below HR0.out HB.out)); (case side2 => exact HC0.out); rintro e w7 ⟨rfl, hb⟩; refine ⟨_, rfl, ?_⟩; have n0_ := mk_ (below_step (Short.hB HB) hb); clear HB; revert n0_; intro HB; (try clear hb)))
     go_ret
     exact ⟨q0, Short.hB HB⟩
    ·
     replace c6 := Bool.eq_false_iff.mpr c6
     subst c6
     rw [if_neg (show ¬ (false = true) by decide)] at H
     have H' := mk_ H
     clear H
     go_wp2_with (first | ((with_reducible refine gate_callee (f := 48) rfl ?_); refine Short.gL (some 14) Try.func48 #[.slice A0 l0.length c0, .func (.func 49) #[] #[]] (h := ?_); (with_reducible refine (slices_ContainsFunc_at_op_Forms_1.calls kj1 _ _ l0 () false _ ?side1 ?side2 A5.out).mono ?_); (case side1 => exact cX_ (C_below HR0.out HB.out)); (case side2 => exact HC0.out); rintro e w8 ⟨rfl, hb⟩; refine ⟨_, rfl, ?_⟩; have n0_ := mk_ (below_step (Short.hB HB) hb); clear HB; revert n0_; intro HB; (try clear hb)))
     go_loopg [17] kj1 (fun kq v17 w' => ∃ (x17_2 : Int), v17 = .int .i64 x17_2 ∧ Aside0 (op_Forms.l0 kq l0 (l0.length : Int) x17_2 = some r) ∧ Aside0 (kq ≤ kj1) ∧ Aside0 (Below w.heap.size w w'))
     case atStart => exact ⟨(0), z4_, H', ⟨Nat.le_refl _⟩, ⟨Short.hB HB⟩⟩
     case round =>
      clear H'
      try clear c2
      try clear p2
      try clear c3
      try clear c3b0
      try clear c3b1
      try clear c4
      try clear c6
      try clear p2
      obtain ⟨x17_2, rfl, HA, HK2, HB⟩ := hrel
      cases gk with
      | zero => exact absurd HA.out (by simp [op_Forms.l0])
      | succ k2 =>
       have H := HA.out
       clear HA
       simp only [op_Forms.l0] at H
       by_cases c9 : x17_2 < (l0.length : Int)
       ·
        rw [if_pos c9] at H
        have c9b0 : decide (x17_2 < (l0.length : Int)) = true := decide_eq_true c9
        clear c9
        by_cases c10 : 0 ≤ x17_2
        ·
         rw [if_pos c10] at H
         have c10b0 : decide (0 ≤ x17_2) = true := decide_eq_true c10
         clear c10
         by_cases c11 : x17_2 < (l0.length : Int)
         ·
          rw [if_pos c11] at H
          have c11b0 : decide (x17_2 < (l0.length : Int)) = true := decide_eq_true c11
          clear c11
          obtain ⟨t272, A12, H⟩ := Option.bind_eq_some_iff.mp H
          replace A12 := mk_ A12
          by_cases c13 : t272 = true
          ·
           subst c13
           rw [if_pos rfl] at H
           obtain rfl := Option.some.inj H
           have p270 : 0 ≤ (x17_2 : Int) := of_decide_eq_true z1_
           have q270 : x17_2 < (l0.length : Int) := of_decide_eq_true z1_
           obtain ⟨ad270, A270_0, c270_0, e270, hx270_0, hl270_0, hi270_0⟩ := at_T51 HR0.out x17_2 p270 q270
           cases e270
           replace hx270_0 := up_ HB hx270_0
           have HR270_0 := mk_ hi270_0
           have HC270_0 := mk_ hl270_0
           clear hi270_0 hl270_0
           replace p270 := eq_true p270
           replace q270 := eq_true q270
           go_wp2_with (first | ((with_reducible refine gate_dst (N := 4) rfl ?_); (try (refine gate_guard (by rfl) ?_; dsimp only)); refine box_event ?hg (N := 4) ?hd (cs := #[.slice none 0 0]) (t := 51) ?hr ?_; (case hd => rfl); (case hg => rfl); (case hr => first | (go_simp; done) | (go_simp; rfl)); intro gb271 hg w14 hbox hb; have n0_ := mk_ (below_step (Short.hB HB) hb); have n1_ := mk_ (hbox); have n2_ := mk_ ((by rw [hg]; exact (below_size (Short.hB HB)) : w.heap.size ≤ gb271)); have n3_ := mk_ ((by rw [hg]; exact (below_size (Short.hB HB)) : w.heap.size ≤ gb271)); clear HB; revert n0_ n1_ n2_ n3_; intro HB BK271 GW271 GE271; clear hb hbox hg; obtain ⟨hcz_0, hfz_0⟩ := Short.c1 BK271.out) | ((with_reducible refine gate_callee (f := 50) rfl ?_); refine Short.gL (some 23) Try.func50 #[.slice A270_0 ((rd_T51 l0 x17_2).f0).length c270_0, .func (.func 51) #[] #[]] (h := ?_); (with_reducible refine (slices_ContainsFunc_at_op_Forms_2.calls k2 _ _ ((rd_T51 l0 x17_2).f0) () true _ ?side1 ?side2 A12.out).mono ?_); (case side1 => exact C_below HR270_0.out (Short.hB HB)); (case side2 => exact HC270_0.out); rintro e w' ⟨rfl, ⟨nd, rfl⟩⟩; refine ⟨_, rfl, ?_⟩))
           go_ret
           exact ⟨q0, Short.hB HB⟩
          ·
           replace c13 := Bool.eq_false_iff.mpr c13
           subst c13
           rw [if_neg (show ¬ (false = true) by decide)] at H
           have H' := mk_ H
           clear H
           have p270 : 0 ≤ (x17_2 : Int) := of_decide_eq_true z1_
           have q270 : x17_2 < (l0.length : Int) := of_decide_eq_true z1_
           obtain ⟨ad270, A270_0, c270_0, e270, hx270_0, hl270_0, hi270_0⟩ := at_T51 HR0.out x17_2 p270 q270
           cases e270
           replace hx270_0 := up_ HB hx270_0
           have HR270_0 := mk_ hi270_0
           have HC270_0 := mk_ hl270_0
           clear hi270_0 hl270_0
           replace p270 := eq_true p270
           replace q270 := eq_true q270
           go_wp2_with (first | ((with_reducible refine gate_dst (N := 4) rfl ?_); (try (refine gate_guard (by rfl) ?_; dsimp only)); refine box_event ?hg (N := 4) ?hd (cs := #[.slice none 0 0]) (t := 51) ?hr ?_; (case hd => rfl); (case hg => rfl); (case hr => first | (go_simp; done) | (go_simp; rfl)); intro gb271 hg w16 hbox hb; have n0_ := mk_ (below_step (Short.hB HB) hb); have n1_ := mk_ (hbox); have n2_ := mk_ ((by rw [hg]; exact (below_size (Short.hB HB)) : w.heap.size ≤ gb271)); have n3_ := mk_ ((by rw [hg]; exact (below_size (Short.hB HB)) : w.heap.size ≤ gb271)); clear HB; revert n0_ n1_ n2_ n3_; intro HB BK271 GW271 GE271; clear hb hbox hg; obtain ⟨hcz_0, hfz_0⟩ := Short.c1 BK271.out) | ((with_reducible refine gate_callee (f := 50) rfl ?_); refine Short.gL (some 23) Try.func50 #[.slice A270_0 ((rd_T51 l0 x17_2).f0).length c270_0, .func (.func 51) #[] #[]] (h := ?_); (with_reducible refine (slices_ContainsFunc_at_op_Forms_2.calls k2 _ _ ((rd_T51 l0 x17_2).f0) () false _ ?side1 ?side2 A12.out).mono ?_); (case side1 => exact C_below HR270_0.out (Short.hB HB)); (case side2 => exact HC270_0.out); rintro e w' ⟨rfl, ⟨nd, rfl⟩⟩; refine ⟨_, rfl, ?_⟩))
           go_roundg k2
           case measure => have := HJ1.out; have := HK2.out; omega
           case rel => exact ⟨(wrap64 (x17_2 + 1)), z4_, H', ⟨by have := HJ1.out; have := HK2.out; omega⟩, ⟨Short.hB HB⟩⟩
         ·
          rw [if_neg c11] at H
          exact absurd H (by simp)
        ·
         rw [if_neg c10] at H
         exact absurd H (by simp)
       ·
        rw [if_neg c9] at H
        have c9b0 : decide (x17_2 < (l0.length : Int)) = false := decide_eq_false c9
        clear c9
        obtain rfl := Option.some.inj H
        go_wp2
        go_ret
        exact ⟨q0, Short.hB HB⟩
def op_Key.f (a0 : ByteArray) : Option (Bool) := if (a0.size : Int) ≥ 1 then (some (decide ((a0.size : Int) ≤ 12))) else (some false)
theorem op_Key.calls (a0 : ByteArray) (r : Bool) (w : World) (h : op_Key.f a0 = some r) :
  Calls Try.prog 25 #[.string a0] w fun e w' => e = .returned (.bool r) ∧ Drawn0 w w' := by
 have H : (if (a0.size : Int) ≥ 1 then (some (decide ((a0.size : Int) ≤ 12))) else (some false)) = some r := h
 clear h
 by_cases c2 : (a0.size : Int) ≥ 1
 ·
  rw [if_pos c2] at H
  have c2b0 : decide (1 ≤ (a0.size : Int)) = true := decide_eq_true c2
  have c2b1 : decide (1 ≤ a0.size) = true := decide_eq_true z3_
  clear c2
  obtain rfl := Option.some.inj H
  go_enter Try.func25, Try.ntmps25
  go_wp2
  go_ret
  exact ⟨z4_, by repeat (first | exact Drawn0.refl _ | apply Drawn0.step)⟩
 rw [if_neg c2] at H
 have c2b0 : decide (1 ≤ (a0.size : Int)) = false := decide_eq_false c2
 have c2b1 : decide (1 ≤ a0.size) = false := decide_eq_false z3_
 clear c2
 obtain rfl := Option.some.inj H
 go_enter Try.func25, Try.ntmps25
 go_wp2
 go_ret
 exact ⟨z4_, by repeat (first | exact Drawn0.refl _ | apply Drawn0.step)⟩
def dot_Check_1.f (a0 : Int) : Option (Bool) := if a0 < 0 then (some true) else (some (decide (a0 > 1073741824)))
theorem dot_Check_1.calls (a0 : Int) (r : Bool) (w : World) (h : dot_Check_1.f a0 = some r) :
  Calls Try.prog 113 #[.int .i64 a0] w fun e w' => e = .returned (.bool r) ∧ Drawn0 w w' := by
 have H : (if a0 < 0 then (some true) else (some (decide (a0 > 1073741824)))) = some r := h
 clear h
 by_cases c2 : a0 < 0
 ·
  rw [if_pos c2] at H
  have c2b0 : decide (a0 < 0) = true := decide_eq_true c2
  clear c2
  obtain rfl := Option.some.inj H
  go_enter Try.func113, Try.ntmps113
  go_wp2
  go_ret
  exact ⟨z4_, by repeat (first | exact Drawn0.refl _ | apply Drawn0.step)⟩
 rw [if_neg c2] at H
 have c2b0 : decide (a0 < 0) = false := decide_eq_false c2
 clear c2
 obtain rfl := Option.some.inj H
 go_enter Try.func113, Try.ntmps113
 go_wp2
 go_ret
 exact ⟨z4_, by repeat (first | exact Drawn0.refl _ | apply Drawn0.step)⟩
def slices_IndexFunc_at_dot_Check_1.l0 : Nat → List Int → Int → Int → Option (Int)
 | 0, _, _, _ => none
 | k + 1, x0, x7, x8 => if x8 < x7 then (if 0 ≤ x8 then (if x8 < (x0.length : Int) then ((dot_Check_1.f (rd x0 x8)).bind fun t274 => (if t274 = true then (some x8) else (slices_IndexFunc_at_dot_Check_1.l0 k x0 x7 (wrap64 (x8 + 1))))) else (none)) else (none)) else (some (-1))
def slices_IndexFunc_at_dot_Check_1.f (k : Nat) (l0 : List Int) (a1 : Unit) : Option (Int) := slices_IndexFunc_at_dot_Check_1.l0 k l0 (l0.length : Int) 0
theorem slices_IndexFunc_at_dot_Check_1.calls (k : Nat) (A0 : Option Addr) (c0 : Nat) (l0 : List Int) (a1 : Unit) (r : Int) (w : World) (hr0 : Kd.C (Kd.int .i64) w A0 l0.length l0) (hc0 : l0.length ≤ c0) (h : slices_IndexFunc_at_dot_Check_1.f k l0 a1 = some r) :
  Calls Try.prog 91 #[.slice A0 l0.length c0, .func (.func 113) #[] #[]] w fun e w' => e = .returned (.int .i64 r) ∧ Drawn0 w w' := by
 have HR0 := mk_ hr0
 have HC0 := mk_ hc0
 clear hr0 hc0
 have H : (slices_IndexFunc_at_dot_Check_1.l0 k l0 (l0.length : Int) 0) = some r := h
 clear h
 have H' := mk_ H
 clear H
 go_enter Try.func91, Try.ntmps91
 go_wp2
 go_loopg [8] k (fun kq v8 w' => ∃ (x8_1 : Int), v8 = .int .i64 x8_1 ∧ Aside0 (slices_IndexFunc_at_dot_Check_1.l0 kq l0 (l0.length : Int) x8_1 = some r) ∧ Aside0 (kq ≤ k) ∧ Drawn0 w w')
 case atStart => exact ⟨(0), z4_, H', ⟨Nat.le_refl _⟩, by repeat (first | exact Drawn0.refl _ | apply Drawn0.step)⟩
 case round =>
  clear H'
  try clear p2
  obtain ⟨x8_1, rfl, HA, HK1, ⟨m1, rfl⟩⟩ := hrel
  cases gk with
  | zero => exact absurd HA.out (by simp [slices_IndexFunc_at_dot_Check_1.l0])
  | succ k1 =>
   have H := HA.out
   clear HA
   simp only [slices_IndexFunc_at_dot_Check_1.l0] at H
   by_cases c3 : x8_1 < (l0.length : Int)
   rotate_left
   ·
    rw [if_neg c3] at H
    have c3b0 : decide (x8_1 < (l0.length : Int)) = false := decide_eq_false c3
    clear c3
    obtain rfl := Option.some.inj H
    go_wp2
    go_ret
    exact ⟨z4_, by repeat (first | exact Drawn0.refl _ | apply Drawn0.step)⟩
   rw [if_pos c3] at H
   have c3b0 : decide (x8_1 < (l0.length : Int)) = true := decide_eq_true c3
   clear c3
   by_cases c4 : 0 ≤ x8_1
   rotate_left
   ·
    rw [if_neg c4] at H
    exact absurd H (by simp)
   rw [if_pos c4] at H
   have c4b0 : decide (0 ≤ x8_1) = true := decide_eq_true c4
   clear c4
   by_cases c5 : x8_1 < (l0.length : Int)
   rotate_left
   ·
    rw [if_neg c5] at H
    exact absurd H (by simp)
   rw [if_pos c5] at H
   have c5b0 : decide (x8_1 < (l0.length : Int)) = true := decide_eq_true c5
   clear c5
   obtain ⟨t274, A6, H⟩ := Option.bind_eq_some_iff.mp H
   replace A6 := mk_ A6
   by_cases c7 : t274 = true
   ·
    subst c7
    rw [if_pos rfl] at H
    obtain rfl := Option.some.inj H
    have p273 : 0 ≤ (x8_1 : Int) := of_decide_eq_true z1_
    have q273 : x8_1 < (l0.length : Int) := of_decide_eq_true z1_
    obtain ⟨ad273, e273, hx273_0⟩ := Kd.at_int HR0.out x8_1 p273 q273
    cases e273
    replace p273 := eq_true p273
    replace q273 := eq_true q273
    go_wp2_with (first | ((first | ((with_reducible refine gate_callee (f := 113) rfl ?_); refine Short.gL (some 16) Try.func113 #[.int .i64 (rd l0 x8_1)] (h := ?_)) | ((with_reducible refine Go.Proofs.Ytjnjfogfpmeacaa.Steps.gate_any rfl ?_); refine Go.Proofs.Ytjnjfogfpmeacaa.Steps.goesV_ (some 16) rfl rfl Try.func113 z0_ rfl #[.int .i64 (rd l0 x8_1)] rfl (by first | rfl | go_simp) z2_ ?_)); (with_reducible refine (dot_Check_1.calls (rd l0 x8_1) true _ A6.out).mono ?_); rintro e w' ⟨rfl, ⟨nd, rfl⟩⟩; refine ⟨_, rfl, ?_⟩))
    go_ret
    exact ⟨z4_, by repeat (first | exact Drawn0.refl _ | apply Drawn0.step)⟩
   replace c7 := Bool.eq_false_iff.mpr c7
   subst c7
   rw [if_neg (show ¬ (false = true) by decide)] at H
   have H' := mk_ H
   clear H
   have p273 : 0 ≤ (x8_1 : Int) := of_decide_eq_true z1_
   have q273 : x8_1 < (l0.length : Int) := of_decide_eq_true z1_
   obtain ⟨ad273, e273, hx273_0⟩ := Kd.at_int HR0.out x8_1 p273 q273
   cases e273
   replace p273 := eq_true p273
   replace q273 := eq_true q273
   go_wp2_with (first | ((first | ((with_reducible refine gate_callee (f := 113) rfl ?_); refine Short.gL (some 16) Try.func113 #[.int .i64 (rd l0 x8_1)] (h := ?_)) | ((with_reducible refine Go.Proofs.Ytjnjfogfpmeacaa.Steps.gate_any rfl ?_); refine Go.Proofs.Ytjnjfogfpmeacaa.Steps.goesV_ (some 16) rfl rfl Try.func113 z0_ rfl #[.int .i64 (rd l0 x8_1)] rfl (by first | rfl | go_simp) z2_ ?_)); (with_reducible refine (dot_Check_1.calls (rd l0 x8_1) false _ A6.out).mono ?_); rintro e w' ⟨rfl, ⟨nd, rfl⟩⟩; refine ⟨_, rfl, ?_⟩))
   go_roundg k1
   case measure => have := HK1.out; omega
   case rel => exact ⟨(wrap64 (x8_1 + 1)), z4_, H', ⟨by have := HK1.out; omega⟩, by repeat (first | exact Drawn0.refl _ | apply Drawn0.step)⟩
def slices_ContainsFunc_at_dot_Check_1.f (k : Nat) (l0 : List Int) (a1 : Unit) : Option (Bool) := (slices_IndexFunc_at_dot_Check_1.f k l0 a1).bind fun t275 => (some (decide (t275 ≥ 0)))
theorem slices_ContainsFunc_at_dot_Check_1.calls (k : Nat) (A0 : Option Addr) (c0 : Nat) (l0 : List Int) (a1 : Unit) (r : Bool) (w : World) (hr0 : Kd.C (Kd.int .i64) w A0 l0.length l0) (hc0 : l0.length ≤ c0) (h : slices_ContainsFunc_at_dot_Check_1.f k l0 a1 = some r) :
  Calls Try.prog 50 #[.slice A0 l0.length c0, .func (.func 113) #[] #[]] w fun e w' => e = .returned (.bool r) ∧ Drawn0 w w' := by
 have HR0 := mk_ hr0
 have HC0 := mk_ hc0
 clear hr0 hc0
 have H : ((slices_IndexFunc_at_dot_Check_1.f k l0 a1).bind fun t275 => (some (decide (t275 ≥ 0)))) = some r := h
 clear h
 obtain ⟨t275, A3, H⟩ := Option.bind_eq_some_iff.mp H
 replace A3 := mk_ A3
 obtain rfl := Option.some.inj H
 go_enter Try.func50, Try.ntmps50
 go_wp2_with (first | ((first | ((with_reducible refine gate_callee (f := 91) rfl ?_); refine Short.gL (some 7) Try.func91 #[.slice A0 l0.length c0, .func (.func 113) #[] #[]] (h := ?_)) | ((with_reducible refine Go.Proofs.Ytjnjfogfpmeacaa.Steps.gate_any rfl ?_); refine Go.Proofs.Ytjnjfogfpmeacaa.Steps.goesV_ (some 7) rfl rfl Try.func91 z0_ rfl #[.slice A0 l0.length c0, .func (.func 113) #[] #[]] rfl (by first | rfl | go_simp) z2_ ?_)); (with_reducible refine (slices_IndexFunc_at_dot_Check_1.calls k _ _ l0 a1 t275 _ ?side1 ?side2 A3.out).mono ?_); (case side1 => repeat (first | exact HR0.out | (with_reducible refine C_alloc ?_ _) | (with_reducible refine C_drewN ?_ _) | (with_reducible refine C_drew ?_))); (case side2 => exact HC0.out); rintro e w' ⟨rfl, ⟨nd, rfl⟩⟩; refine ⟨_, rfl, ?_⟩))
 go_ret
 exact ⟨z4_, by repeat (first | exact Drawn0.refl _ | apply Drawn0.step)⟩
def dot_Check.j0 : Nat → List Int → Bool → Option (Int)
 | 0, _, _ => none
 | k + 1, x0, x3 => if x3 = true then (some 2) else ((slices_ContainsFunc_at_dot_Check_1.f k x0 ()).bind fun t276 => (if t276 = true then (some 1) else (some 0)))
def dot_Check.f (k : Nat) (l0 : List Int) : Option (Int) := if (l0.length : Int) < 1 then (dot_Check.j0 k l0 true) else (dot_Check.j0 k l0 (decide ((l0.length : Int) > 5)))
theorem dot_Check.calls (k : Nat) (A0 : Option Addr) (c0 : Nat) (l0 : List Int) (r : Int) (w : World) (hr0 : Kd.C (Kd.int .i64) w A0 l0.length l0) (hc0 : l0.length ≤ c0) (h : dot_Check.f k l0 = some r) :
  Calls Try.prog 99 #[.slice A0 l0.length c0] w fun e w' => e = .returned (.int .i64 r) ∧ Drawn0 w w' := by
 have HR0 := mk_ hr0
 have HC0 := mk_ hc0
 clear hr0 hc0
 have H : (if (l0.length : Int) < 1 then (dot_Check.j0 k l0 true) else (dot_Check.j0 k l0 (decide ((l0.length : Int) > 5)))) = some r := h
 clear h
 have HC2 := mk_ H
 clear H
 go_enter Try.func99, Try.ntmps99
 go_upto_region 1 with (fail)
 go_cut [3] (fun v3 wc => ∃ (kq : Nat) (x3_1 : Bool), v3 = .bool x3_1 ∧ Aside0 (dot_Check.j0 kq l0 x3_1 = some r) ∧ Aside0 (kq ≤ k) ∧ Drawn0 w wc)
 case first =>
  have H := HC2.out
  clear HC2
  by_cases c3 : (l0.length : Int) < 1
  ·
   rw [if_pos c3] at H
   have c3b0 : decide ((l0.length : Int) < 1) = true := decide_eq_true c3
   have c3b1 : decide (l0.length < 1) = true := decide_eq_true z3_
   clear c3
   (first | rw [c3b0] | (simp only [i64_w, i32_w]; rw [c3b0]) | skip)
   have H' := mk_ H
   clear H
   go_wp2
   go_meet
   case rel => exact ⟨_, (true), z4_, H', ⟨by first | omega | exact Nat.le_refl _⟩, by repeat (first | exact Drawn0.refl _ | apply Drawn0.step)⟩
  rw [if_neg c3] at H
  have c3b0 : decide ((l0.length : Int) < 1) = false := decide_eq_false c3
  have c3b1 : decide (l0.length < 1) = false := decide_eq_false z3_
  clear c3
  (first | rw [c3b0] | (simp only [i64_w, i32_w]; rw [c3b0]) | skip)
  have H' := mk_ H
  clear H
  go_wp2
  go_meet
  case rel => exact ⟨_, (decide ((l0.length : Int) > 5)), z4_, H', ⟨by first | omega | exact Nat.le_refl _⟩, by repeat (first | exact Drawn0.refl _ | apply Drawn0.step)⟩
 case rest => as_aux_lemma =>
  clear HC2
  try clear p2
  try clear c3
  try clear c3b0
  try clear c3b1
  obtain ⟨kq, x3_1, rfl, HA, HJ1, ⟨mc1, rfl⟩⟩ := hcut
  cases kq with
  | zero => exact absurd HA.out (by simp [dot_Check.j0])
  | succ kj1 =>
   have H := HA.out
   clear HA
   simp only [dot_Check.j0] at H
   by_cases c4 : x3_1 = true
   ·
    subst c4
    rw [if_pos rfl] at H
    obtain rfl := Option.some.inj H
    go_wp2
    go_ret
    exact ⟨z4_, by repeat (first | exact Drawn0.refl _ | apply Drawn0.step)⟩
   ·
    replace c4 := Bool.eq_false_iff.mpr c4
    subst c4
    rw [if_neg (show ¬ (false = true) by decide)] at H
    obtain ⟨t276, A5, H⟩ := Option.bind_eq_some_iff.mp H
    replace A5 := mk_ A5
    by_cases c6 : t276 = true
    ·
     subst c6
     rw [if_pos rfl] at H
     obtain rfl := Option.some.inj H
     go_wp2_with (first | ((with_reducible refine gate_callee (f := 50) rfl ?_); refine Short.gL (some 14) Try.func50 #[.slice A0 l0.length c0, .func (.func 113) #[] #[]] (h := ?_); (with_reducible refine (slices_ContainsFunc_at_dot_Check_1.calls kj1 _ _ l0 () true _ ?side1 ?side2 A5.out).mono ?_); (case side1 => repeat (first | exact HR0.out | (with_reducible refine C_alloc ?_ _) | (with_reducible refine C_drewN ?_ _) | (with_reducible refine C_drew ?_))); (case side2 => exact HC0.out); rintro e w' ⟨rfl, ⟨nd, rfl⟩⟩; refine ⟨_, rfl, ?_⟩))
     go_ret
     exact ⟨z4_, by repeat (first | exact Drawn0.refl _ | apply Drawn0.step)⟩
    ·
     replace c6 := Bool.eq_false_iff.mpr c6
     subst c6
     rw [if_neg (show ¬ (false = true) by decide)] at H
     obtain rfl := Option.some.inj H
     go_wp2_with (first | ((with_reducible refine gate_callee (f := 50) rfl ?_); refine Short.gL (some 14) Try.func50 #[.slice A0 l0.length c0, .func (.func 113) #[] #[]] (h := ?_); (with_reducible refine (slices_ContainsFunc_at_dot_Check_1.calls kj1 _ _ l0 () false _ ?side1 ?side2 A5.out).mono ?_); (case side1 => repeat (first | exact HR0.out | (with_reducible refine C_alloc ?_ _) | (with_reducible refine C_drewN ?_ _) | (with_reducible refine C_drew ?_))); (case side2 => exact HC0.out); rintro e w' ⟨rfl, ⟨nd, rfl⟩⟩; refine ⟨_, rfl, ?_⟩))
     go_ret
     exact ⟨z4_, by repeat (first | exact Drawn0.refl _ | apply Drawn0.step)⟩
def hlc_in.f (a0 : Int) (a1 : Int) : Option (Bool) := if a0 ≥ 0 then (some (decide (a0 ≤ a1))) else (some false)
theorem hlc_in.calls (a0 : Int) (a1 : Int) (r : Bool) (w : World) (h : hlc_in.f a0 a1 = some r) :
  Calls Try.prog 114 #[.int .i64 a0, .int .i64 a1] w fun e w' => e = .returned (.bool r) ∧ Drawn0 w w' := by
 have H : (if a0 ≥ 0 then (some (decide (a0 ≤ a1))) else (some false)) = some r := h
 clear h
 by_cases c3 : a0 ≥ 0
 ·
  rw [if_pos c3] at H
  have c3b0 : decide (0 ≤ a0) = true := decide_eq_true c3
  clear c3
  obtain rfl := Option.some.inj H
  go_enter Try.func114, Try.ntmps114
  go_wp2
  go_ret
  exact ⟨z4_, by repeat (first | exact Drawn0.refl _ | apply Drawn0.step)⟩
 rw [if_neg c3] at H
 have c3b0 : decide (0 ≤ a0) = false := decide_eq_false c3
 clear c3
 obtain rfl := Option.some.inj H
 go_enter Try.func114, Try.ntmps114
 go_wp2
 go_ret
 exact ⟨z4_, by repeat (first | exact Drawn0.refl _ | apply Drawn0.step)⟩
def hlc_Check.f (a0_0 : Int) (a0_1 : Int) (a0_2 : Int) : Option (Int) := (hlc_in.f a0_0 1099511627776).bind fun t278 => (if t278 = true then ((hlc_in.f a0_1 65536).bind fun t279 => (if t279 = true then ((hlc_in.f a0_2 4).bind fun t280 => (if t280 = true then (some 0) else (some 1))) else (some 1))) else (some 1))
theorem hlc_Check.calls (a0_0 : Int) (a0_1 : Int) (a0_2 : Int) (r : Int) (w : World) (h : hlc_Check.f a0_0 a0_1 a0_2 = some r) :
  Calls Try.prog 100 #[.agg #[.int .i64 a0_0, .int .i64 a0_1, .int .i64 a0_2]] w fun e w' => e = .returned (.int .i64 r) ∧ Below w.heap.size w w' := by
 have hu28 := Try.underlying28
 have HB := mk_ (Below.refl w.heap.size w)
 have H : ((hlc_in.f a0_0 1099511627776).bind fun t278 => (if t278 = true then ((hlc_in.f a0_1 65536).bind fun t279 => (if t279 = true then ((hlc_in.f a0_2 4).bind fun t280 => (if t280 = true then (some 0) else (some 1))) else (some 1))) else (some 1))) = some r := h
 clear h
 obtain ⟨t278, A2, H⟩ := Option.bind_eq_some_iff.mp H
 replace A2 := mk_ A2
 by_cases c3 : t278 = true
 rotate_left
 ·
  replace c3 := Bool.eq_false_iff.mpr c3
  subst c3
  rw [if_neg (show ¬ (false = true) by decide)] at H
  obtain rfl := Option.some.inj H
  go_enter Try.func100, Try.ntmps100
  go_wp2_with (first | ((with_reducible refine gate_dst (N := 1) rfl ?_); refine box_event ?hg (N := 1) ?hd (cs := #[.int .i64 a0_0, .int .i64 a0_1, .int .i64 a0_2]) (t := 28) ?hr ?_; (case hd => rfl); (case hg => rfl); (case hr => first | (go_simp; done) | (go_simp; rfl)); intro gb277 hg w14 hbox hb; have n0_ := mk_ (below_step (Short.hB HB) hb); have n1_ := mk_ (hbox); have n2_ := mk_ ((by rw [hg]; exact (below_size (Short.hB HB)) : w.heap.size ≤ gb277)); have n3_ := mk_ ((by rw [hg]; exact (below_size (Short.hB HB)) : w.heap.size ≤ gb277)); clear HB; revert n0_ n1_ n2_ n3_; intro HB BK277 GW277 GE277; clear hb hbox hg; obtain ⟨hcz_0, hcz_1, hcz_2, hfz_0, hfz_1, hfz_2⟩ := Short.c3 BK277.out) | ((with_reducible refine gate_callee (f := 114) rfl ?_); refine Short.gL (some 5) Try.func114 #[.int .i64 a0_0, .int .i64 1099511627776] (h := ?_); (with_reducible refine (hlc_in.calls a0_0 1099511627776 false _ A2.out).mono ?_); rintro e w' ⟨rfl, ⟨nd, rfl⟩⟩; refine ⟨_, rfl, ?_⟩))
  go_ret
  exact ⟨q0, Short.hB HB⟩
 subst c3
 rw [if_pos rfl] at H
 obtain ⟨t279, A4, H⟩ := Option.bind_eq_some_iff.mp H
 replace A4 := mk_ A4
 by_cases c5 : t279 = true
 rotate_left
 ·
  replace c5 := Bool.eq_false_iff.mpr c5
  subst c5
  rw [if_neg (show ¬ (false = true) by decide)] at H
  obtain rfl := Option.some.inj H
  go_enter Try.func100, Try.ntmps100
  go_wp2_with (first | ((with_reducible refine gate_dst (N := 1) rfl ?_); refine box_event ?hg (N := 1) ?hd (cs := #[.int .i64 a0_0, .int .i64 a0_1, .int .i64 a0_2]) (t := 28) ?hr ?_; (case hd => rfl); (case hg => rfl); (case hr => first | (go_simp; done) | (go_simp; rfl)); intro gb277 hg w12 hbox hb; have n0_ := mk_ (below_step (Short.hB HB) hb); have n1_ := mk_ (hbox); have n2_ := mk_ ((by rw [hg]; exact (below_size (Short.hB HB)) : w.heap.size ≤ gb277)); have n3_ := mk_ ((by rw [hg]; exact (below_size (Short.hB HB)) : w.heap.size ≤ gb277)); clear HB; revert n0_ n1_ n2_ n3_; intro HB BK277 GW277 GE277; clear hb hbox hg; obtain ⟨hcz_0, hcz_1, hcz_2, hfz_0, hfz_1, hfz_2⟩ := Short.c3 BK277.out) | ((with_reducible refine gate_callee (f := 114) rfl ?_); refine Short.gL (some 5) Try.func114 #[.int .i64 a0_0, .int .i64 1099511627776] (h := ?_); (with_reducible refine (hlc_in.calls a0_0 1099511627776 true _ A2.out).mono ?_); rintro e w' ⟨rfl, ⟨nd, rfl⟩⟩; refine ⟨_, rfl, ?_⟩) | (go_at_call 114; (with_reducible refine (hlc_in.calls a0_1 65536 false _ A4.out).mono ?_); rintro e w' ⟨rfl, ⟨nd, rfl⟩⟩))
  go_ret
  exact ⟨q0, Short.hB HB⟩
 subst c5
 rw [if_pos rfl] at H
 obtain ⟨t280, A6, H⟩ := Option.bind_eq_some_iff.mp H
 replace A6 := mk_ A6
 by_cases c7 : t280 = true
 ·
  subst c7
  rw [if_pos rfl] at H
  obtain rfl := Option.some.inj H
  go_enter Try.func100, Try.ntmps100
  go_wp2_with (first | ((with_reducible refine gate_dst (N := 1) rfl ?_); refine box_event ?hg (N := 1) ?hd (cs := #[.int .i64 a0_0, .int .i64 a0_1, .int .i64 a0_2]) (t := 28) ?hr ?_; (case hd => rfl); (case hg => rfl); (case hr => first | (go_simp; done) | (go_simp; rfl)); intro gb277 hg w8 hbox hb; have n0_ := mk_ (below_step (Short.hB HB) hb); have n1_ := mk_ (hbox); have n2_ := mk_ ((by rw [hg]; exact (below_size (Short.hB HB)) : w.heap.size ≤ gb277)); have n3_ := mk_ ((by rw [hg]; exact (below_size (Short.hB HB)) : w.heap.size ≤ gb277)); clear HB; revert n0_ n1_ n2_ n3_; intro HB BK277 GW277 GE277; clear hb hbox hg; obtain ⟨hcz_0, hcz_1, hcz_2, hfz_0, hfz_1, hfz_2⟩ := Short.c3 BK277.out) | ((with_reducible refine gate_callee (f := 114) rfl ?_); refine Short.gL (some 5) Try.func114 #[.int .i64 a0_0, .int .i64 1099511627776] (h := ?_); (with_reducible refine (hlc_in.calls a0_0 1099511627776 true _ A2.out).mono ?_); rintro e w' ⟨rfl, ⟨nd, rfl⟩⟩; refine ⟨_, rfl, ?_⟩) | (go_at_call 114; (with_reducible refine (hlc_in.calls a0_1 65536 true _ A4.out).mono ?_); rintro e w' ⟨rfl, ⟨nd, rfl⟩⟩) | (go_at_call 114; (with_reducible refine (hlc_in.calls a0_2 4 true _ A6.out).mono ?_); rintro e w' ⟨rfl, ⟨nd, rfl⟩⟩))
  go_ret
  exact ⟨q0, Short.hB HB⟩
 replace c7 := Bool.eq_false_iff.mpr c7
 subst c7
 rw [if_neg (show ¬ (false = true) by decide)] at H
 obtain rfl := Option.some.inj H
 go_enter Try.func100, Try.ntmps100
 go_wp2_with (first | ((with_reducible refine gate_dst (N := 1) rfl ?_); refine box_event ?hg (N := 1) ?hd (cs := #[.int .i64 a0_0, .int .i64 a0_1, .int .i64 a0_2]) (t := 28) ?hr ?_; (case hd => rfl); (case hg => rfl); (case hr => first | (go_simp; done) | (go_simp; rfl)); intro gb277 hg w10 hbox hb; have n0_ := mk_ (below_step (Short.hB HB) hb); have n1_ := mk_ (hbox); have n2_ := mk_ ((by rw [hg]; exact (below_size (Short.hB HB)) : w.heap.size ≤ gb277)); have n3_ := mk_ ((by rw [hg]; exact (below_size (Short.hB HB)) : w.heap.size ≤ gb277)); clear HB; revert n0_ n1_ n2_ n3_; intro HB BK277 GW277 GE277; clear hb hbox hg; obtain ⟨hcz_0, hcz_1, hcz_2, hfz_0, hfz_1, hfz_2⟩ := Short.c3 BK277.out) | ((with_reducible refine gate_callee (f := 114) rfl ?_); refine Short.gL (some 5) Try.func114 #[.int .i64 a0_0, .int .i64 1099511627776] (h := ?_); (with_reducible refine (hlc_in.calls a0_0 1099511627776 true _ A2.out).mono ?_); rintro e w' ⟨rfl, ⟨nd, rfl⟩⟩; refine ⟨_, rfl, ?_⟩) | (go_at_call 114; (with_reducible refine (hlc_in.calls a0_1 65536 true _ A4.out).mono ?_); rintro e w' ⟨rfl, ⟨nd, rfl⟩⟩) | (go_at_call 114; (with_reducible refine (hlc_in.calls a0_2 4 false _ A6.out).mono ?_); rintro e w' ⟨rfl, ⟨nd, rfl⟩⟩))
 go_ret
 exact ⟨q0, Short.hB HB⟩
end Go.Proofs.Ytjnjfogfpmeacaa.PAll
end
section
namespace Go.Proofs.Ytjnjfogfpmeacaa.PAll
open Go.RowKit PrintWords PrintLast PrintMore ZipT PrintWords.Kd PrintMore.Kd
attribute [local go_sem] max2_int min2_int max_two min_two max_three min_three max_four min_four   -- for this text's walks alone
set_option linter.unusedVariables false
set_option linter.unusedSimpArgs false
def op_whole.f (k : Nat) (a0 : Int) (a1_0 : Int) (a1_1 : Int) (l1_2 : List Int) (a1_3 : Int) (a1_4 : Int) (a1_5 : Int) (a1_6 : Int) (a1_7 : Int) (a1_8 : ByteArray) (a1_9 : Int) (l1_10 : List (S84)) (l1_11 : List (S25)) : Option (Bool) := if a1_0 ≥ 0 then (if a1_0 < a0 then (if a1_1 ≥ 1 then (if a1_1 ≤ 1073741824 then (if (l1_2.length : Int) = a0 then ((dot_Check.f k l1_2).bind fun t283 => (if t283 = 0 then (if 0 ≤ a1_0 then (if a1_0 < (l1_2.length : Int) then (if (rd l1_2 a1_0) = (wrap64 (a1_1 - 1)) then ((hlc_Check.f a1_3 a1_4 a1_5).bind fun t285 => (if t285 = 0 then (some (a1_5 == a1_0)) else (some false))) else (some false)) else (none)) else (none)) else (some false))) else (some false)) else (some false)) else (some false)) else (some false)) else (some false)
def op_whole.T2 : Bool × List (List Nat × List Nat) := (true, [([], []), ([0], [0]), ([1], [1]), ([2], [2]), ([3], [3]), ([4, 3], [3, 4]), ([3], [3]), ([5, 6, 3], [3, 5, 6]), ([3, 7], [3, 7]), ([8, 3], [8]), ([9], [9]), ([10, 9], [9, 10]), ([11, 9], [9, 11]), ([9, 12], [9, 12]), ([13, 9], [13]), ([14], [14]), ([15, 14], [14, 15]), ([16, 14], [14, 16]), ([14, 17], [14, 17]), ([18, 14], [18]), ([19], [19]), ([20, 19], [19, 20]), ([21, 19], [19, 21]), ([19], [19]), ([22, 23, 19], [19, 22, 23]), ([19, 24], [19, 24]), ([25, 19], [25]), ([26], [26]), ([27, 26], [26, 27]), ([28, 26, 26], [26, 28]), ([29, 26], [26, 29]), ([26, 30], [26, 30]), ([31, 29], [31]), ([32], [32]), ([33, 32], [32, 33]), ([32], [32]), ([35, 32], [32, 35]), ([34, 36, 32], [32, 34, 36]), ([37, 32], [32, 37]), ([32], [32]), ([39, 32], [32, 39]), ([40, 32], [32, 40]), ([38, 41, 32], [32, 38, 41]), ([32, 42], [32, 42]), ([43, 32], [43]), ([44], [44]), ([45, 44], [44, 45]), ([46, 44, 44], [44, 46]), ([47, 44], [44, 47]), ([44, 48], [44, 48]), ([49, 47], [49]), ([50], [50]), ([51, 50], [50, 51]), ([52, 50], [50, 52]), ([50], [50]), ([54, 50], [50, 54]), ([53, 55, 50], [50, 53, 55]), ([50, 56], [50, 56]), ([57, 50, 0, 1, 2, 3, 4, 5, 6, 7, 8, 9, 10, 11, 12, 13, 14, 15, 16, 17, 18, 19, 20, 21, 22, 23, 24, 25, 26, 27, 28, 29, 30, 31, 32, 33, 34, 35, 36, 37, 38, 39, 40, 41, 42, 43, 44, 45, 46, 47, 48, 49, 50, 51, 52, 53, 54, 55, 56, 57], [57])])
def op_whole.B2 : List Nat := [0, 1, 3, 7, 15, 31, 15, 127, 255, 511, 1023, 2047, 4095, 8191, 16383, 32767, 65535, 131071, 262143, 524287, 1048575, 2097151, 4194303, 1048575, 16777215, 33554431, 67108863, 134217727, 268435455, 536870911, 1073741823, 2147483647, 4294967295, 8589934591, 17179869183, 8589934591, 42949672959, 137438953471, 274877906943, 8589934591, 558345748479, 1657857376255, 4398046511103, 8796093022207, 17592186044415, 35184372088831, 70368744177663, 140737488355327, 281474976710655, 562949953421311, 1125899906842623, 2251799813685247, 4503599627370495, 9007199254740991, 2251799813685247, 20266198323167231, 72057594037927935, 144115188075855871, 288230376151711743]
theorem op_whole.tab2 : rtab .any (opsOf Try.f73 2) = op_whole.T2 := by kernel_rfl
theorem op_whole.bits2 : waitsOk op_whole.T2.2 op_whole.B2 = true := by kernel_rfl
theorem op_whole.calls (k : Nat) (a0 : Int) (a1_0 : Int) (a1_1 : Int) (A1_2 : Option Addr) (c1_2 : Nat) (l1_2 : List Int) (a1_3 : Int) (a1_4 : Int) (a1_5 : Int) (a1_6 : Int) (a1_7 : Int) (a1_8 : ByteArray) (a1_9 : Int) (A1_10 : Option Addr) (c1_10 : Nat) (l1_10 : List (S84)) (A1_11 : Option Addr) (c1_11 : Nat) (l1_11 : List (S25)) (r : Bool) (w : World) (hr1_2 : Kd.C (Kd.int .i64) w A1_2 l1_2.length l1_2) (hc1_2 : l1_2.length ≤ c1_2) (hr1_10 : Kd.C k84 w A1_10 l1_10.length l1_10) (hc1_10 : l1_10.length ≤ c1_10) (hr1_11 : Kd.C k25 w A1_11 l1_11.length l1_11) (hc1_11 : l1_11.length ≤ c1_11) (h : op_whole.f k a0 a1_0 a1_1 l1_2 a1_3 a1_4 a1_5 a1_6 a1_7 a1_8 a1_9 l1_10 l1_11 = some r) :
  Calls Try.prog 73 #[.int .i64 a0, .agg #[.int .i64 a1_0, .int .i64 a1_1, .slice A1_2 l1_2.length c1_2, .int .i64 a1_3, .int .i64 a1_4, .int .i64 a1_5, .int .i64 a1_6, .int .i64 a1_7, .string a1_8, .int .i64 a1_9, .slice A1_10 l1_10.length c1_10, .slice A1_11 l1_11.length c1_11]] w fun e w' => e = .returned (.bool r) ∧ Below w.heap.size w w' := by
 have hu32 := Try.underlying32
 have hu25 := Try.underlying25
 have hu28 := Try.underlying28
 have HR1_2 := mk_ hr1_2
 have HC1_2 := mk_ hc1_2
 clear hr1_2 hc1_2
 have HR1_10 := mk_ hr1_10
 have HC1_10 := mk_ hc1_10
 clear hr1_10 hc1_10
 have HR1_11 := mk_ hr1_11
 have HC1_11 := mk_ hc1_11
 clear hr1_11 hc1_11
 have HB := mk_ (Below.refl w.heap.size w)
 have H : (if a1_0 ≥ 0 then (if a1_0 < a0 then (if a1_1 ≥ 1 then (if a1_1 ≤ 1073741824 then (if (l1_2.length : Int) = a0 then ((dot_Check.f k l1_2).bind fun t283 => (if t283 = 0 then (if 0 ≤ a1_0 then (if a1_0 < (l1_2.length : Int) then (if (rd l1_2 a1_0) = (wrap64 (a1_1 - 1)) then ((hlc_Check.f a1_3 a1_4 a1_5).bind fun t285 => (if t285 = 0 then (some (a1_5 == a1_0)) else (some false))) else (some false)) else (none)) else (none)) else (some false))) else (some false)) else (some false)) else (some false)) else (some false)) else (some false)) = some r := h
 clear h
 by_cases c3 : a1_0 ≥ 0
 rotate_left
 ·
  rw [if_neg c3] at H
  have c3b0 : decide (0 ≤ a1_0) = false := decide_eq_false c3
  clear c3
  obtain rfl := Option.some.inj H
  go_enter Try.func73, Try.ntmps73
  try go_wp2_with (first | ((with_reducible refine gate_dst (N := 3) rfl ?_); (try (refine gate_guard (by rfl) ?_; dsimp only)); refine box_event ?hg (N := 3) ?hd (cs := #[.int .i64 a1_0, .int .i64 a1_1, .slice A1_2 l1_2.length c1_2, .int .i64 a1_3, .int .i64 a1_4, .int .i64 a1_5, .int .i64 a1_6, .int .i64 a1_7, .string a1_8, .int .i64 a1_9, .slice A1_10 l1_10.length c1_10, .slice A1_11 l1_11.length c1_11]) (t := 32) ?hr ?_; (case hd => rfl); (case hg => rfl); (case hr => first | (go_simp; done) | (go_simp; rfl)); intro gb281 hg w73 hbox hb; have n0_ := mk_ (below_step (Short.hB HB) hb); have n1_ := mk_ (hbox); have n2_ := mk_ ((by rw [hg]; exact (below_size (Short.hB HB)) : w.heap.size ≤ gb281)); have n3_ := mk_ ((by rw [hg]; exact (below_size (Short.hB HB)) : w.heap.size ≤ gb281)); clear HB; revert n0_ n1_ n2_ n3_; intro HB BK281 GW281 GE281; clear hb hbox hg; have hcz_0 := blk_cell BK281.out; have hfz_0 := blk_frozen BK281.out) | ((with_reducible refine gate_dst (N := 5) rfl ?_); (try (refine gate_guard (by rfl) ?_; dsimp only)); refine box_event ?hg (N := 5) ?hd (cs := #[.int .i64 0, .int .i64 0]) (t := 25) ?hr ?_; (case hd => rfl); (case hg => rfl); (case hr => first | (go_simp; done) | (go_simp; rfl)); intro gb282 hg w75 hbox hb; have n0_ := mk_ (bB_ BK281 hb); have n1_ := mk_ (below_step (Short.hB HB) hb); have n2_ := mk_ (hbox); have n3_ := mk_ ((by rw [hg]; exact (below_size (Short.hB HB)) : w.heap.size ≤ gb282)); have n4_ := mk_ ((by rw [hg]; exact (below_size (Short.hB HB)) : w.heap.size ≤ gb282)); have n5_ := mk_ ((by rw [hg]; exact Nat.ne_of_lt (blk_lt (Short.bK BK281)) : gb281 ≠ gb282)); have n6_ := mk_ ((by rw [hg]; exact Nat.ne_of_gt (blk_lt (Short.bK BK281)) : gb282 ≠ gb281)); clear BK281 HB; revert n0_ n1_ n2_ n3_ n4_ n5_ n6_; intro BK281 HB BK282 GW282 GE282 NB281_282 NB282_281; clear hb hbox hg; have hnb76 := NB282_281.out; have hnc76 := NB281_282.out; obtain ⟨hcz_0, hcz_1, hfz_0, hfz_1⟩ := Short.c2 BK282.out))
  have n0_ : Aside0 (((w75.setCell ⟨gb282, 0, none⟩ (.int .i64 a1_0)).setCell ⟨gb282, 1, none⟩ (.int .i64 a1_1)).heap[gb281]? = some (.cells #[.int .i64 a1_0, .int .i64 a1_1, .slice A1_2 l1_2.length c1_2, .int .i64 a1_3, .int .i64 a1_4, .int .i64 a1_5, .int .i64 a1_6, .int .i64 a1_7, .string a1_8, .int .i64 a1_9, .slice A1_10 l1_10.length c1_10, .slice A1_11 l1_11.length c1_11] 32 (0, 0))) := ⟨by (with_reducible repeat (first | refine blk_drewN ?_ _ | refine blk_drew ?_ | refine blk_alloc ?_ _)); refine blk_far ?_ NB281_282.out _; (with_reducible repeat (first | refine blk_drewN ?_ _ | refine blk_drew ?_ | refine blk_alloc ?_ _)); refine blk_far ?_ NB281_282.out _; (with_reducible repeat (first | refine blk_drewN ?_ _ | refine blk_drew ?_ | refine blk_alloc ?_ _)); exact BK281.out⟩
  have n1_ : Aside0 (((w75.setCell ⟨gb282, 0, none⟩ (.int .i64 a1_0)).setCell ⟨gb282, 1, none⟩ (.int .i64 a1_1)).heap[gb282]? = some (.cells #[.int .i64 a1_0, .int .i64 a1_1] 25 (0, 0))) := ⟨by (with_reducible repeat (first | refine blk_drewN ?_ _ | refine blk_drew ?_ | refine blk_alloc ?_ _)); refine blk_put (cs := #[.int .i64 a1_0, .int .i64 0]) ?_ 1 _ rfl; (with_reducible repeat (first | refine blk_drewN ?_ _ | refine blk_drew ?_ | refine blk_alloc ?_ _)); refine blk_put (cs := #[.int .i64 0, .int .i64 0]) ?_ 0 _ rfl; (with_reducible repeat (first | refine blk_drewN ?_ _ | refine blk_drew ?_ | refine blk_alloc ?_ _)); exact BK282.out⟩
  have n2_ : Aside0 (Below w.heap.size w ((w75.setCell ⟨gb282, 0, none⟩ (.int .i64 a1_0)).setCell ⟨gb282, 1, none⟩ (.int .i64 a1_1))) := ⟨Short.hB HB⟩
  (try clear BK281)
  (try clear BK282)
  (try clear HB)
  generalize ((w75.setCell ⟨gb282, 0, none⟩ (.int .i64 a1_0)).setCell ⟨gb282, 1, none⟩ (.int .i64 a1_1)) = w78 at n0_ n1_ n2_ ⊢
  revert n0_ n1_ n2_
  intro BK281 BK282 HB
  have n0_ := mk_ (blk_drew BK281.out)
  have n1_ := mk_ (blk_drew BK282.out)
  have n2_ := mk_ (below_drew1 HB.out)
  clear BK281 BK282 HB
  revert n0_ n1_ n2_
  intro BK281 BK282 HB
  refine start_ (n := 59) (S := fun w' => w'.cell? ⟨gb282, 0, none⟩ = some (.int .i64 a1_0) ∧ w'.cell? ⟨gb282, 1, none⟩ = some (.int .i64 a1_1)) (ds := []) (Steps.Bs 59 0) z0_ rfl rfl ⟨kc_ BK282 0, kc_ BK282 1⟩ (fun hHeld => ?_); refine with_tabW op_whole.tab2 op_whole.bits2 (fun HT_ HW_ => ?_)
  generalize w78.drew = w79 at BK281 BK282 HB hHeld ⊢
  refine tI HT_ 0 8 59 1 ?_
  refine tT HT_ HW_ hHeld 1 9 59 3 ?_
  refine tI HT_ 2 10 59 7 ?_
  refine tI HT_ 3 11 59 15 ?_
  refine tR HT_ 4 12 59 31 ?_
  refine tR HT_ 5 13 59 63 ?_
  refine tR HT_ 6 14 59 127 ?_
  refine tR HT_ 7 15 59 255 ?_
  refine tI HT_ 8 16 59 511 ?_
  refine tI HT_ 9 17 59 1023 ?_
  refine tR HT_ 10 18 59 2047 ?_
  refine tR HT_ 11 19 59 4095 ?_
  refine tR HT_ 12 20 59 8191 ?_
  refine tI HT_ 13 21 59 16383 ?_
  refine tI HT_ 14 22 59 32767 ?_
  refine tR HT_ 15 23 59 65535 ?_
  refine tR HT_ 16 24 59 131071 ?_
  refine tR HT_ 17 25 59 262143 ?_
  refine tI HT_ 18 26 59 524287 ?_
  refine tI HT_ 19 27 59 1048575 ?_
  refine tR HT_ 20 28 59 2097151 ?_
  refine tR HT_ 21 29 59 4194303 ?_
  refine tR HT_ 22 30 59 8388607 ?_
  refine tR HT_ 23 31 59 16777215 ?_
  refine tR HT_ 24 32 59 33554431 ?_
  refine tI HT_ 25 33 59 67108863 ?_
  refine tI HT_ 26 34 59 134217727 ?_
  refine tR HT_ 27 35 59 268435455 ?_
  refine tR HT_ 28 36 59 536870911 ?_
  refine tR HT_ 29 37 59 1073741823 ?_
  refine tR HT_ 30 38 59 2147483647 ?_
  refine tI HT_ 31 39 59 4294967295 ?_
  refine tI HT_ 32 40 59 8589934591 ?_
  refine tR HT_ 33 41 59 17179869183 ?_
  refine tR HT_ 34 42 59 34359738367 ?_
  refine tR HT_ 35 43 59 68719476735 ?_
  refine tR HT_ 36 44 59 137438953471 ?_
  refine tR HT_ 37 45 59 274877906943 ?_
  refine tR HT_ 38 46 59 549755813887 ?_
  refine tR HT_ 39 47 59 1099511627775 ?_
  refine tR HT_ 40 48 59 2199023255551 ?_
  refine tR HT_ 41 49 59 4398046511103 ?_
  refine tR HT_ 42 50 59 8796093022207 ?_
  refine tI HT_ 43 51 59 17592186044415 ?_
  refine tI HT_ 44 52 59 35184372088831 ?_
  refine tR HT_ 45 53 59 70368744177663 ?_
  refine tR HT_ 46 54 59 140737488355327 ?_
  refine tR HT_ 47 55 59 281474976710655 ?_
  refine tR HT_ 48 56 59 562949953421311 ?_
  refine tI HT_ 49 57 59 1125899906842623 ?_
  refine tI HT_ 50 58 59 2251799813685247 ?_
  refine tR HT_ 51 59 59 4503599627370495 ?_
  refine tR HT_ 52 60 59 9007199254740991 ?_
  refine tR HT_ 53 61 59 18014398509481983 ?_
  refine tR HT_ 54 62 59 36028797018963967 ?_
  refine tR HT_ 55 63 59 72057594037927935 ?_
  refine tR HT_ 56 64 59 144115188075855871 ?_
  refine tI HT_ 57 65 59 288230376151711743 ?_
  refine tI HT_ 58 4 59 576460752303423487 ?_
  refine done_ (done_of HT_.out z0_) ?_
  try go_wp2
  go_ret
  exact ⟨q0, Short.hB HB⟩
 rw [if_pos c3] at H
 have c3b0 : decide (0 ≤ a1_0) = true := decide_eq_true c3
 clear c3
 by_cases c4 : a1_0 < a0
 rotate_left
 ·
  rw [if_neg c4] at H
  have c4b0 : decide (a1_0 < a0) = false := decide_eq_false c4
  clear c4
  obtain rfl := Option.some.inj H
  go_enter Try.func73, Try.ntmps73
  try go_wp2_with (first | ((with_reducible refine gate_dst (N := 3) rfl ?_); (try (refine gate_guard (by rfl) ?_; dsimp only)); refine box_event ?hg (N := 3) ?hd (cs := #[.int .i64 a1_0, .int .i64 a1_1, .slice A1_2 l1_2.length c1_2, .int .i64 a1_3, .int .i64 a1_4, .int .i64 a1_5, .int .i64 a1_6, .int .i64 a1_7, .string a1_8, .int .i64 a1_9, .slice A1_10 l1_10.length c1_10, .slice A1_11 l1_11.length c1_11]) (t := 32) ?hr ?_; (case hd => rfl); (case hg => rfl); (case hr => first | (go_simp; done) | (go_simp; rfl)); intro gb281 hg w66 hbox hb; have n0_ := mk_ (below_step (Short.hB HB) hb); have n1_ := mk_ (hbox); have n2_ := mk_ ((by rw [hg]; exact (below_size (Short.hB HB)) : w.heap.size ≤ gb281)); have n3_ := mk_ ((by rw [hg]; exact (below_size (Short.hB HB)) : w.heap.size ≤ gb281)); clear HB; revert n0_ n1_ n2_ n3_; intro HB BK281 GW281 GE281; clear hb hbox hg; have hcz_0 := blk_cell BK281.out; have hfz_0 := blk_frozen BK281.out) | ((with_reducible refine gate_dst (N := 5) rfl ?_); (try (refine gate_guard (by rfl) ?_; dsimp only)); refine box_event ?hg (N := 5) ?hd (cs := #[.int .i64 0, .int .i64 0]) (t := 25) ?hr ?_; (case hd => rfl); (case hg => rfl); (case hr => first | (go_simp; done) | (go_simp; rfl)); intro gb282 hg w68 hbox hb; have n0_ := mk_ (bB_ BK281 hb); have n1_ := mk_ (below_step (Short.hB HB) hb); have n2_ := mk_ (hbox); have n3_ := mk_ ((by rw [hg]; exact (below_size (Short.hB HB)) : w.heap.size ≤ gb282)); have n4_ := mk_ ((by rw [hg]; exact (below_size (Short.hB HB)) : w.heap.size ≤ gb282)); have n5_ := mk_ ((by rw [hg]; exact Nat.ne_of_lt (blk_lt (Short.bK BK281)) : gb281 ≠ gb282)); have n6_ := mk_ ((by rw [hg]; exact Nat.ne_of_gt (blk_lt (Short.bK BK281)) : gb282 ≠ gb281)); clear BK281 HB; revert n0_ n1_ n2_ n3_ n4_ n5_ n6_; intro BK281 HB BK282 GW282 GE282 NB281_282 NB282_281; clear hb hbox hg; have hnb69 := NB282_281.out; have hnc69 := NB281_282.out; obtain ⟨hcz_0, hcz_1, hfz_0, hfz_1⟩ := Short.c2 BK282.out))
  have n0_ : Aside0 (((w68.setCell ⟨gb282, 0, none⟩ (.int .i64 a1_0)).setCell ⟨gb282, 1, none⟩ (.int .i64 a1_1)).heap[gb281]? = some (.cells #[.int .i64 a1_0, .int .i64 a1_1, .slice A1_2 l1_2.length c1_2, .int .i64 a1_3, .int .i64 a1_4, .int .i64 a1_5, .int .i64 a1_6, .int .i64 a1_7, .string a1_8, .int .i64 a1_9, .slice A1_10 l1_10.length c1_10, .slice A1_11 l1_11.length c1_11] 32 (0, 0))) := ⟨by (with_reducible repeat (first | refine blk_drewN ?_ _ | refine blk_drew ?_ | refine blk_alloc ?_ _)); refine blk_far ?_ NB281_282.out _; (with_reducible repeat (first | refine blk_drewN ?_ _ | refine blk_drew ?_ | refine blk_alloc ?_ _)); refine blk_far ?_ NB281_282.out _; (with_reducible repeat (first | refine blk_drewN ?_ _ | refine blk_drew ?_ | refine blk_alloc ?_ _)); exact BK281.out⟩
  have n1_ : Aside0 (((w68.setCell ⟨gb282, 0, none⟩ (.int .i64 a1_0)).setCell ⟨gb282, 1, none⟩ (.int .i64 a1_1)).heap[gb282]? = some (.cells #[.int .i64 a1_0, .int .i64 a1_1] 25 (0, 0))) := ⟨by (with_reducible repeat (first | refine blk_drewN ?_ _ | refine blk_drew ?_ | refine blk_alloc ?_ _)); refine blk_put (cs := #[.int .i64 a1_0, .int .i64 0]) ?_ 1 _ rfl; (with_reducible repeat (first | refine blk_drewN ?_ _ | refine blk_drew ?_ | refine blk_alloc ?_ _)); refine blk_put (cs := #[.int .i64 0, .int .i64 0]) ?_ 0 _ rfl; (with_reducible repeat (first | refine blk_drewN ?_ _ | refine blk_drew ?_ | refine blk_alloc ?_ _)); exact BK282.out⟩
  have n2_ : Aside0 (Below w.heap.size w ((w68.setCell ⟨gb282, 0, none⟩ (.int .i64 a1_0)).setCell ⟨gb282, 1, none⟩ (.int .i64 a1_1))) := ⟨Short.hB HB⟩
  (try clear BK281)
  (try clear BK282)
  (try clear HB)
  generalize ((w68.setCell ⟨gb282, 0, none⟩ (.int .i64 a1_0)).setCell ⟨gb282, 1, none⟩ (.int .i64 a1_1)) = w71 at n0_ n1_ n2_ ⊢
  revert n0_ n1_ n2_
  intro BK281 BK282 HB
  have n0_ := mk_ (blk_drew BK281.out)
  have n1_ := mk_ (blk_drew BK282.out)
  have n2_ := mk_ (below_drew1 HB.out)
  clear BK281 BK282 HB
  revert n0_ n1_ n2_
  intro BK281 BK282 HB
  refine start_ (n := 59) (S := fun w' => w'.cell? ⟨gb282, 0, none⟩ = some (.int .i64 a1_0) ∧ w'.cell? ⟨gb282, 1, none⟩ = some (.int .i64 a1_1)) (ds := []) (Steps.Bs 59 0) z0_ rfl rfl ⟨kc_ BK282 0, kc_ BK282 1⟩ (fun hHeld => ?_); refine with_tabW op_whole.tab2 op_whole.bits2 (fun HT_ HW_ => ?_)
  generalize w71.drew = w72 at BK281 BK282 HB hHeld ⊢
  refine tI HT_ 0 8 59 1 ?_
  refine tT HT_ HW_ hHeld 1 9 59 3 ?_
  refine tI HT_ 2 10 59 7 ?_
  refine tI HT_ 3 11 59 15 ?_
  refine tI HT_ 4 12 59 31 ?_
  refine tI HT_ 6 14 59 95 ?_
  refine tT HT_ HW_ hHeld 5 13 59 127 ?_
  refine tI HT_ 7 15 59 255 ?_
  refine tI HT_ 8 16 59 511 ?_
  refine tI HT_ 9 17 59 1023 ?_
  refine tR HT_ 10 18 59 2047 ?_
  refine tR HT_ 11 19 59 4095 ?_
  refine tR HT_ 12 20 59 8191 ?_
  refine tI HT_ 13 21 59 16383 ?_
  refine tI HT_ 14 22 59 32767 ?_
  refine tR HT_ 15 23 59 65535 ?_
  refine tR HT_ 16 24 59 131071 ?_
  refine tR HT_ 17 25 59 262143 ?_
  refine tI HT_ 18 26 59 524287 ?_
  refine tI HT_ 19 27 59 1048575 ?_
  refine tR HT_ 20 28 59 2097151 ?_
  refine tR HT_ 21 29 59 4194303 ?_
  refine tR HT_ 22 30 59 8388607 ?_
  refine tR HT_ 23 31 59 16777215 ?_
  refine tR HT_ 24 32 59 33554431 ?_
  refine tI HT_ 25 33 59 67108863 ?_
  refine tI HT_ 26 34 59 134217727 ?_
  refine tR HT_ 27 35 59 268435455 ?_
  refine tR HT_ 28 36 59 536870911 ?_
  refine tR HT_ 29 37 59 1073741823 ?_
  refine tR HT_ 30 38 59 2147483647 ?_
  refine tI HT_ 31 39 59 4294967295 ?_
  refine tI HT_ 32 40 59 8589934591 ?_
  refine tR HT_ 33 41 59 17179869183 ?_
  refine tR HT_ 34 42 59 34359738367 ?_
  refine tR HT_ 35 43 59 68719476735 ?_
  refine tR HT_ 36 44 59 137438953471 ?_
  refine tR HT_ 37 45 59 274877906943 ?_
  refine tR HT_ 38 46 59 549755813887 ?_
  refine tR HT_ 39 47 59 1099511627775 ?_
  refine tR HT_ 40 48 59 2199023255551 ?_
  refine tR HT_ 41 49 59 4398046511103 ?_
  refine tR HT_ 42 50 59 8796093022207 ?_
  refine tI HT_ 43 51 59 17592186044415 ?_
  refine tI HT_ 44 52 59 35184372088831 ?_
  refine tR HT_ 45 53 59 70368744177663 ?_
  refine tR HT_ 46 54 59 140737488355327 ?_
  refine tR HT_ 47 55 59 281474976710655 ?_
  refine tR HT_ 48 56 59 562949953421311 ?_
  refine tI HT_ 49 57 59 1125899906842623 ?_
  refine tI HT_ 50 58 59 2251799813685247 ?_
  refine tR HT_ 51 59 59 4503599627370495 ?_
  refine tR HT_ 52 60 59 9007199254740991 ?_
  refine tR HT_ 53 61 59 18014398509481983 ?_
  refine tR HT_ 54 62 59 36028797018963967 ?_
  refine tR HT_ 55 63 59 72057594037927935 ?_
  refine tR HT_ 56 64 59 144115188075855871 ?_
  refine tI HT_ 57 65 59 288230376151711743 ?_
  refine tI HT_ 58 4 59 576460752303423487 ?_
  refine done_ (done_of HT_.out z0_) ?_
  try go_wp2
  go_ret
  exact ⟨q0, Short.hB HB⟩
 rw [if_pos c4] at H
 have c4b0 : decide (a1_0 < a0) = true := decide_eq_true c4
 clear c4
 by_cases c5 : a1_1 ≥ 1
 rotate_left
 ·
  rw [if_neg c5] at H
  have c5b0 : decide (1 ≤ a1_1) = false := decide_eq_false c5
  clear c5
  obtain rfl := Option.some.inj H
  go_enter Try.func73, Try.ntmps73
  try go_wp2_with (first | ((with_reducible refine gate_dst (N := 3) rfl ?_); (try (refine gate_guard (by rfl) ?_; dsimp only)); refine box_event ?hg (N := 3) ?hd (cs := #[.int .i64 a1_0, .int .i64 a1_1, .slice A1_2 l1_2.length c1_2, .int .i64 a1_3, .int .i64 a1_4, .int .i64 a1_5, .int .i64 a1_6, .int .i64 a1_7, .string a1_8, .int .i64 a1_9, .slice A1_10 l1_10.length c1_10, .slice A1_11 l1_11.length c1_11]) (t := 32) ?hr ?_; (case hd => rfl); (case hg => rfl); (case hr => first | (go_simp; done) | (go_simp; rfl)); intro gb281 hg w59 hbox hb; have n0_ := mk_ (below_step (Short.hB HB) hb); have n1_ := mk_ (hbox); have n2_ := mk_ ((by rw [hg]; exact (below_size (Short.hB HB)) : w.heap.size ≤ gb281)); have n3_ := mk_ ((by rw [hg]; exact (below_size (Short.hB HB)) : w.heap.size ≤ gb281)); clear HB; revert n0_ n1_ n2_ n3_; intro HB BK281 GW281 GE281; clear hb hbox hg; have hcz_0 := blk_cell BK281.out; have hfz_0 := blk_frozen BK281.out) | ((with_reducible refine gate_dst (N := 5) rfl ?_); (try (refine gate_guard (by rfl) ?_; dsimp only)); refine box_event ?hg (N := 5) ?hd (cs := #[.int .i64 0, .int .i64 0]) (t := 25) ?hr ?_; (case hd => rfl); (case hg => rfl); (case hr => first | (go_simp; done) | (go_simp; rfl)); intro gb282 hg w61 hbox hb; have n0_ := mk_ (bB_ BK281 hb); have n1_ := mk_ (below_step (Short.hB HB) hb); have n2_ := mk_ (hbox); have n3_ := mk_ ((by rw [hg]; exact (below_size (Short.hB HB)) : w.heap.size ≤ gb282)); have n4_ := mk_ ((by rw [hg]; exact (below_size (Short.hB HB)) : w.heap.size ≤ gb282)); have n5_ := mk_ ((by rw [hg]; exact Nat.ne_of_lt (blk_lt (Short.bK BK281)) : gb281 ≠ gb282)); have n6_ := mk_ ((by rw [hg]; exact Nat.ne_of_gt (blk_lt (Short.bK BK281)) : gb282 ≠ gb281)); clear BK281 HB; revert n0_ n1_ n2_ n3_ n4_ n5_ n6_; intro BK281 HB BK282 GW282 GE282 NB281_282 NB282_281; clear hb hbox hg; have hnb62 := NB282_281.out; have hnc62 := NB281_282.out; obtain ⟨hcz_0, hcz_1, hfz_0, hfz_1⟩ := Short.c2 BK282.out))
  have n0_ : Aside0 (((w61.setCell ⟨gb282, 0, none⟩ (.int .i64 a1_0)).setCell ⟨gb282, 1, none⟩ (.int .i64 a1_1)).heap[gb281]? = some (.cells #[.int .i64 a1_0, .int .i64 a1_1, .slice A1_2 l1_2.length c1_2, .int .i64 a1_3, .int .i64 a1_4, .int .i64 a1_5, .int .i64 a1_6, .int .i64 a1_7, .string a1_8, .int .i64 a1_9, .slice A1_10 l1_10.length c1_10, .slice A1_11 l1_11.length c1_11] 32 (0, 0))) := ⟨by (with_reducible repeat (first | refine blk_drewN ?_ _ | refine blk_drew ?_ | refine blk_alloc ?_ _)); refine blk_far ?_ NB281_282.out _; (with_reducible repeat (first | refine blk_drewN ?_ _ | refine blk_drew ?_ | refine blk_alloc ?_ _)); refine blk_far ?_ NB281_282.out _; (with_reducible repeat (first | refine blk_drewN ?_ _ | refine blk_drew ?_ | refine blk_alloc ?_ _)); exact BK281.out⟩
  have n1_ : Aside0 (((w61.setCell ⟨gb282, 0, none⟩ (.int .i64 a1_0)).setCell ⟨gb282, 1, none⟩ (.int .i64 a1_1)).heap[gb282]? = some (.cells #[.int .i64 a1_0, .int .i64 a1_1] 25 (0, 0))) := ⟨by (with_reducible repeat (first | refine blk_drewN ?_ _ | refine blk_drew ?_ | refine blk_alloc ?_ _)); refine blk_put (cs := #[.int .i64 a1_0, .int .i64 0]) ?_ 1 _ rfl; (with_reducible repeat (first | refine blk_drewN ?_ _ | refine blk_drew ?_ | refine blk_alloc ?_ _)); refine blk_put (cs := #[.int .i64 0, .int .i64 0]) ?_ 0 _ rfl; (with_reducible repeat (first | refine blk_drewN ?_ _ | refine blk_drew ?_ | refine blk_alloc ?_ _)); exact BK282.out⟩
  have n2_ : Aside0 (Below w.heap.size w ((w61.setCell ⟨gb282, 0, none⟩ (.int .i64 a1_0)).setCell ⟨gb282, 1, none⟩ (.int .i64 a1_1))) := ⟨Short.hB HB⟩
  (try clear BK281)
  (try clear BK282)
  (try clear HB)
  generalize ((w61.setCell ⟨gb282, 0, none⟩ (.int .i64 a1_0)).setCell ⟨gb282, 1, none⟩ (.int .i64 a1_1)) = w64 at n0_ n1_ n2_ ⊢
  revert n0_ n1_ n2_
  intro BK281 BK282 HB
  have n0_ := mk_ (blk_drew BK281.out)
  have n1_ := mk_ (blk_drew BK282.out)
  have n2_ := mk_ (below_drew1 HB.out)
  clear BK281 BK282 HB
  revert n0_ n1_ n2_
  intro BK281 BK282 HB
  refine start_ (n := 59) (S := fun w' => w'.cell? ⟨gb282, 0, none⟩ = some (.int .i64 a1_0) ∧ w'.cell? ⟨gb282, 1, none⟩ = some (.int .i64 a1_1)) (ds := []) (Steps.Bs 59 0) z0_ rfl rfl ⟨kc_ BK282 0, kc_ BK282 1⟩ (fun hHeld => ?_); refine with_tabW op_whole.tab2 op_whole.bits2 (fun HT_ HW_ => ?_)
  generalize w64.drew = w65 at BK281 BK282 HB hHeld ⊢
  refine tI HT_ 0 8 59 1 ?_
  refine tT HT_ HW_ hHeld 1 9 59 3 ?_
  refine tI HT_ 2 10 59 7 ?_
  refine tI HT_ 3 11 59 15 ?_
  refine tI HT_ 4 12 59 31 ?_
  refine tI HT_ 6 14 59 95 ?_
  refine tT HT_ HW_ hHeld 5 13 59 127 ?_
  refine tI HT_ 7 15 59 255 ?_
  refine tI HT_ 8 16 59 511 ?_
  refine tI HT_ 9 17 59 1023 ?_
  refine tI HT_ 10 18 59 2047 ?_
  refine tT HT_ HW_ hHeld 11 19 59 4095 ?_
  refine tI HT_ 12 20 59 8191 ?_
  refine tI HT_ 13 21 59 16383 ?_
  refine tI HT_ 14 22 59 32767 ?_
  refine tR HT_ 15 23 59 65535 ?_
  refine tR HT_ 16 24 59 131071 ?_
  refine tR HT_ 17 25 59 262143 ?_
  refine tI HT_ 18 26 59 524287 ?_
  refine tI HT_ 19 27 59 1048575 ?_
  refine tR HT_ 20 28 59 2097151 ?_
  refine tR HT_ 21 29 59 4194303 ?_
  refine tR HT_ 22 30 59 8388607 ?_
  refine tR HT_ 23 31 59 16777215 ?_
  refine tR HT_ 24 32 59 33554431 ?_
  refine tI HT_ 25 33 59 67108863 ?_
  refine tI HT_ 26 34 59 134217727 ?_
  refine tR HT_ 27 35 59 268435455 ?_
  refine tR HT_ 28 36 59 536870911 ?_
  refine tR HT_ 29 37 59 1073741823 ?_
  refine tR HT_ 30 38 59 2147483647 ?_
  refine tI HT_ 31 39 59 4294967295 ?_
  refine tI HT_ 32 40 59 8589934591 ?_
  refine tR HT_ 33 41 59 17179869183 ?_
  refine tR HT_ 34 42 59 34359738367 ?_
  refine tR HT_ 35 43 59 68719476735 ?_
  refine tR HT_ 36 44 59 137438953471 ?_
  refine tR HT_ 37 45 59 274877906943 ?_
  refine tR HT_ 38 46 59 549755813887 ?_
  refine tR HT_ 39 47 59 1099511627775 ?_
  refine tR HT_ 40 48 59 2199023255551 ?_
  refine tR HT_ 41 49 59 4398046511103 ?_
  refine tR HT_ 42 50 59 8796093022207 ?_
  refine tI HT_ 43 51 59 17592186044415 ?_
  refine tI HT_ 44 52 59 35184372088831 ?_
  refine tR HT_ 45 53 59 70368744177663 ?_
  refine tR HT_ 46 54 59 140737488355327 ?_
  refine tR HT_ 47 55 59 281474976710655 ?_
  refine tR HT_ 48 56 59 562949953421311 ?_
  refine tI HT_ 49 57 59 1125899906842623 ?_
  refine tI HT_ 50 58 59 2251799813685247 ?_
  refine tR HT_ 51 59 59 4503599627370495 ?_
  refine tR HT_ 52 60 59 9007199254740991 ?_
  refine tR HT_ 53 61 59 18014398509481983 ?_
  refine tR HT_ 54 62 59 36028797018963967 ?_
  refine tR HT_ 55 63 59 72057594037927935 ?_
  refine tR HT_ 56 64 59 144115188075855871 ?_
  refine tI HT_ 57 65 59 288230376151711743 ?_
  refine tI HT_ 58 4 59 576460752303423487 ?_
  refine done_ (done_of HT_.out z0_) ?_
  try go_wp2
  go_ret
  exact ⟨q0, Short.hB HB⟩
 rw [if_pos c5] at H
 have c5b0 : decide (1 ≤ a1_1) = true := decide_eq_true c5
 clear c5
 by_cases c6 : a1_1 ≤ 1073741824
 rotate_left
 ·
  rw [if_neg c6] at H
  have c6b0 : decide (a1_1 ≤ 1073741824) = false := decide_eq_false c6
  clear c6
  obtain rfl := Option.some.inj H
  go_enter Try.func73, Try.ntmps73
  try go_wp2_with (first | ((with_reducible refine gate_dst (N := 3) rfl ?_); (try (refine gate_guard (by rfl) ?_; dsimp only)); refine box_event ?hg (N := 3) ?hd (cs := #[.int .i64 a1_0, .int .i64 a1_1, .slice A1_2 l1_2.length c1_2, .int .i64 a1_3, .int .i64 a1_4, .int .i64 a1_5, .int .i64 a1_6, .int .i64 a1_7, .string a1_8, .int .i64 a1_9, .slice A1_10 l1_10.length c1_10, .slice A1_11 l1_11.length c1_11]) (t := 32) ?hr ?_; (case hd => rfl); (case hg => rfl); (case hr => first | (go_simp; done) | (go_simp; rfl)); intro gb281 hg w52 hbox hb; have n0_ := mk_ (below_step (Short.hB HB) hb); have n1_ := mk_ (hbox); have n2_ := mk_ ((by rw [hg]; exact (below_size (Short.hB HB)) : w.heap.size ≤ gb281)); have n3_ := mk_ ((by rw [hg]; exact (below_size (Short.hB HB)) : w.heap.size ≤ gb281)); clear HB; revert n0_ n1_ n2_ n3_; intro HB BK281 GW281 GE281; clear hb hbox hg; have hcz_0 := blk_cell BK281.out; have hfz_0 := blk_frozen BK281.out) | ((with_reducible refine gate_dst (N := 5) rfl ?_); (try (refine gate_guard (by rfl) ?_; dsimp only)); refine box_event ?hg (N := 5) ?hd (cs := #[.int .i64 0, .int .i64 0]) (t := 25) ?hr ?_; (case hd => rfl); (case hg => rfl); (case hr => first | (go_simp; done) | (go_simp; rfl)); intro gb282 hg w54 hbox hb; have n0_ := mk_ (bB_ BK281 hb); have n1_ := mk_ (below_step (Short.hB HB) hb); have n2_ := mk_ (hbox); have n3_ := mk_ ((by rw [hg]; exact (below_size (Short.hB HB)) : w.heap.size ≤ gb282)); have n4_ := mk_ ((by rw [hg]; exact (below_size (Short.hB HB)) : w.heap.size ≤ gb282)); have n5_ := mk_ ((by rw [hg]; exact Nat.ne_of_lt (blk_lt (Short.bK BK281)) : gb281 ≠ gb282)); have n6_ := mk_ ((by rw [hg]; exact Nat.ne_of_gt (blk_lt (Short.bK BK281)) : gb282 ≠ gb281)); clear BK281 HB; revert n0_ n1_ n2_ n3_ n4_ n5_ n6_; intro BK281 HB BK282 GW282 GE282 NB281_282 NB282_281; clear hb hbox hg; have hnb55 := NB282_281.out; have hnc55 := NB281_282.out; obtain ⟨hcz_0, hcz_1, hfz_0, hfz_1⟩ := Short.c2 BK282.out))
  have n0_ : Aside0 (((w54.setCell ⟨gb282, 0, none⟩ (.int .i64 a1_0)).setCell ⟨gb282, 1, none⟩ (.int .i64 a1_1)).heap[gb281]? = some (.cells #[.int .i64 a1_0, .int .i64 a1_1, .slice A1_2 l1_2.length c1_2, .int .i64 a1_3, .int .i64 a1_4, .int .i64 a1_5, .int .i64 a1_6, .int .i64 a1_7, .string a1_8, .int .i64 a1_9, .slice A1_10 l1_10.length c1_10, .slice A1_11 l1_11.length c1_11] 32 (0, 0))) := ⟨by (with_reducible repeat (first | refine blk_drewN ?_ _ | refine blk_drew ?_ | refine blk_alloc ?_ _)); refine blk_far ?_ NB281_282.out _; (with_reducible repeat (first | refine blk_drewN ?_ _ | refine blk_drew ?_ | refine blk_alloc ?_ _)); refine blk_far ?_ NB281_282.out _; (with_reducible repeat (first | refine blk_drewN ?_ _ | refine blk_drew ?_ | refine blk_alloc ?_ _)); exact BK281.out⟩
  have n1_ : Aside0 (((w54.setCell ⟨gb282, 0, none⟩ (.int .i64 a1_0)).setCell ⟨gb282, 1, none⟩ (.int .i64 a1_1)).heap[gb282]? = some (.cells #[.int .i64 a1_0, .int .i64 a1_1] 25 (0, 0))) := ⟨by (with_reducible repeat (first | refine blk_drewN ?_ _ | refine blk_drew ?_ | refine blk_alloc ?_ _)); refine blk_put (cs := #[.int .i64 a1_0, .int .i64 0]) ?_ 1 _ rfl; (with_reducible repeat (first | refine blk_drewN ?_ _ | refine blk_drew ?_ | refine blk_alloc ?_ _)); refine blk_put (cs := #[.int .i64 0, .int .i64 0]) ?_ 0 _ rfl; (with_reducible repeat (first | refine blk_drewN ?_ _ | refine blk_drew ?_ | refine blk_alloc ?_ _)); exact BK282.out⟩
  have n2_ : Aside0 (Below w.heap.size w ((w54.setCell ⟨gb282, 0, none⟩ (.int .i64 a1_0)).setCell ⟨gb282, 1, none⟩ (.int .i64 a1_1))) := ⟨Short.hB HB⟩
  (try clear BK281)
  (try clear BK282)
  (try clear HB)
  generalize ((w54.setCell ⟨gb282, 0, none⟩ (.int .i64 a1_0)).setCell ⟨gb282, 1, none⟩ (.int .i64 a1_1)) = w57 at n0_ n1_ n2_ ⊢
  revert n0_ n1_ n2_
  intro BK281 BK282 HB
  have n0_ := mk_ (blk_drew BK281.out)
  have n1_ := mk_ (blk_drew BK282.out)
  have n2_ := mk_ (below_drew1 HB.out)
  clear BK281 BK282 HB
  revert n0_ n1_ n2_
  intro BK281 BK282 HB
  refine start_ (n := 59) (S := fun w' => w'.cell? ⟨gb282, 0, none⟩ = some (.int .i64 a1_0) ∧ w'.cell? ⟨gb282, 1, none⟩ = some (.int .i64 a1_1)) (ds := []) (Steps.Bs 59 0) z0_ rfl rfl ⟨kc_ BK282 0, kc_ BK282 1⟩ (fun hHeld => ?_); refine with_tabW op_whole.tab2 op_whole.bits2 (fun HT_ HW_ => ?_)
  generalize w57.drew = w58 at BK281 BK282 HB hHeld ⊢
  refine tI HT_ 0 8 59 1 ?_
  refine tT HT_ HW_ hHeld 1 9 59 3 ?_
  refine tI HT_ 2 10 59 7 ?_
  refine tI HT_ 3 11 59 15 ?_
  refine tI HT_ 4 12 59 31 ?_
  refine tI HT_ 6 14 59 95 ?_
  refine tT HT_ HW_ hHeld 5 13 59 127 ?_
  refine tI HT_ 7 15 59 255 ?_
  refine tI HT_ 8 16 59 511 ?_
  refine tI HT_ 9 17 59 1023 ?_
  refine tI HT_ 10 18 59 2047 ?_
  refine tT HT_ HW_ hHeld 11 19 59 4095 ?_
  refine tI HT_ 12 20 59 8191 ?_
  refine tI HT_ 13 21 59 16383 ?_
  refine tI HT_ 14 22 59 32767 ?_
  refine tI HT_ 15 23 59 65535 ?_
  refine tT HT_ HW_ hHeld 16 24 59 131071 ?_
  refine tI HT_ 17 25 59 262143 ?_
  refine tI HT_ 18 26 59 524287 ?_
  refine tI HT_ 19 27 59 1048575 ?_
  refine tR HT_ 20 28 59 2097151 ?_
  refine tR HT_ 21 29 59 4194303 ?_
  refine tR HT_ 22 30 59 8388607 ?_
  refine tR HT_ 23 31 59 16777215 ?_
  refine tR HT_ 24 32 59 33554431 ?_
  refine tI HT_ 25 33 59 67108863 ?_
  refine tI HT_ 26 34 59 134217727 ?_
  refine tR HT_ 27 35 59 268435455 ?_
  refine tR HT_ 28 36 59 536870911 ?_
  refine tR HT_ 29 37 59 1073741823 ?_
  refine tR HT_ 30 38 59 2147483647 ?_
  refine tI HT_ 31 39 59 4294967295 ?_
  refine tI HT_ 32 40 59 8589934591 ?_
  refine tR HT_ 33 41 59 17179869183 ?_
  refine tR HT_ 34 42 59 34359738367 ?_
  refine tR HT_ 35 43 59 68719476735 ?_
  refine tR HT_ 36 44 59 137438953471 ?_
  refine tR HT_ 37 45 59 274877906943 ?_
  refine tR HT_ 38 46 59 549755813887 ?_
  refine tR HT_ 39 47 59 1099511627775 ?_
  refine tR HT_ 40 48 59 2199023255551 ?_
  refine tR HT_ 41 49 59 4398046511103 ?_
  refine tR HT_ 42 50 59 8796093022207 ?_
  refine tI HT_ 43 51 59 17592186044415 ?_
  refine tI HT_ 44 52 59 35184372088831 ?_
  refine tR HT_ 45 53 59 70368744177663 ?_
  refine tR HT_ 46 54 59 140737488355327 ?_
  refine tR HT_ 47 55 59 281474976710655 ?_
  refine tR HT_ 48 56 59 562949953421311 ?_
  refine tI HT_ 49 57 59 1125899906842623 ?_
  refine tI HT_ 50 58 59 2251799813685247 ?_
  refine tR HT_ 51 59 59 4503599627370495 ?_
  refine tR HT_ 52 60 59 9007199254740991 ?_
  refine tR HT_ 53 61 59 18014398509481983 ?_
  refine tR HT_ 54 62 59 36028797018963967 ?_
  refine tR HT_ 55 63 59 72057594037927935 ?_
  refine tR HT_ 56 64 59 144115188075855871 ?_
  refine tI HT_ 57 65 59 288230376151711743 ?_
  refine tI HT_ 58 4 59 576460752303423487 ?_
  refine done_ (done_of HT_.out z0_) ?_
  try go_wp2
  go_ret
  exact ⟨q0, Short.hB HB⟩
 rw [if_pos c6] at H
 have c6b0 : decide (a1_1 ≤ 1073741824) = true := decide_eq_true c6
 clear c6
 by_cases c7 : (l1_2.length : Int) = a0
 rotate_left
 ·
  rw [if_neg c7] at H
  have c7b0 : ((l1_2.length : Int) == a0) = false := beq_eq_false_iff_ne.mpr c7
  have c7b1 : ((l1_2.length : Int) != a0) = true := bne_iff_ne.mpr c7
  obtain rfl := Option.some.inj H
  go_enter Try.func73, Try.ntmps73
  try go_wp2_with (first | ((with_reducible refine gate_dst (N := 3) rfl ?_); (try (refine gate_guard (by rfl) ?_; dsimp only)); refine box_event ?hg (N := 3) ?hd (cs := #[.int .i64 a1_0, .int .i64 a1_1, .slice A1_2 l1_2.length c1_2, .int .i64 a1_3, .int .i64 a1_4, .int .i64 a1_5, .int .i64 a1_6, .int .i64 a1_7, .string a1_8, .int .i64 a1_9, .slice A1_10 l1_10.length c1_10, .slice A1_11 l1_11.length c1_11]) (t := 32) ?hr ?_; (case hd => rfl); (case hg => rfl); (case hr => first | (go_simp; done) | (go_simp; rfl)); intro gb281 hg w45 hbox hb; have n0_ := mk_ (below_step (Short.hB HB) hb); have n1_ := mk_ (hbox); have n2_ := mk_ ((by rw [hg]; exact (below_size (Short.hB HB)) : w.heap.size ≤ gb281)); have n3_ := mk_ ((by rw [hg]; exact (below_size (Short.hB HB)) : w.heap.size ≤ gb281)); clear HB; revert n0_ n1_ n2_ n3_; intro HB BK281 GW281 GE281; clear hb hbox hg; have hcz_0 := blk_cell BK281.out; have hfz_0 := blk_frozen BK281.out) | ((with_reducible refine gate_dst (N := 5) rfl ?_); (try (refine gate_guard (by rfl) ?_; dsimp only)); refine box_event ?hg (N := 5) ?hd (cs := #[.int .i64 0, .int .i64 0]) (t := 25) ?hr ?_; (case hd => rfl); (case hg => rfl); (case hr => first | (go_simp; done) | (go_simp; rfl)); intro gb282 hg w47 hbox hb; have n0_ := mk_ (bB_ BK281 hb); have n1_ := mk_ (below_step (Short.hB HB) hb); have n2_ := mk_ (hbox); have n3_ := mk_ ((by rw [hg]; exact (below_size (Short.hB HB)) : w.heap.size ≤ gb282)); have n4_ := mk_ ((by rw [hg]; exact (below_size (Short.hB HB)) : w.heap.size ≤ gb282)); have n5_ := mk_ ((by rw [hg]; exact Nat.ne_of_lt (blk_lt (Short.bK BK281)) : gb281 ≠ gb282)); have n6_ := mk_ ((by rw [hg]; exact Nat.ne_of_gt (blk_lt (Short.bK BK281)) : gb282 ≠ gb281)); clear BK281 HB; revert n0_ n1_ n2_ n3_ n4_ n5_ n6_; intro BK281 HB BK282 GW282 GE282 NB281_282 NB282_281; clear hb hbox hg; have hnb48 := NB282_281.out; have hnc48 := NB281_282.out; obtain ⟨hcz_0, hcz_1, hfz_0, hfz_1⟩ := Short.c2 BK282.out))
  have n0_ : Aside0 (((w47.setCell ⟨gb282, 0, none⟩ (.int .i64 a1_0)).setCell ⟨gb282, 1, none⟩ (.int .i64 a1_1)).heap[gb281]? = some (.cells #[.int .i64 a1_0, .int .i64 a1_1, .slice A1_2 l1_2.length c1_2, .int .i64 a1_3, .int .i64 a1_4, .int .i64 a1_5, .int .i64 a1_6, .int .i64 a1_7, .string a1_8, .int .i64 a1_9, .slice A1_10 l1_10.length c1_10, .slice A1_11 l1_11.length c1_11] 32 (0, 0))) := ⟨by (with_reducible repeat (first | refine blk_drewN ?_ _ | refine blk_drew ?_ | refine blk_alloc ?_ _)); refine blk_far ?_ NB281_282.out _; (with_reducible repeat (first | refine blk_drewN ?_ _ | refine blk_drew ?_ | refine blk_alloc ?_ _)); refine blk_far ?_ NB281_282.out _; (with_reducible repeat (first | refine blk_drewN ?_ _ | refine blk_drew ?_ | refine blk_alloc ?_ _)); exact BK281.out⟩
  have n1_ : Aside0 (((w47.setCell ⟨gb282, 0, none⟩ (.int .i64 a1_0)).setCell ⟨gb282, 1, none⟩ (.int .i64 a1_1)).heap[gb282]? = some (.cells #[.int .i64 a1_0, .int .i64 a1_1] 25 (0, 0))) := ⟨by (with_reducible repeat (first | refine blk_drewN ?_ _ | refine blk_drew ?_ | refine blk_alloc ?_ _)); refine blk_put (cs := #[.int .i64 a1_0, .int .i64 0]) ?_ 1 _ rfl; (with_reducible repeat (first | refine blk_drewN ?_ _ | refine blk_drew ?_ | refine blk_alloc ?_ _)); refine blk_put (cs := #[.int .i64 0, .int .i64 0]) ?_ 0 _ rfl; (with_reducible repeat (first | refine blk_drewN ?_ _ | refine blk_drew ?_ | refine blk_alloc ?_ _)); exact BK282.out⟩
  have n2_ : Aside0 (Below w.heap.size w ((w47.setCell ⟨gb282, 0, none⟩ (.int .i64 a1_0)).setCell ⟨gb282, 1, none⟩ (.int .i64 a1_1))) := ⟨Short.hB HB⟩
  (try clear BK281)
  (try clear BK282)
  (try clear HB)
  generalize ((w47.setCell ⟨gb282, 0, none⟩ (.int .i64 a1_0)).setCell ⟨gb282, 1, none⟩ (.int .i64 a1_1)) = w50 at n0_ n1_ n2_ ⊢
  revert n0_ n1_ n2_
  intro BK281 BK282 HB
  have n0_ := mk_ (blk_drew BK281.out)
  have n1_ := mk_ (blk_drew BK282.out)
  have n2_ := mk_ (below_drew1 HB.out)
  clear BK281 BK282 HB
  revert n0_ n1_ n2_
  intro BK281 BK282 HB
  refine start_ (n := 59) (S := fun w' => w'.cell? ⟨gb282, 0, none⟩ = some (.int .i64 a1_0) ∧ w'.cell? ⟨gb282, 1, none⟩ = some (.int .i64 a1_1) ∧ w'.cell? ⟨gb281, 0, none⟩ = some (.int .i64 a1_0) ∧ w'.cell? ⟨gb281, 1, none⟩ = some (.int .i64 a1_1) ∧ w'.cell? ⟨gb281, 2, none⟩ = some (.slice A1_2 l1_2.length c1_2) ∧ w'.cell? ⟨gb281, 3, none⟩ = some (.int .i64 a1_3) ∧ w'.cell? ⟨gb281, 4, none⟩ = some (.int .i64 a1_4) ∧ w'.cell? ⟨gb281, 5, none⟩ = some (.int .i64 a1_5) ∧ w'.cell? ⟨gb281, 6, none⟩ = some (.int .i64 a1_6) ∧ w'.cell? ⟨gb281, 7, none⟩ = some (.int .i64 a1_7) ∧ w'.cell? ⟨gb281, 8, none⟩ = some (.string a1_8) ∧ w'.cell? ⟨gb281, 9, none⟩ = some (.int .i64 a1_9) ∧ w'.cell? ⟨gb281, 10, none⟩ = some (.slice A1_10 l1_10.length c1_10) ∧ w'.cell? ⟨gb281, 11, none⟩ = some (.slice A1_11 l1_11.length c1_11)) (ds := []) (Steps.Bs 59 0) z0_ rfl rfl ⟨kc_ BK282 0, kc_ BK282 1, k12e_ BK281⟩ (fun hHeld => ?_); refine with_tabW op_whole.tab2 op_whole.bits2 (fun HT_ HW_ => ?_)
  generalize w50.drew = w51 at BK281 BK282 HB hHeld ⊢
  refine tI HT_ 0 8 59 1 ?_
  refine tT HT_ HW_ hHeld 1 9 59 3 ?_
  refine tI HT_ 2 10 59 7 ?_
  refine tI HT_ 3 11 59 15 ?_
  refine tI HT_ 4 12 59 31 ?_
  refine tI HT_ 6 14 59 95 ?_
  refine tT HT_ HW_ hHeld 5 13 59 127 ?_
  refine tI HT_ 7 15 59 255 ?_
  refine tI HT_ 8 16 59 511 ?_
  refine tI HT_ 9 17 59 1023 ?_
  refine tI HT_ 10 18 59 2047 ?_
  refine tT HT_ HW_ hHeld 11 19 59 4095 ?_
  refine tI HT_ 12 20 59 8191 ?_
  refine tI HT_ 13 21 59 16383 ?_
  refine tI HT_ 14 22 59 32767 ?_
  refine tI HT_ 15 23 59 65535 ?_
  refine tT HT_ HW_ hHeld 16 24 59 131071 ?_
  refine tI HT_ 17 25 59 262143 ?_
  refine tI HT_ 18 26 59 524287 ?_
  refine tI HT_ 19 27 59 1048575 ?_
  refine tI HT_ 20 28 59 2097151 ?_
  refine tI HT_ 23 31 59 10485759 ?_
  refine tT HT_ HW_ hHeld 21 29 59 12582911 ?_
  refine tI HT_ 22 30 59 16777215 ?_
  refine tI HT_ 24 32 59 33554431 ?_
  refine tI HT_ 25 33 59 67108863 ?_
  refine tI HT_ 26 34 59 134217727 ?_
  refine tR HT_ 27 35 59 268435455 ?_
  refine tR HT_ 28 36 59 536870911 ?_
  refine tR HT_ 29 37 59 1073741823 ?_
  refine tR HT_ 30 38 59 2147483647 ?_
  refine tI HT_ 31 39 59 4294967295 ?_
  refine tI HT_ 32 40 59 8589934591 ?_
  refine tR HT_ 33 41 59 17179869183 ?_
  refine tR HT_ 34 42 59 34359738367 ?_
  refine tR HT_ 35 43 59 68719476735 ?_
  refine tR HT_ 36 44 59 137438953471 ?_
  refine tR HT_ 37 45 59 274877906943 ?_
  refine tR HT_ 38 46 59 549755813887 ?_
  refine tR HT_ 39 47 59 1099511627775 ?_
  refine tR HT_ 40 48 59 2199023255551 ?_
  refine tR HT_ 41 49 59 4398046511103 ?_
  refine tR HT_ 42 50 59 8796093022207 ?_
  refine tI HT_ 43 51 59 17592186044415 ?_
  refine tI HT_ 44 52 59 35184372088831 ?_
  refine tR HT_ 45 53 59 70368744177663 ?_
  refine tR HT_ 46 54 59 140737488355327 ?_
  refine tR HT_ 47 55 59 281474976710655 ?_
  refine tR HT_ 48 56 59 562949953421311 ?_
  refine tI HT_ 49 57 59 1125899906842623 ?_
  refine tI HT_ 50 58 59 2251799813685247 ?_
  refine tR HT_ 51 59 59 4503599627370495 ?_
  refine tR HT_ 52 60 59 9007199254740991 ?_
  refine tR HT_ 53 61 59 18014398509481983 ?_
  refine tR HT_ 54 62 59 36028797018963967 ?_
  refine tR HT_ 55 63 59 72057594037927935 ?_
  refine tR HT_ 56 64 59 144115188075855871 ?_
  refine tI HT_ 57 65 59 288230376151711743 ?_
  refine tI HT_ 58 4 59 576460752303423487 ?_
  refine done_ (done_of HT_.out z0_) ?_
  try go_wp2
  go_ret
  exact ⟨q0, Short.hB HB⟩
 rw [if_pos c7] at H
 have c7b0 : ((l1_2.length : Int) == a0) = true := beq_iff_eq.mpr c7
 have c7b1 : ((l1_2.length : Int) != a0) = false := bne_eq_false_iff_eq.mpr c7
 clear c7
 obtain ⟨t283, A8, H⟩ := Option.bind_eq_some_iff.mp H
 replace A8 := mk_ A8
 by_cases c9 : t283 = 0
 rotate_left
 ·
  rw [if_neg c9] at H
  have c9b0 : (t283 == 0) = false := beq_eq_false_iff_ne.mpr c9
  have c9b1 : (t283 != 0) = true := bne_iff_ne.mpr c9
  obtain rfl := Option.some.inj H
  go_enter Try.func73, Try.ntmps73
  try go_wp2_with (first | ((with_reducible refine gate_dst (N := 3) rfl ?_); (try (refine gate_guard (by rfl) ?_; dsimp only)); refine box_event ?hg (N := 3) ?hd (cs := #[.int .i64 a1_0, .int .i64 a1_1, .slice A1_2 l1_2.length c1_2, .int .i64 a1_3, .int .i64 a1_4, .int .i64 a1_5, .int .i64 a1_6, .int .i64 a1_7, .string a1_8, .int .i64 a1_9, .slice A1_10 l1_10.length c1_10, .slice A1_11 l1_11.length c1_11]) (t := 32) ?hr ?_; (case hd => rfl); (case hg => rfl); (case hr => first | (go_simp; done) | (go_simp; rfl)); intro gb281 hg w38 hbox hb; have n0_ := mk_ (below_step (Short.hB HB) hb); have n1_ := mk_ (hbox); have n2_ := mk_ ((by rw [hg]; exact (below_size (Short.hB HB)) : w.heap.size ≤ gb281)); have n3_ := mk_ ((by rw [hg]; exact (below_size (Short.hB HB)) : w.heap.size ≤ gb281)); clear HB; revert n0_ n1_ n2_ n3_; intro HB BK281 GW281 GE281; clear hb hbox hg; have hcz_0 := blk_cell BK281.out; have hfz_0 := blk_frozen BK281.out) | ((with_reducible refine gate_dst (N := 5) rfl ?_); (try (refine gate_guard (by rfl) ?_; dsimp only)); refine box_event ?hg (N := 5) ?hd (cs := #[.int .i64 0, .int .i64 0]) (t := 25) ?hr ?_; (case hd => rfl); (case hg => rfl); (case hr => first | (go_simp; done) | (go_simp; rfl)); intro gb282 hg w40 hbox hb; have n0_ := mk_ (bB_ BK281 hb); have n1_ := mk_ (below_step (Short.hB HB) hb); have n2_ := mk_ (hbox); have n3_ := mk_ ((by rw [hg]; exact (below_size (Short.hB HB)) : w.heap.size ≤ gb282)); have n4_ := mk_ ((by rw [hg]; exact (below_size (Short.hB HB)) : w.heap.size ≤ gb282)); have n5_ := mk_ ((by rw [hg]; exact Nat.ne_of_lt (blk_lt (Short.bK BK281)) : gb281 ≠ gb282)); have n6_ := mk_ ((by rw [hg]; exact Nat.ne_of_gt (blk_lt (Short.bK BK281)) : gb282 ≠ gb281)); clear BK281 HB; revert n0_ n1_ n2_ n3_ n4_ n5_ n6_; intro BK281 HB BK282 GW282 GE282 NB281_282 NB282_281; clear hb hbox hg; have hnb41 := NB282_281.out; have hnc41 := NB281_282.out; obtain ⟨hcz_0, hcz_1, hfz_0, hfz_1⟩ := Short.c2 BK282.out))
  have n0_ : Aside0 (((w40.setCell ⟨gb282, 0, none⟩ (.int .i64 a1_0)).setCell ⟨gb282, 1, none⟩ (.int .i64 a1_1)).heap[gb281]? = some (.cells #[.int .i64 a1_0, .int .i64 a1_1, .slice A1_2 l1_2.length c1_2, .int .i64 a1_3, .int .i64 a1_4, .int .i64 a1_5, .int .i64 a1_6, .int .i64 a1_7, .string a1_8, .int .i64 a1_9, .slice A1_10 l1_10.length c1_10, .slice A1_11 l1_11.length c1_11] 32 (0, 0))) := ⟨by (with_reducible repeat (first | refine blk_drewN ?_ _ | refine blk_drew ?_ | refine blk_alloc ?_ _)); refine blk_far ?_ NB281_282.out _; (with_reducible repeat (first | refine blk_drewN ?_ _ | refine blk_drew ?_ | refine blk_alloc ?_ _)); refine blk_far ?_ NB281_282.out _; (with_reducible repeat (first | refine blk_drewN ?_ _ | refine blk_drew ?_ | refine blk_alloc ?_ _)); exact BK281.out⟩
  have n1_ : Aside0 (((w40.setCell ⟨gb282, 0, none⟩ (.int .i64 a1_0)).setCell ⟨gb282, 1, none⟩ (.int .i64 a1_1)).heap[gb282]? = some (.cells #[.int .i64 a1_0, .int .i64 a1_1] 25 (0, 0))) := ⟨by (with_reducible repeat (first | refine blk_drewN ?_ _ | refine blk_drew ?_ | refine blk_alloc ?_ _)); refine blk_put (cs := #[.int .i64 a1_0, .int .i64 0]) ?_ 1 _ rfl; (with_reducible repeat (first | refine blk_drewN ?_ _ | refine blk_drew ?_ | refine blk_alloc ?_ _)); refine blk_put (cs := #[.int .i64 0, .int .i64 0]) ?_ 0 _ rfl; (with_reducible repeat (first | refine blk_drewN ?_ _ | refine blk_drew ?_ | refine blk_alloc ?_ _)); exact BK282.out⟩
  have n2_ : Aside0 (Below w.heap.size w ((w40.setCell ⟨gb282, 0, none⟩ (.int .i64 a1_0)).setCell ⟨gb282, 1, none⟩ (.int .i64 a1_1))) := ⟨Short.hB HB⟩
  (try clear BK281)
  (try clear BK282)
  (try clear HB)
  generalize ((w40.setCell ⟨gb282, 0, none⟩ (.int .i64 a1_0)).setCell ⟨gb282, 1, none⟩ (.int .i64 a1_1)) = w43 at n0_ n1_ n2_ ⊢
  revert n0_ n1_ n2_
  intro BK281 BK282 HB
  have n0_ := mk_ (blk_drew BK281.out)
  have n1_ := mk_ (blk_drew BK282.out)
  have n2_ := mk_ (below_drew1 HB.out)
  clear BK281 BK282 HB
  revert n0_ n1_ n2_
  intro BK281 BK282 HB
  refine start_ (n := 59) (S := fun w' => w'.cell? ⟨gb282, 0, none⟩ = some (.int .i64 a1_0) ∧ w'.cell? ⟨gb282, 1, none⟩ = some (.int .i64 a1_1) ∧ w'.cell? ⟨gb281, 0, none⟩ = some (.int .i64 a1_0) ∧ w'.cell? ⟨gb281, 1, none⟩ = some (.int .i64 a1_1) ∧ w'.cell? ⟨gb281, 2, none⟩ = some (.slice A1_2 l1_2.length c1_2) ∧ w'.cell? ⟨gb281, 3, none⟩ = some (.int .i64 a1_3) ∧ w'.cell? ⟨gb281, 4, none⟩ = some (.int .i64 a1_4) ∧ w'.cell? ⟨gb281, 5, none⟩ = some (.int .i64 a1_5) ∧ w'.cell? ⟨gb281, 6, none⟩ = some (.int .i64 a1_6) ∧ w'.cell? ⟨gb281, 7, none⟩ = some (.int .i64 a1_7) ∧ w'.cell? ⟨gb281, 8, none⟩ = some (.string a1_8) ∧ w'.cell? ⟨gb281, 9, none⟩ = some (.int .i64 a1_9) ∧ w'.cell? ⟨gb281, 10, none⟩ = some (.slice A1_10 l1_10.length c1_10) ∧ w'.cell? ⟨gb281, 11, none⟩ = some (.slice A1_11 l1_11.length c1_11)) (ds := []) (Steps.Bs 59 0) z0_ rfl rfl ⟨kc_ BK282 0, kc_ BK282 1, k12e_ BK281⟩ (fun hHeld => ?_); refine with_tabW op_whole.tab2 op_whole.bits2 (fun HT_ HW_ => ?_)
  generalize w43.drew = w44 at BK281 BK282 HB hHeld ⊢
  refine tI HT_ 0 8 59 1 ?_
  refine tT HT_ HW_ hHeld 1 9 59 3 ?_
  refine tI HT_ 2 10 59 7 ?_
  refine tI HT_ 3 11 59 15 ?_
  refine tI HT_ 4 12 59 31 ?_
  refine tI HT_ 6 14 59 95 ?_
  refine tT HT_ HW_ hHeld 5 13 59 127 ?_
  refine tI HT_ 7 15 59 255 ?_
  refine tI HT_ 8 16 59 511 ?_
  refine tI HT_ 9 17 59 1023 ?_
  refine tI HT_ 10 18 59 2047 ?_
  refine tT HT_ HW_ hHeld 11 19 59 4095 ?_
  refine tI HT_ 12 20 59 8191 ?_
  refine tI HT_ 13 21 59 16383 ?_
  refine tI HT_ 14 22 59 32767 ?_
  refine tI HT_ 15 23 59 65535 ?_
  refine tT HT_ HW_ hHeld 16 24 59 131071 ?_
  refine tI HT_ 17 25 59 262143 ?_
  refine tI HT_ 18 26 59 524287 ?_
  refine tI HT_ 19 27 59 1048575 ?_
  refine tI HT_ 20 28 59 2097151 ?_
  refine tI HT_ 23 31 59 10485759 ?_
  refine tT HT_ HW_ hHeld 21 29 59 12582911 ?_
  refine tI HT_ 22 30 59 16777215 ?_
  refine tI HT_ 24 32 59 33554431 ?_
  refine tI HT_ 25 33 59 67108863 ?_
  refine tI HT_ 26 34 59 134217727 ?_
  refine tI HT_ 27 35 59 268435455 ?_
  refine tT HT_ HW_ hHeld 28 36 59 536870911 ?_
  refine one_ (i := 29) (N := some 37) (Steps.Bs 59 1073741823) rfl rfl (one_of HT_.out z0_) z5_ (fun K hK => ?_)
  refine goes_ Try.func99 z0_ rfl #[.slice A1_2 l1_2.length c1_2] (by rfl) rfl rfl z2_ ?_
  with_reducible refine (dot_Check.calls k _ _ l1_2 t283 _ ?side1 ?side2 A8.out).mono ?_
  (case side1 => exact cX_ (C_below HR1_2.out HB.out))
  (case side2 => exact HC1_2.out)
  rintro e w' ⟨rfl, ⟨nd, rfl⟩⟩
  refine ⟨_, rfl, ?_⟩
  refine hK.out _ _ ⟨kc_ BK282 0, kc_ BK282 1, k12e_ BK281⟩ (fun hHeld => ?_)
  clear hK K
  refine nrm 37 ?_
  refine tI HT_ 30 38 59 2147483647 ?_
  refine tI HT_ 31 39 59 4294967295 ?_
  refine tI HT_ 32 40 59 8589934591 ?_
  refine tR HT_ 33 41 59 17179869183 ?_
  refine tR HT_ 34 42 59 34359738367 ?_
  refine tR HT_ 35 43 59 68719476735 ?_
  refine tR HT_ 36 44 59 137438953471 ?_
  refine tR HT_ 37 45 59 274877906943 ?_
  refine tR HT_ 38 46 59 549755813887 ?_
  refine tR HT_ 39 47 59 1099511627775 ?_
  refine tR HT_ 40 48 59 2199023255551 ?_
  refine tR HT_ 41 49 59 4398046511103 ?_
  refine tR HT_ 42 50 59 8796093022207 ?_
  refine tI HT_ 43 51 59 17592186044415 ?_
  refine tI HT_ 44 52 59 35184372088831 ?_
  refine tR HT_ 45 53 59 70368744177663 ?_
  refine tR HT_ 46 54 59 140737488355327 ?_
  refine tR HT_ 47 55 59 281474976710655 ?_
  refine tR HT_ 48 56 59 562949953421311 ?_
  refine tI HT_ 49 57 59 1125899906842623 ?_
  refine tI HT_ 50 58 59 2251799813685247 ?_
  refine tR HT_ 51 59 59 4503599627370495 ?_
  refine tR HT_ 52 60 59 9007199254740991 ?_
  refine tR HT_ 53 61 59 18014398509481983 ?_
  refine tR HT_ 54 62 59 36028797018963967 ?_
  refine tR HT_ 55 63 59 72057594037927935 ?_
  refine tR HT_ 56 64 59 144115188075855871 ?_
  refine tI HT_ 57 65 59 288230376151711743 ?_
  refine tI HT_ 58 4 59 576460752303423487 ?_
  refine done_ (done_of HT_.out z0_) ?_
  try go_wp2
  go_ret
  exact ⟨q0, Short.hB HB⟩
 rw [if_pos c9] at H
 have c9b0 : (t283 == 0) = true := beq_iff_eq.mpr c9
 have c9b1 : (t283 != 0) = false := bne_eq_false_iff_eq.mpr c9
 clear c9
 by_cases c10 : 0 ≤ a1_0
 rotate_left
 ·
  rw [if_neg c10] at H
  exact absurd H (by simp)
 rw [if_pos c10] at H
 have c10b0 : decide (0 ≤ a1_0) = true := decide_eq_true c10
 clear c10
 by_cases c11 : a1_0 < (l1_2.length : Int)
 rotate_left
 ·
  rw [if_neg c11] at H
  exact absurd H (by simp)
 rw [if_pos c11] at H
 have c11b0 : decide (a1_0 < (l1_2.length : Int)) = true := decide_eq_true c11
 clear c11
 by_cases c12 : (rd l1_2 a1_0) = (wrap64 (a1_1 - 1))
 rotate_left
 ·
  rw [if_neg c12] at H
  have c12b0 : ((rd l1_2 a1_0) == (wrap64 (a1_1 - 1))) = false := beq_eq_false_iff_ne.mpr c12
  have c12b1 : ((rd l1_2 a1_0) != (wrap64 (a1_1 - 1))) = true := bne_iff_ne.mpr c12
  obtain rfl := Option.some.inj H
  go_enter Try.func73, Try.ntmps73
  try go_wp2_with (first | ((with_reducible refine gate_dst (N := 3) rfl ?_); (try (refine gate_guard (by rfl) ?_; dsimp only)); refine box_event ?hg (N := 3) ?hd (cs := #[.int .i64 a1_0, .int .i64 a1_1, .slice A1_2 l1_2.length c1_2, .int .i64 a1_3, .int .i64 a1_4, .int .i64 a1_5, .int .i64 a1_6, .int .i64 a1_7, .string a1_8, .int .i64 a1_9, .slice A1_10 l1_10.length c1_10, .slice A1_11 l1_11.length c1_11]) (t := 32) ?hr ?_; (case hd => rfl); (case hg => rfl); (case hr => first | (go_simp; done) | (go_simp; rfl)); intro gb281 hg w31 hbox hb; have n0_ := mk_ (below_step (Short.hB HB) hb); have n1_ := mk_ (hbox); have n2_ := mk_ ((by rw [hg]; exact (below_size (Short.hB HB)) : w.heap.size ≤ gb281)); have n3_ := mk_ ((by rw [hg]; exact (below_size (Short.hB HB)) : w.heap.size ≤ gb281)); clear HB; revert n0_ n1_ n2_ n3_; intro HB BK281 GW281 GE281; clear hb hbox hg; have hcz_0 := blk_cell BK281.out; have hfz_0 := blk_frozen BK281.out) | ((with_reducible refine gate_dst (N := 5) rfl ?_); (try (refine gate_guard (by rfl) ?_; dsimp only)); refine box_event ?hg (N := 5) ?hd (cs := #[.int .i64 0, .int .i64 0]) (t := 25) ?hr ?_; (case hd => rfl); (case hg => rfl); (case hr => first | (go_simp; done) | (go_simp; rfl)); intro gb282 hg w33 hbox hb; have n0_ := mk_ (bB_ BK281 hb); have n1_ := mk_ (below_step (Short.hB HB) hb); have n2_ := mk_ (hbox); have n3_ := mk_ ((by rw [hg]; exact (below_size (Short.hB HB)) : w.heap.size ≤ gb282)); have n4_ := mk_ ((by rw [hg]; exact (below_size (Short.hB HB)) : w.heap.size ≤ gb282)); have n5_ := mk_ ((by rw [hg]; exact Nat.ne_of_lt (blk_lt (Short.bK BK281)) : gb281 ≠ gb282)); have n6_ := mk_ ((by rw [hg]; exact Nat.ne_of_gt (blk_lt (Short.bK BK281)) : gb282 ≠ gb281)); clear BK281 HB; revert n0_ n1_ n2_ n3_ n4_ n5_ n6_; intro BK281 HB BK282 GW282 GE282 NB281_282 NB282_281; clear hb hbox hg; have hnb34 := NB282_281.out; have hnc34 := NB281_282.out; obtain ⟨hcz_0, hcz_1, hfz_0, hfz_1⟩ := Short.c2 BK282.out))
  have n0_ : Aside0 (((w33.setCell ⟨gb282, 0, none⟩ (.int .i64 a1_0)).setCell ⟨gb282, 1, none⟩ (.int .i64 a1_1)).heap[gb281]? = some (.cells #[.int .i64 a1_0, .int .i64 a1_1, .slice A1_2 l1_2.length c1_2, .int .i64 a1_3, .int .i64 a1_4, .int .i64 a1_5, .int .i64 a1_6, .int .i64 a1_7, .string a1_8, .int .i64 a1_9, .slice A1_10 l1_10.length c1_10, .slice A1_11 l1_11.length c1_11] 32 (0, 0))) := ⟨by (with_reducible repeat (first | refine blk_drewN ?_ _ | refine blk_drew ?_ | refine blk_alloc ?_ _)); refine blk_far ?_ NB281_282.out _; (with_reducible repeat (first | refine blk_drewN ?_ _ | refine blk_drew ?_ | refine blk_alloc ?_ _)); refine blk_far ?_ NB281_282.out _; (with_reducible repeat (first | refine blk_drewN ?_ _ | refine blk_drew ?_ | refine blk_alloc ?_ _)); exact BK281.out⟩
  have n1_ : Aside0 (((w33.setCell ⟨gb282, 0, none⟩ (.int .i64 a1_0)).setCell ⟨gb282, 1, none⟩ (.int .i64 a1_1)).heap[gb282]? = some (.cells #[.int .i64 a1_0, .int .i64 a1_1] 25 (0, 0))) := ⟨by (with_reducible repeat (first | refine blk_drewN ?_ _ | refine blk_drew ?_ | refine blk_alloc ?_ _)); refine blk_put (cs := #[.int .i64 a1_0, .int .i64 0]) ?_ 1 _ rfl; (with_reducible repeat (first | refine blk_drewN ?_ _ | refine blk_drew ?_ | refine blk_alloc ?_ _)); refine blk_put (cs := #[.int .i64 0, .int .i64 0]) ?_ 0 _ rfl; (with_reducible repeat (first | refine blk_drewN ?_ _ | refine blk_drew ?_ | refine blk_alloc ?_ _)); exact BK282.out⟩
  have n2_ : Aside0 (Below w.heap.size w ((w33.setCell ⟨gb282, 0, none⟩ (.int .i64 a1_0)).setCell ⟨gb282, 1, none⟩ (.int .i64 a1_1))) := ⟨Short.hB HB⟩
  (try clear BK281)
  (try clear BK282)
  (try clear HB)
  generalize ((w33.setCell ⟨gb282, 0, none⟩ (.int .i64 a1_0)).setCell ⟨gb282, 1, none⟩ (.int .i64 a1_1)) = w36 at n0_ n1_ n2_ ⊢
  revert n0_ n1_ n2_
  intro BK281 BK282 HB
  have n0_ := mk_ (blk_drew BK281.out)
  have n1_ := mk_ (blk_drew BK282.out)
  have n2_ := mk_ (below_drew1 HB.out)
  clear BK281 BK282 HB
  revert n0_ n1_ n2_
  intro BK281 BK282 HB
  have p284 : 0 ≤ (a1_0 : Int) := of_decide_eq_true z1_
  have q284 : a1_0 < (l1_2.length : Int) := of_decide_eq_true z1_
  obtain ⟨ad284, e284, hx284_0⟩ := Kd.at_int HR1_2.out a1_0 p284 q284
  have hw284_0 := hx284_0
  cases e284
  replace hx284_0 := up_ HB hx284_0
  replace p284 := eq_true p284
  replace q284 := eq_true q284
  refine start_ (n := 59) (S := fun w' => w'.cell? ⟨gb282, 0, none⟩ = some (.int .i64 a1_0) ∧ w'.cell? ⟨gb282, 1, none⟩ = some (.int .i64 a1_1) ∧ w'.cell? ⟨gb281, 0, none⟩ = some (.int .i64 a1_0) ∧ w'.cell? ⟨gb281, 1, none⟩ = some (.int .i64 a1_1) ∧ w'.cell? ⟨gb281, 2, none⟩ = some (.slice (some ad284) l1_2.length c1_2) ∧ w'.cell? ⟨gb281, 3, none⟩ = some (.int .i64 a1_3) ∧ w'.cell? ⟨gb281, 4, none⟩ = some (.int .i64 a1_4) ∧ w'.cell? ⟨gb281, 5, none⟩ = some (.int .i64 a1_5) ∧ w'.cell? ⟨gb281, 6, none⟩ = some (.int .i64 a1_6) ∧ w'.cell? ⟨gb281, 7, none⟩ = some (.int .i64 a1_7) ∧ w'.cell? ⟨gb281, 8, none⟩ = some (.string a1_8) ∧ w'.cell? ⟨gb281, 9, none⟩ = some (.int .i64 a1_9) ∧ w'.cell? ⟨gb281, 10, none⟩ = some (.slice A1_10 l1_10.length c1_10) ∧ w'.cell? ⟨gb281, 11, none⟩ = some (.slice A1_11 l1_11.length c1_11) ∧ w'.cell? (ad284.add (a1_0).toNat) = some (.int .i64 (rd l1_2 a1_0))) (ds := []) (Steps.Bs 59 0) z0_ rfl rfl ⟨kc_ BK282 0, kc_ BK282 1, k12_ BK281 (((HB.out.cell (World.block_lt_of_cell? w _ hw284_0)).trans hw284_0))⟩ (fun hHeld => ?_); refine with_tabW op_whole.tab2 op_whole.bits2 (fun HT_ HW_ => ?_)
  generalize w36.drew = w37 at BK281 BK282 HB hx284_0 hHeld ⊢
  refine tI HT_ 0 8 59 1 ?_
  refine tT HT_ HW_ hHeld 1 9 59 3 ?_
  refine tI HT_ 2 10 59 7 ?_
  refine tI HT_ 3 11 59 15 ?_
  refine tI HT_ 4 12 59 31 ?_
  refine tI HT_ 6 14 59 95 ?_
  refine tT HT_ HW_ hHeld 5 13 59 127 ?_
  refine tI HT_ 7 15 59 255 ?_
  refine tI HT_ 8 16 59 511 ?_
  refine tI HT_ 9 17 59 1023 ?_
  refine tI HT_ 10 18 59 2047 ?_
  refine tT HT_ HW_ hHeld 11 19 59 4095 ?_
  refine tI HT_ 12 20 59 8191 ?_
  refine tI HT_ 13 21 59 16383 ?_
  refine tI HT_ 14 22 59 32767 ?_
  refine tI HT_ 15 23 59 65535 ?_
  refine tT HT_ HW_ hHeld 16 24 59 131071 ?_
  refine tI HT_ 17 25 59 262143 ?_
  refine tI HT_ 18 26 59 524287 ?_
  refine tI HT_ 19 27 59 1048575 ?_
  refine tI HT_ 20 28 59 2097151 ?_
  refine tI HT_ 23 31 59 10485759 ?_
  refine tT HT_ HW_ hHeld 21 29 59 12582911 ?_
  refine tI HT_ 22 30 59 16777215 ?_
  refine tI HT_ 24 32 59 33554431 ?_
  refine tI HT_ 25 33 59 67108863 ?_
  refine tI HT_ 26 34 59 134217727 ?_
  refine tI HT_ 27 35 59 268435455 ?_
  refine tT HT_ HW_ hHeld 28 36 59 536870911 ?_
  refine one_ (i := 29) (N := some 37) (Steps.Bs 59 1073741823) rfl rfl (one_of HT_.out z0_) z5_ (fun K hK => ?_)
  refine goes_ Try.func99 z0_ rfl #[.slice (some ad284) l1_2.length c1_2] (by rfl) rfl rfl z2_ ?_
  with_reducible refine (dot_Check.calls k _ _ l1_2 t283 _ ?side1 ?side2 A8.out).mono ?_
  (case side1 => exact cX_ (C_below HR1_2.out HB.out))
  (case side2 => exact HC1_2.out)
  rintro e w' ⟨rfl, ⟨nd, rfl⟩⟩
  refine ⟨_, rfl, ?_⟩
  refine hK.out _ _ ⟨kc_ BK282 0, kc_ BK282 1, k12_ BK281 (((HB.out.cell (World.block_lt_of_cell? w _ hw284_0)).trans hw284_0))⟩ (fun hHeld => ?_)
  clear hK K
  refine nrm 37 ?_
  refine tI HT_ 30 38 59 2147483647 ?_
  refine tI HT_ 31 39 59 4294967295 ?_
  refine tI HT_ 32 40 59 8589934591 ?_
  refine tI HT_ 33 41 59 17179869183 ?_
  refine tI HT_ 35 43 59 51539607551 ?_
  refine tI HT_ 39 47 59 601295421439 ?_
  refine tT HT_ HW_ hHeld 34 42 59 618475290623 ?_
  refine tT HT_ HW_ hHeld 36 44 59 687194767359 ?_
  refine tI HT_ 37 45 59 824633720831 ?_
  refine tT HT_ HW_ hHeld 38 46 59 1099511627775 ?_
  refine tT HT_ HW_ hHeld 40 48 59 2199023255551 ?_
  refine tI HT_ 41 49 59 4398046511103 ?_
  refine tI HT_ 42 50 59 8796093022207 ?_
  refine tI HT_ 43 51 59 17592186044415 ?_
  refine tI HT_ 44 52 59 35184372088831 ?_
  refine tR HT_ 45 53 59 70368744177663 ?_
  refine tR HT_ 46 54 59 140737488355327 ?_
  refine tR HT_ 47 55 59 281474976710655 ?_
  refine tR HT_ 48 56 59 562949953421311 ?_
  refine tI HT_ 49 57 59 1125899906842623 ?_
  refine tI HT_ 50 58 59 2251799813685247 ?_
  refine tR HT_ 51 59 59 4503599627370495 ?_
  refine tR HT_ 52 60 59 9007199254740991 ?_
  refine tR HT_ 53 61 59 18014398509481983 ?_
  refine tR HT_ 54 62 59 36028797018963967 ?_
  refine tR HT_ 55 63 59 72057594037927935 ?_
  refine tR HT_ 56 64 59 144115188075855871 ?_
  refine tI HT_ 57 65 59 288230376151711743 ?_
  refine tI HT_ 58 4 59 576460752303423487 ?_
  refine done_ (done_of HT_.out z0_) ?_
  try go_wp2
  go_ret
  exact ⟨q0, Short.hB HB⟩
 rw [if_pos c12] at H
 have c12b0 : ((rd l1_2 a1_0) == (wrap64 (a1_1 - 1))) = true := beq_iff_eq.mpr c12
 have c12b1 : ((rd l1_2 a1_0) != (wrap64 (a1_1 - 1))) = false := bne_eq_false_iff_eq.mpr c12
 clear c12
 obtain ⟨t285, A13, H⟩ := Option.bind_eq_some_iff.mp H
 replace A13 := mk_ A13
 by_cases c14 : t285 = 0
 rotate_left
 ·
  rw [if_neg c14] at H
  have c14b0 : (t285 == 0) = false := beq_eq_false_iff_ne.mpr c14
  have c14b1 : (t285 != 0) = true := bne_iff_ne.mpr c14
  obtain rfl := Option.some.inj H
  go_enter Try.func73, Try.ntmps73
  try go_wp2_with (first | ((with_reducible refine gate_dst (N := 3) rfl ?_); (try (refine gate_guard (by rfl) ?_; dsimp only)); refine box_event ?hg (N := 3) ?hd (cs := #[.int .i64 a1_0, .int .i64 a1_1, .slice A1_2 l1_2.length c1_2, .int .i64 a1_3, .int .i64 a1_4, .int .i64 a1_5, .int .i64 a1_6, .int .i64 a1_7, .string a1_8, .int .i64 a1_9, .slice A1_10 l1_10.length c1_10, .slice A1_11 l1_11.length c1_11]) (t := 32) ?hr ?_; (case hd => rfl); (case hg => rfl); (case hr => first | (go_simp; done) | (go_simp; rfl)); intro gb281 hg w23 hbox hb; have n0_ := mk_ (below_step (Short.hB HB) hb); have n1_ := mk_ (hbox); have n2_ := mk_ ((by rw [hg]; exact (below_size (Short.hB HB)) : w.heap.size ≤ gb281)); have n3_ := mk_ ((by rw [hg]; exact (below_size (Short.hB HB)) : w.heap.size ≤ gb281)); clear HB; revert n0_ n1_ n2_ n3_; intro HB BK281 GW281 GE281; clear hb hbox hg; have hcz_0 := blk_cell BK281.out; have hfz_0 := blk_frozen BK281.out) | ((with_reducible refine gate_dst (N := 5) rfl ?_); (try (refine gate_guard (by rfl) ?_; dsimp only)); refine box_event ?hg (N := 5) ?hd (cs := #[.int .i64 0, .int .i64 0]) (t := 25) ?hr ?_; (case hd => rfl); (case hg => rfl); (case hr => first | (go_simp; done) | (go_simp; rfl)); intro gb282 hg w25 hbox hb; have n0_ := mk_ (bB_ BK281 hb); have n1_ := mk_ (below_step (Short.hB HB) hb); have n2_ := mk_ (hbox); have n3_ := mk_ ((by rw [hg]; exact (below_size (Short.hB HB)) : w.heap.size ≤ gb282)); have n4_ := mk_ ((by rw [hg]; exact (below_size (Short.hB HB)) : w.heap.size ≤ gb282)); have n5_ := mk_ ((by rw [hg]; exact Nat.ne_of_lt (blk_lt (Short.bK BK281)) : gb281 ≠ gb282)); have n6_ := mk_ ((by rw [hg]; exact Nat.ne_of_gt (blk_lt (Short.bK BK281)) : gb282 ≠ gb281)); clear BK281 HB; revert n0_ n1_ n2_ n3_ n4_ n5_ n6_; intro BK281 HB BK282 GW282 GE282 NB281_282 NB282_281; clear hb hbox hg; have hnb26 := NB282_281.out; have hnc26 := NB281_282.out; obtain ⟨hcz_0, hcz_1, hfz_0, hfz_1⟩ := Short.c2 BK282.out))
  have n0_ : Aside0 (((w25.setCell ⟨gb282, 0, none⟩ (.int .i64 a1_0)).setCell ⟨gb282, 1, none⟩ (.int .i64 a1_1)).heap[gb281]? = some (.cells #[.int .i64 a1_0, .int .i64 a1_1, .slice A1_2 l1_2.length c1_2, .int .i64 a1_3, .int .i64 a1_4, .int .i64 a1_5, .int .i64 a1_6, .int .i64 a1_7, .string a1_8, .int .i64 a1_9, .slice A1_10 l1_10.length c1_10, .slice A1_11 l1_11.length c1_11] 32 (0, 0))) := ⟨by (with_reducible repeat (first | refine blk_drewN ?_ _ | refine blk_drew ?_ | refine blk_alloc ?_ _)); refine blk_far ?_ NB281_282.out _; (with_reducible repeat (first | refine blk_drewN ?_ _ | refine blk_drew ?_ | refine blk_alloc ?_ _)); refine blk_far ?_ NB281_282.out _; (with_reducible repeat (first | refine blk_drewN ?_ _ | refine blk_drew ?_ | refine blk_alloc ?_ _)); exact BK281.out⟩
  have n1_ : Aside0 (((w25.setCell ⟨gb282, 0, none⟩ (.int .i64 a1_0)).setCell ⟨gb282, 1, none⟩ (.int .i64 a1_1)).heap[gb282]? = some (.cells #[.int .i64 a1_0, .int .i64 a1_1] 25 (0, 0))) := ⟨by (with_reducible repeat (first | refine blk_drewN ?_ _ | refine blk_drew ?_ | refine blk_alloc ?_ _)); refine blk_put (cs := #[.int .i64 a1_0, .int .i64 0]) ?_ 1 _ rfl; (with_reducible repeat (first | refine blk_drewN ?_ _ | refine blk_drew ?_ | refine blk_alloc ?_ _)); refine blk_put (cs := #[.int .i64 0, .int .i64 0]) ?_ 0 _ rfl; (with_reducible repeat (first | refine blk_drewN ?_ _ | refine blk_drew ?_ | refine blk_alloc ?_ _)); exact BK282.out⟩
  have n2_ : Aside0 (Below w.heap.size w ((w25.setCell ⟨gb282, 0, none⟩ (.int .i64 a1_0)).setCell ⟨gb282, 1, none⟩ (.int .i64 a1_1))) := ⟨Short.hB HB⟩
  (try clear BK281)
  (try clear BK282)
  (try clear HB)
  generalize ((w25.setCell ⟨gb282, 0, none⟩ (.int .i64 a1_0)).setCell ⟨gb282, 1, none⟩ (.int .i64 a1_1)) = w28 at n0_ n1_ n2_ ⊢
  revert n0_ n1_ n2_
  intro BK281 BK282 HB
  have n0_ := mk_ (blk_drew BK281.out)
  have n1_ := mk_ (blk_drew BK282.out)
  have n2_ := mk_ (below_drew1 HB.out)
  clear BK281 BK282 HB
  revert n0_ n1_ n2_
  intro BK281 BK282 HB
  have p284 : 0 ≤ (a1_0 : Int) := of_decide_eq_true z1_
  have q284 : a1_0 < (l1_2.length : Int) := of_decide_eq_true z1_
  obtain ⟨ad284, e284, hx284_0⟩ := Kd.at_int HR1_2.out a1_0 p284 q284
  have hw284_0 := hx284_0
  cases e284
  replace hx284_0 := up_ HB hx284_0
  replace p284 := eq_true p284
  replace q284 := eq_true q284
  refine start_ (n := 59) (S := fun w' => w'.cell? ⟨gb282, 0, none⟩ = some (.int .i64 a1_0) ∧ w'.cell? ⟨gb282, 1, none⟩ = some (.int .i64 a1_1) ∧ w'.cell? ⟨gb281, 0, none⟩ = some (.int .i64 a1_0) ∧ w'.cell? ⟨gb281, 1, none⟩ = some (.int .i64 a1_1) ∧ w'.cell? ⟨gb281, 2, none⟩ = some (.slice (some ad284) l1_2.length c1_2) ∧ w'.cell? ⟨gb281, 3, none⟩ = some (.int .i64 a1_3) ∧ w'.cell? ⟨gb281, 4, none⟩ = some (.int .i64 a1_4) ∧ w'.cell? ⟨gb281, 5, none⟩ = some (.int .i64 a1_5) ∧ w'.cell? ⟨gb281, 6, none⟩ = some (.int .i64 a1_6) ∧ w'.cell? ⟨gb281, 7, none⟩ = some (.int .i64 a1_7) ∧ w'.cell? ⟨gb281, 8, none⟩ = some (.string a1_8) ∧ w'.cell? ⟨gb281, 9, none⟩ = some (.int .i64 a1_9) ∧ w'.cell? ⟨gb281, 10, none⟩ = some (.slice A1_10 l1_10.length c1_10) ∧ w'.cell? ⟨gb281, 11, none⟩ = some (.slice A1_11 l1_11.length c1_11) ∧ w'.cell? (ad284.add (a1_0).toNat) = some (.int .i64 (rd l1_2 a1_0))) (ds := []) (Steps.Bs 59 0) z0_ rfl rfl ⟨kc_ BK282 0, kc_ BK282 1, k12_ BK281 (((HB.out.cell (World.block_lt_of_cell? w _ hw284_0)).trans hw284_0))⟩ (fun hHeld => ?_); refine with_tabW op_whole.tab2 op_whole.bits2 (fun HT_ HW_ => ?_)
  generalize w28.drew = w29 at BK281 BK282 HB hx284_0 hHeld ⊢
  refine tI HT_ 0 8 59 1 ?_
  refine tT HT_ HW_ hHeld 1 9 59 3 ?_
  refine tI HT_ 2 10 59 7 ?_
  refine tI HT_ 3 11 59 15 ?_
  refine tI HT_ 4 12 59 31 ?_
  refine tI HT_ 6 14 59 95 ?_
  refine tT HT_ HW_ hHeld 5 13 59 127 ?_
  refine tI HT_ 7 15 59 255 ?_
  refine tI HT_ 8 16 59 511 ?_
  refine tI HT_ 9 17 59 1023 ?_
  refine tI HT_ 10 18 59 2047 ?_
  refine tT HT_ HW_ hHeld 11 19 59 4095 ?_
  refine tI HT_ 12 20 59 8191 ?_
  refine tI HT_ 13 21 59 16383 ?_
  refine tI HT_ 14 22 59 32767 ?_
  refine tI HT_ 15 23 59 65535 ?_
  refine tT HT_ HW_ hHeld 16 24 59 131071 ?_
  refine tI HT_ 17 25 59 262143 ?_
  refine tI HT_ 18 26 59 524287 ?_
  refine tI HT_ 19 27 59 1048575 ?_
  refine tI HT_ 20 28 59 2097151 ?_
  refine tI HT_ 23 31 59 10485759 ?_
  refine tT HT_ HW_ hHeld 21 29 59 12582911 ?_
  refine tI HT_ 22 30 59 16777215 ?_
  refine tI HT_ 24 32 59 33554431 ?_
  refine tI HT_ 25 33 59 67108863 ?_
  refine tI HT_ 26 34 59 134217727 ?_
  refine tI HT_ 27 35 59 268435455 ?_
  refine tT HT_ HW_ hHeld 28 36 59 536870911 ?_
  refine one_ (i := 29) (N := some 37) (Steps.Bs 59 1073741823) rfl rfl (one_of HT_.out z0_) z5_ (fun K hK => ?_)
  refine goes_ Try.func99 z0_ rfl #[.slice (some ad284) l1_2.length c1_2] (by rfl) rfl rfl z2_ ?_
  with_reducible refine (dot_Check.calls k _ _ l1_2 t283 _ ?side1 ?side2 A8.out).mono ?_
  (case side1 => exact cX_ (C_below HR1_2.out HB.out))
  (case side2 => exact HC1_2.out)
  rintro e w' ⟨rfl, ⟨nd, rfl⟩⟩
  refine ⟨_, rfl, ?_⟩
  refine hK.out _ _ ⟨kc_ BK282 0, kc_ BK282 1, k12_ BK281 (((HB.out.cell (World.block_lt_of_cell? w _ hw284_0)).trans hw284_0))⟩ (fun hHeld => ?_)
  clear hK K
  refine nrm 37 ?_
  refine tI HT_ 30 38 59 2147483647 ?_
  refine tI HT_ 31 39 59 4294967295 ?_
  refine tI HT_ 32 40 59 8589934591 ?_
  refine tI HT_ 33 41 59 17179869183 ?_
  refine tI HT_ 35 43 59 51539607551 ?_
  refine tI HT_ 39 47 59 601295421439 ?_
  refine tT HT_ HW_ hHeld 34 42 59 618475290623 ?_
  refine tT HT_ HW_ hHeld 36 44 59 687194767359 ?_
  refine tI HT_ 37 45 59 824633720831 ?_
  refine tT HT_ HW_ hHeld 38 46 59 1099511627775 ?_
  refine tT HT_ HW_ hHeld 40 48 59 2199023255551 ?_
  refine tI HT_ 41 49 59 4398046511103 ?_
  refine tI HT_ 42 50 59 8796093022207 ?_
  refine tI HT_ 43 51 59 17592186044415 ?_
  refine tI HT_ 44 52 59 35184372088831 ?_
  refine tI HT_ 45 53 59 70368744177663 ?_
  refine tT HT_ HW_ hHeld 46 54 59 140737488355327 ?_
  refine one_ (i := 47) (N := some 55) (Steps.Bs 59 281474976710655) rfl rfl (one_of HT_.out z0_) z5_ (fun K hK => ?_)
  refine goes_ Try.func100 z0_ rfl #[.agg #[.int .i64 a1_3, .int .i64 a1_4, .int .i64 a1_5]] (by rfl) rfl rfl z2_ ?_
  with_reducible refine (hlc_Check.calls a1_3 a1_4 a1_5 t285 _ A13.out).mono ?_
  rintro e w30 ⟨rfl, hb⟩
  refine ⟨_, rfl, ?_⟩
  have n0_ := mk_ (bB_ BK281 hb)
  have n1_ := mk_ (bB_ BK282 hb)
  have n2_ := mk_ (below_step (Short.hB HB) hb)
  clear BK281 BK282 HB
  revert n0_ n1_ n2_
  intro BK281 BK282 HB
  (try clear hb)
  (try clear hb2)
  (try clear hk)
  (try clear hi)
  refine hK.out _ _ ⟨kc_ BK282 0, kc_ BK282 1, k12_ BK281 (((HB.out.cell (World.block_lt_of_cell? w _ hw284_0)).trans hw284_0))⟩ (fun hHeld => ?_)
  clear hK K
  refine nrm 55 ?_
  refine tI HT_ 48 56 59 562949953421311 ?_
  refine tI HT_ 49 57 59 1125899906842623 ?_
  refine tI HT_ 50 58 59 2251799813685247 ?_
  refine tR HT_ 51 59 59 4503599627370495 ?_
  refine tR HT_ 52 60 59 9007199254740991 ?_
  refine tR HT_ 53 61 59 18014398509481983 ?_
  refine tR HT_ 54 62 59 36028797018963967 ?_
  refine tR HT_ 55 63 59 72057594037927935 ?_
  refine tR HT_ 56 64 59 144115188075855871 ?_
  refine tI HT_ 57 65 59 288230376151711743 ?_
  refine tI HT_ 58 4 59 576460752303423487 ?_
  refine done_ (done_of HT_.out z0_) ?_
  try go_wp2
  go_ret
  exact ⟨q0, Short.hB HB⟩
 rw [if_pos c14] at H
 have c14b0 : (t285 == 0) = true := beq_iff_eq.mpr c14
 have c14b1 : (t285 != 0) = false := bne_eq_false_iff_eq.mpr c14
 clear c14
 obtain rfl := Option.some.inj H
 go_enter Try.func73, Try.ntmps73
 try go_wp2_with (first | ((with_reducible refine gate_dst (N := 3) rfl ?_); (try (refine gate_guard (by rfl) ?_; dsimp only)); refine box_event ?hg (N := 3) ?hd (cs := #[.int .i64 a1_0, .int .i64 a1_1, .slice A1_2 l1_2.length c1_2, .int .i64 a1_3, .int .i64 a1_4, .int .i64 a1_5, .int .i64 a1_6, .int .i64 a1_7, .string a1_8, .int .i64 a1_9, .slice A1_10 l1_10.length c1_10, .slice A1_11 l1_11.length c1_11]) (t := 32) ?hr ?_; (case hd => rfl); (case hg => rfl); (case hr => first | (go_simp; done) | (go_simp; rfl)); intro gb281 hg w15 hbox hb; have n0_ := mk_ (below_step (Short.hB HB) hb); have n1_ := mk_ (hbox); have n2_ := mk_ ((by rw [hg]; exact (below_size (Short.hB HB)) : w.heap.size ≤ gb281)); have n3_ := mk_ ((by rw [hg]; exact (below_size (Short.hB HB)) : w.heap.size ≤ gb281)); clear HB; revert n0_ n1_ n2_ n3_; intro HB BK281 GW281 GE281; clear hb hbox hg; have hcz_0 := blk_cell BK281.out; have hfz_0 := blk_frozen BK281.out) | ((with_reducible refine gate_dst (N := 5) rfl ?_); (try (refine gate_guard (by rfl) ?_; dsimp only)); refine box_event ?hg (N := 5) ?hd (cs := #[.int .i64 0, .int .i64 0]) (t := 25) ?hr ?_; (case hd => rfl); (case hg => rfl); (case hr => first | (go_simp; done) | (go_simp; rfl)); intro gb282 hg w17 hbox hb; have n0_ := mk_ (bB_ BK281 hb); have n1_ := mk_ (below_step (Short.hB HB) hb); have n2_ := mk_ (hbox); have n3_ := mk_ ((by rw [hg]; exact (below_size (Short.hB HB)) : w.heap.size ≤ gb282)); have n4_ := mk_ ((by rw [hg]; exact (below_size (Short.hB HB)) : w.heap.size ≤ gb282)); have n5_ := mk_ ((by rw [hg]; exact Nat.ne_of_lt (blk_lt (Short.bK BK281)) : gb281 ≠ gb282)); have n6_ := mk_ ((by rw [hg]; exact Nat.ne_of_gt (blk_lt (Short.bK BK281)) : gb282 ≠ gb281)); clear BK281 HB; revert n0_ n1_ n2_ n3_ n4_ n5_ n6_; intro BK281 HB BK282 GW282 GE282 NB281_282 NB282_281; clear hb hbox hg; have hnb18 := NB282_281.out; have hnc18 := NB281_282.out; obtain ⟨hcz_0, hcz_1, hfz_0, hfz_1⟩ := Short.c2 BK282.out))
 have n0_ : Aside0 (((w17.setCell ⟨gb282, 0, none⟩ (.int .i64 a1_0)).setCell ⟨gb282, 1, none⟩ (.int .i64 a1_1)).heap[gb281]? = some (.cells #[.int .i64 a1_0, .int .i64 a1_1, .slice A1_2 l1_2.length c1_2, .int .i64 a1_3, .int .i64 a1_4, .int .i64 a1_5, .int .i64 a1_6, .int .i64 a1_7, .string a1_8, .int .i64 a1_9, .slice A1_10 l1_10.length c1_10, .slice A1_11 l1_11.length c1_11] 32 (0, 0))) := ⟨by (with_reducible repeat (first | refine blk_drewN ?_ _ | refine blk_drew ?_ | refine blk_alloc ?_ _)); refine blk_far ?_ NB281_282.out _; (with_reducible repeat (first | refine blk_drewN ?_ _ | refine blk_drew ?_ | refine blk_alloc ?_ _)); refine blk_far ?_ NB281_282.out _; (with_reducible repeat (first | refine blk_drewN ?_ _ | refine blk_drew ?_ | refine blk_alloc ?_ _)); exact BK281.out⟩
 have n1_ : Aside0 (((w17.setCell ⟨gb282, 0, none⟩ (.int .i64 a1_0)).setCell ⟨gb282, 1, none⟩ (.int .i64 a1_1)).heap[gb282]? = some (.cells #[.int .i64 a1_0, .int .i64 a1_1] 25 (0, 0))) := ⟨by (with_reducible repeat (first | refine blk_drewN ?_ _ | refine blk_drew ?_ | refine blk_alloc ?_ _)); refine blk_put (cs := #[.int .i64 a1_0, .int .i64 0]) ?_ 1 _ rfl; (with_reducible repeat (first | refine blk_drewN ?_ _ | refine blk_drew ?_ | refine blk_alloc ?_ _)); refine blk_put (cs := #[.int .i64 0, .int .i64 0]) ?_ 0 _ rfl; (with_reducible repeat (first | refine blk_drewN ?_ _ | refine blk_drew ?_ | refine blk_alloc ?_ _)); exact BK282.out⟩
 have n2_ : Aside0 (Below w.heap.size w ((w17.setCell ⟨gb282, 0, none⟩ (.int .i64 a1_0)).setCell ⟨gb282, 1, none⟩ (.int .i64 a1_1))) := ⟨Short.hB HB⟩
 (try clear BK281)
 (try clear BK282)
 (try clear HB)
 generalize ((w17.setCell ⟨gb282, 0, none⟩ (.int .i64 a1_0)).setCell ⟨gb282, 1, none⟩ (.int .i64 a1_1)) = w20 at n0_ n1_ n2_ ⊢
 revert n0_ n1_ n2_
 intro BK281 BK282 HB
 have n0_ := mk_ (blk_drew BK281.out)
 have n1_ := mk_ (blk_drew BK282.out)
 have n2_ := mk_ (below_drew1 HB.out)
 clear BK281 BK282 HB
 revert n0_ n1_ n2_
 intro BK281 BK282 HB
 have p284 : 0 ≤ (a1_0 : Int) := of_decide_eq_true z1_
 have q284 : a1_0 < (l1_2.length : Int) := of_decide_eq_true z1_
 obtain ⟨ad284, e284, hx284_0⟩ := Kd.at_int HR1_2.out a1_0 p284 q284
 have hw284_0 := hx284_0
 cases e284
 replace hx284_0 := up_ HB hx284_0
 replace p284 := eq_true p284
 replace q284 := eq_true q284
 refine start_ (n := 59) (S := fun w' => w'.cell? ⟨gb282, 0, none⟩ = some (.int .i64 a1_0) ∧ w'.cell? ⟨gb282, 1, none⟩ = some (.int .i64 a1_1) ∧ w'.cell? ⟨gb281, 0, none⟩ = some (.int .i64 a1_0) ∧ w'.cell? ⟨gb281, 1, none⟩ = some (.int .i64 a1_1) ∧ w'.cell? ⟨gb281, 2, none⟩ = some (.slice (some ad284) l1_2.length c1_2) ∧ w'.cell? ⟨gb281, 3, none⟩ = some (.int .i64 a1_3) ∧ w'.cell? ⟨gb281, 4, none⟩ = some (.int .i64 a1_4) ∧ w'.cell? ⟨gb281, 5, none⟩ = some (.int .i64 a1_5) ∧ w'.cell? ⟨gb281, 6, none⟩ = some (.int .i64 a1_6) ∧ w'.cell? ⟨gb281, 7, none⟩ = some (.int .i64 a1_7) ∧ w'.cell? ⟨gb281, 8, none⟩ = some (.string a1_8) ∧ w'.cell? ⟨gb281, 9, none⟩ = some (.int .i64 a1_9) ∧ w'.cell? ⟨gb281, 10, none⟩ = some (.slice A1_10 l1_10.length c1_10) ∧ w'.cell? ⟨gb281, 11, none⟩ = some (.slice A1_11 l1_11.length c1_11) ∧ w'.cell? (ad284.add (a1_0).toNat) = some (.int .i64 (rd l1_2 a1_0))) (ds := []) (Steps.Bs 59 0) z0_ rfl rfl ⟨kc_ BK282 0, kc_ BK282 1, k12_ BK281 (((HB.out.cell (World.block_lt_of_cell? w _ hw284_0)).trans hw284_0))⟩ (fun hHeld => ?_); refine with_tabW op_whole.tab2 op_whole.bits2 (fun HT_ HW_ => ?_)
 generalize w20.drew = w21 at BK281 BK282 HB hx284_0 hHeld ⊢
 refine tI HT_ 0 8 59 1 ?_
 refine tT HT_ HW_ hHeld 1 9 59 3 ?_
 refine tI HT_ 2 10 59 7 ?_
 refine tI HT_ 3 11 59 15 ?_
 refine tI HT_ 4 12 59 31 ?_
 refine tI HT_ 6 14 59 95 ?_
 refine tT HT_ HW_ hHeld 5 13 59 127 ?_
 refine tI HT_ 7 15 59 255 ?_
 refine tI HT_ 8 16 59 511 ?_
 refine tI HT_ 9 17 59 1023 ?_
 refine tI HT_ 10 18 59 2047 ?_
 refine tT HT_ HW_ hHeld 11 19 59 4095 ?_
 refine tI HT_ 12 20 59 8191 ?_
 refine tI HT_ 13 21 59 16383 ?_
 refine tI HT_ 14 22 59 32767 ?_
 refine tI HT_ 15 23 59 65535 ?_
 refine tT HT_ HW_ hHeld 16 24 59 131071 ?_
 refine tI HT_ 17 25 59 262143 ?_
 refine tI HT_ 18 26 59 524287 ?_
 refine tI HT_ 19 27 59 1048575 ?_
 refine tI HT_ 20 28 59 2097151 ?_
 refine tI HT_ 23 31 59 10485759 ?_
 refine tT HT_ HW_ hHeld 21 29 59 12582911 ?_
 refine tI HT_ 22 30 59 16777215 ?_
 refine tI HT_ 24 32 59 33554431 ?_
 refine tI HT_ 25 33 59 67108863 ?_
 refine tI HT_ 26 34 59 134217727 ?_
 refine tI HT_ 27 35 59 268435455 ?_
 refine tT HT_ HW_ hHeld 28 36 59 536870911 ?_
 refine one_ (i := 29) (N := some 37) (Steps.Bs 59 1073741823) rfl rfl (one_of HT_.out z0_) z5_ (fun K hK => ?_)
 refine goes_ Try.func99 z0_ rfl #[.slice (some ad284) l1_2.length c1_2] (by rfl) rfl rfl z2_ ?_
 with_reducible refine (dot_Check.calls k _ _ l1_2 t283 _ ?side1 ?side2 A8.out).mono ?_
 (case side1 => exact cX_ (C_below HR1_2.out HB.out))
 (case side2 => exact HC1_2.out)
 rintro e w' ⟨rfl, ⟨nd, rfl⟩⟩
 refine ⟨_, rfl, ?_⟩
 refine hK.out _ _ ⟨kc_ BK282 0, kc_ BK282 1, k12_ BK281 (((HB.out.cell (World.block_lt_of_cell? w _ hw284_0)).trans hw284_0))⟩ (fun hHeld => ?_)
 clear hK K
 refine nrm 37 ?_
 refine tI HT_ 30 38 59 2147483647 ?_
 refine tI HT_ 31 39 59 4294967295 ?_
 refine tI HT_ 32 40 59 8589934591 ?_
 refine tI HT_ 33 41 59 17179869183 ?_
 refine tI HT_ 35 43 59 51539607551 ?_
 refine tI HT_ 39 47 59 601295421439 ?_
 refine tT HT_ HW_ hHeld 34 42 59 618475290623 ?_
 refine tT HT_ HW_ hHeld 36 44 59 687194767359 ?_
 refine tI HT_ 37 45 59 824633720831 ?_
 refine tT HT_ HW_ hHeld 38 46 59 1099511627775 ?_
 refine tT HT_ HW_ hHeld 40 48 59 2199023255551 ?_
 refine tI HT_ 41 49 59 4398046511103 ?_
 refine tI HT_ 42 50 59 8796093022207 ?_
 refine tI HT_ 43 51 59 17592186044415 ?_
 refine tI HT_ 44 52 59 35184372088831 ?_
 refine tI HT_ 45 53 59 70368744177663 ?_
 refine tT HT_ HW_ hHeld 46 54 59 140737488355327 ?_
 refine one_ (i := 47) (N := some 55) (Steps.Bs 59 281474976710655) rfl rfl (one_of HT_.out z0_) z5_ (fun K hK => ?_)
 refine goes_ Try.func100 z0_ rfl #[.agg #[.int .i64 a1_3, .int .i64 a1_4, .int .i64 a1_5]] (by rfl) rfl rfl z2_ ?_
 with_reducible refine (hlc_Check.calls a1_3 a1_4 a1_5 t285 _ A13.out).mono ?_
 rintro e w22 ⟨rfl, hb⟩
 refine ⟨_, rfl, ?_⟩
 have n0_ := mk_ (bB_ BK281 hb)
 have n1_ := mk_ (bB_ BK282 hb)
 have n2_ := mk_ (below_step (Short.hB HB) hb)
 clear BK281 BK282 HB
 revert n0_ n1_ n2_
 intro BK281 BK282 HB
 (try clear hb)
 (try clear hb2)
 (try clear hk)
 (try clear hi)
 refine hK.out _ _ ⟨kc_ BK282 0, kc_ BK282 1, k12_ BK281 (((HB.out.cell (World.block_lt_of_cell? w _ hw284_0)).trans hw284_0))⟩ (fun hHeld => ?_)
 clear hK K
 refine nrm 55 ?_
 refine tI HT_ 48 56 59 562949953421311 ?_
 refine tI HT_ 49 57 59 1125899906842623 ?_
 refine tI HT_ 50 58 59 2251799813685247 ?_
 refine tI HT_ 51 59 59 4503599627370495 ?_
 refine tI HT_ 52 60 59 9007199254740991 ?_
 refine tI HT_ 54 62 59 27021597764222975 ?_
 refine tT HT_ HW_ hHeld 53 61 59 36028797018963967 ?_
 refine tT HT_ HW_ hHeld 55 63 59 72057594037927935 ?_
 refine tI HT_ 56 64 59 144115188075855871 ?_
 refine tI HT_ 57 65 59 288230376151711743 ?_
 refine tI HT_ 58 4 59 576460752303423487 ?_
 refine done_ (done_of HT_.out z0_) ?_
 try go_wp2
 go_ret
 exact ⟨q0, Short.hB HB⟩
end Go.Proofs.Ytjnjfogfpmeacaa.PAll
end
