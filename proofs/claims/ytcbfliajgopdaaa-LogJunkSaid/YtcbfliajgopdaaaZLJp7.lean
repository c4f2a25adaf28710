-- Put together by a program of this session (wip/slice2.py) out of the seat's texts.
import Derived.Test.YtcbfliajgopdaaaZLJp6

section
namespace Go.Proofs.Ytcbfliajgopdaaa.Ops
open Go.RowKit Go.Proofs.Ytcbfliajgopdaaa.PAll Go.Proofs.Ytcbfliajgopdaaa.Plain Go.Proofs.YtcbfliajgopdaaaW.PrintWords Go.Proofs.YtcbfliajgopdaaaW.PrintLast Go.Proofs.YtcbfliajgopdaaaW.PrintMore Go.Proofs.Ytcbfliajgopdaaa.Sep Go.Proofs.Ytcbfliajgopdaaa.ZipT Go.Proofs.YtcbfliajgopdaaaW.PrintWords.Kd Go.Proofs.YtcbfliajgopdaaaW.PrintMore.Kd
set_option linter.unusedVariables false
set_option linter.unusedSimpArgs false
theorem wNums_len (l : List Int) (s : Wr) : (wNums l s).1.length ≤ s.1.length + 7 + 7 * l.length := by
 have h1 := wAll_len (f := fun n => wNum n 4) (m := 7) (fun x s => wNum_len x 4 s) l (wNum l.length 1 (wOr (decide (l.length > 5)) s))
 have h2 := wNum_len l.length 1 (wOr (decide (l.length > 5)) s)
 have h3 : (wOr (decide (l.length > 5)) s).1.length = s.1.length := rfl
 unfold wNums; omega
theorem rowOut_len (l : List V) : (if rowE l = 0 then (rowB l, (0 : Int)) else ([], rowE l)).1.length ≤ 700 := by
 split
 ·
  rename_i h; exact Nat.le_trans (rowB_len h) z2_
 ·
  simp
def opSmall (x : Ox) : Prop := x.f1.length ≤ 1000 ∧ x.f7.length ≤ 1000 ∧ x.f8.length ≤ 1000
instance (x : Ox) : Decidable (opSmall x) := by unfold opSmall; infer_instance
theorem rd_T_get {l : List Dt} {i : Nat} (h : i < l.length) : rd_T50 l (i : Int) = l[i] := by
 unfold rd_T50
 rw [Int.toNat_natCast, List.getD_eq_getElem?_getD, List.getElem?_eq_getElem h]; rfl
section
variable {w : World} {g : Nat} {F : List Part}
set_option maxHeartbeats 8000000 in
set_option maxRecDepth 100000 in
theorem wop_calls {w0 : World} (x : Ox) (A1 A7 A8 : Option Addr) (c1 c7 c8 : Nat) (hC1 : Kd.C (Kd.int .i64) w0 A1 x.f1.length x.f1) (h1c : x.f1.length ≤ c1) (hC7 : Kd.C k89 w0 A7 x.f7.length x.f7) (h7c : x.f7.length ≤ c7) (hC8 : Kd.C k50 w0 A8 x.f8.length x.f8) (h8c : x.f8.length ≤ c8) (hx : opSmall x) (s : Wr) (hS : Sp w (WrP g s :: Old w0 :: F)) (hl : s.1.length ≤ 600000000) :
  Calls Try.prog 51 #[.pointer (some ⟨g, 0, none⟩), .agg #[.int .i64 x.f0.f0, .int .i64 x.f0.f1, .slice A1 x.f1.length c1, .int .i64 x.f2.f0, .int .i64 x.f2.f1, .int .i64 x.f2.f2, .int .i64 x.f3, .int .i64 x.f4, .string x.f5, .int .i64 x.f6, .slice A7 x.f7.length c7, .slice A8 x.f8.length c8]] w fun r w' => (∃ v, r = .returned v) ∧ Sp w' (WrP g (wOp x s) :: Old w0 :: F) := by
 have h0 := hS.box (.cells #[.int .i64 x.f0.f0, .int .i64 x.f0.f1, .slice A1 x.f1.length c1, .int .i64 x.f2.f0, .int .i64 x.f2.f1, .int .i64 x.f2.f2, .int .i64 x.f3, .int .i64 x.f4, .string x.f5, .int .i64 x.f6, .slice A7 x.f7.length c7, .slice A8 x.f8.length c8] 54 (0, 0))
 have L1 := wNum_len x.f3 1 s
 obtain ⟨s1, e1⟩ : ∃ q, q = wNum x.f3 1 s := ⟨_, rfl⟩
 have L2 := wDot_len x.f0 s1
 obtain ⟨s2, e2⟩ : ∃ q, q = wDot x.f0 s1 := ⟨_, rfl⟩
 have L3 := wNums_len x.f1 s2
 obtain ⟨s3, e3⟩ : ∃ q, q = wNums x.f1 s2 := ⟨_, rfl⟩
 have L4 := wStamp_len x.f2 s3
 obtain ⟨s4, e4⟩ : ∃ q, q = wStamp x.f2 s3 := ⟨_, rfl⟩
 have L5 := wNum_len x.f4 1 s4
 obtain ⟨s5, e5⟩ : ∃ q, q = wNum x.f4 1 s4 := ⟨_, rfl⟩
 have L6 := wText_len x.f5 s5
 obtain ⟨s6, e6⟩ : ∃ q, q = wText x.f5 s5 := ⟨_, rfl⟩
 have L7 := wNum_len x.f6 1 s6
 obtain ⟨s7, e7⟩ : ∃ q, q = wNum x.f6 1 s6 := ⟨_, rfl⟩
 have LR := rowOut_len x.f7
 have hR := rowBytes_eq 1100 x.f7 (by have := hx.2.1; omega) (by have := hx.2.1; omega)
 have hwr : wRow x.f7 s7 = wAdd s7 (if rowE x.f7 = 0 then (rowB x.f7, 0) else ([], rowE x.f7)) := rfl
 have hu : wOp x s = wAll wDot x.f8 (wNum x.f8.length 1 (wOr (decide (x.f8.length > 64)) (wRow x.f7 s7))) := by subst e7 e6 e5 e4 e3 e2 e1; rfl
 generalize (if rowE x.f7 = 0 then (rowB x.f7, (0 : Int)) else ([], rowE x.f7)) = rr at LR hR hwr
 obtain ⟨rb, re⟩ := rr
 rw [hwr] at hu
 obtain ⟨s8, e8⟩ : ∃ q, q = wAdd s7 (rb, re) := ⟨_, rfl⟩
 have L8 : s8.1.length ≤ s7.1.length + 700 := by have : rb.length ≤ 700 := LR; rw [e8]; unfold wAdd; simp only [List.length_append]; omega
 rw [← e1] at L1; rw [← e2] at L2; rw [← e3] at L3; rw [← e4] at L4; rw [← e5] at L5; rw [← e6] at L6; rw [← e7] at L7; rw [← e8] at hu
 have LR2 : rb.length ≤ 700 := LR
 have HLEN := mk_ (show s.1.length ≤ 600000000 ∧ s1.1.length ≤ 600000007 ∧ s2.1.length ≤ 600000021 ∧ s3.1.length ≤ 600007028 ∧ s4.1.length ≤ 600007049 ∧ s5.1.length ≤ 600007056 ∧ s6.1.length ≤ 600007081 ∧ s7.1.length ≤ 600007088 ∧ s8.1.length ≤ 600007788 ∧ rb.length ≤ 700 from by have := hx.1; omega)
 have HE1 := mk_ e1
 have HE2 := mk_ e2
 have HE3 := mk_ e3
 have HE4 := mk_ e4
 have HE5 := mk_ e5
 have HE6 := mk_ e6
 have HE7 := mk_ e7
 have HE8 := mk_ e8
 have HU := mk_ hu
 have HR := mk_ (show PAll.row_Bytes.f 1100 x.f7 = some (rb, re) from hR)
 have HC1 := mk_ hC1
 have HC7 := mk_ hC7
 have HC8 := mk_ hC8
 have HX := mk_ (And.intro hx (And.intro h1c (And.intro h7c h8c)))
 have HS0 := mk_ (Sp.s2 (Sp.s2 h0))
 clear h0 hS hl L1 L2 L3 L4 L5 L6 L7 L8 LR hR hwr hu e1 e2 e3 e4 e5 e6 e7 e8 hC1 hC7 hC8 hx h1c h7c h8c
 obtain ⟨b8, bad8⟩ := s8
 cases bad8 with
 | true =>
  have hn0 : wOr (decide (x.f8.length > 64)) (b8, true) = (b8, true) := by unfold wOr; simp
  have HU2 := mk_ (HU.out.trans (congrArg (fun q => wAll wDot x.f8 (wNum x.f8.length 1 q)) hn0))
  clear hn0 HU
  go_enter Try.func51, Try.ntmps51
  go_wp2_with (first
  | (go_at_call 49; (with_reducible show Calls _ _ _ (World.alloc w _) _); refine (wnum_calls s x.f3 1 HS0.out (by have := HLEN.out; omega)).mono ?_; rintro e V1 ⟨⟨u, rfl⟩, h1⟩; rw [← HE1.out] at h1; have HS1 := mk_ h1; have kx1 := blk_cell HS1.out.s2.blk; clear h1)
  | (go_at_call 88; (with_reducible show Calls _ _ _ V1 _); refine (wdot_calls s1 x.f0 HS1.out (by have := HLEN.out; omega)).mono ?_; rintro e V2 ⟨⟨u, rfl⟩, h1⟩; rw [← HE2.out] at h1; have HS2 := mk_ h1; have kx2 := blk_cell HS2.out.s2.blk; clear h1)
  | (go_at_call 47; (with_reducible show Calls _ _ _ V2 _); refine (wnums_calls A1 c1 x.f1 HC1.out HX.out.2.1 HX.out.1.1 s2 HS2.out (by have := HLEN.out; omega)).mono ?_; rintro e V3 ⟨⟨u, rfl⟩, h1⟩; rw [← HE3.out] at h1; have HS3 := mk_ h1; have kx3 := blk_cell HS3.out.s2.blk; clear h1)
  | (go_at_call 48; (with_reducible show Calls _ _ _ V3 _); refine (wstamp_calls s3 x.f2 HS3.out (by have := HLEN.out; omega)).mono ?_; rintro e V4 ⟨⟨u, rfl⟩, h1⟩; rw [← HE4.out] at h1; have HS4 := mk_ h1; have kx4 := blk_cell HS4.out.s2.blk; clear h1)
  | (go_at_call 49; (with_reducible show Calls _ _ _ V4 _); refine (wnum_calls s4 x.f4 1 HS4.out (by have := HLEN.out; omega)).mono ?_; rintro e V5 ⟨⟨u, rfl⟩, h1⟩; rw [← HE5.out] at h1; have HS5 := mk_ h1; have kx5 := blk_cell HS5.out.s2.blk; clear h1)
  | (go_at_call 87; (with_reducible show Calls _ _ _ V5 _); refine (wtext_calls s5 x.f5 HS5.out (by have := HLEN.out; omega)).mono ?_; rintro e V6 ⟨⟨u, rfl⟩, h1⟩; rw [← HE6.out] at h1; have HS6 := mk_ h1; have kx6 := blk_cell HS6.out.s2.blk; clear h1)
  | (go_at_call 49; (with_reducible show Calls _ _ _ V6 _); refine (wnum_calls s6 x.f6 1 HS6.out (by have := HLEN.out; omega)).mono ?_; rintro e V7 ⟨⟨u, rfl⟩, h1⟩; rw [← HE7.out] at h1; have HS7 := mk_ h1; have kx7 := blk_cell HS7.out.s2.blk; clear h1)
  | (go_at_call 90; refine (PAll.row_Bytes.calls 1100 A7 c7 x.f7 rb re _ (C_below HC7.out HS7.out.s1.old) HX.out.2.2.1 HR.out).mono ?_; rintro e V8 ⟨v_, rfl, hr_, hq_⟩; obtain ⟨Ab, cb, rfl⟩ := R_slice hr_; have HS8 := mk_ (Sp.made HS7.out hq_ hr_).s1; clear hr_ hq_)
  | (go_at_call 86; refine (wadd_calls s7.1 s7.2 Ab cb rb re HS8.out (by have := HLEN.out; omega)).mono ?_; rintro e V9 ⟨⟨u, rfl⟩, h1⟩; rw [show ((s7.1, s7.2) : Wr) = s7 from rfl, ← HE8.out] at h1; have kx9 := blk_cell h1.s2.blk; obtain ⟨v9, h2⟩ := WrP.open h1; have k91 := blk_cell h2.blk 1; have f91 := blk_frozen h2.blk 1; have HS9 := mk_ h2; clear h1 h2)
  | (go_at_call 49; (with_reducible show Calls _ _ _ (World.setCell V9 _ _) _); refine (wnum_calls (b8, true) (x.f8.length : Int) 1 (WrP.shut (HS9.out.store 1 (.bool true))) (by have := HLEN.out; show b8.length ≤ _; omega)).mono ?_; rintro e V10 ⟨⟨u, rfl⟩, h1⟩; have HS10 := mk_ h1; have kx10 := blk_cell HS10.out.s2.blk; clear h1))
  go_loopg [62] (x.f8.length + 1) (fun kq v62 W' => ∃ (i : Nat), v62 = .int .i64 (i : Int) ∧ Aside0 (Sp W' (WrP g (wAll wDot (x.f8.take i) (wNum (x.f8.length : Int) 1 (b8, true))) :: Old w0 :: Blk w.heap.size (.cells #[.int .i64 x.f0.f0, .int .i64 x.f0.f1, .slice A1 x.f1.length c1, .int .i64 x.f2.f0, .int .i64 x.f2.f1, .int .i64 x.f2.f2, .int .i64 x.f3, .int .i64 x.f4, .string x.f5, .int .i64 x.f6, .slice A7 x.f7.length c7, .slice A8 x.f8.length c8] 54 (0, 0)) :: F)) ∧ Aside0 (kq + i = x.f8.length + 1 ∧ i ≤ x.f8.length))
  case atStart => exact ⟨0, rfl, ⟨HS10.out⟩, ⟨by omega⟩⟩
  case round =>
   obtain ⟨i, rfl, HA, HK⟩ := hrel
   obtain ⟨k1, rfl⟩ : ∃ k1, gk = k1 + 1 := ⟨gk - 1, by have := HK.out; omega⟩
   by_cases hi : i < x.f8.length
   ·
    obtain ⟨ad, hA, hx0, hx1⟩ := at_T50 (C_below HC8.out HA.out.s1.old) (i : Int) z2_ z2_
    cases hA
    rw [rd_T_get hi] at hx0 hx1
    rw [Int.toNat_natCast] at hx0 hx1
    have hb0 : (0 ≤ (i : Int)) = True := eq_true z2_
    have hb1 : ((i : Int) < (x.f8.length : Int)) = True := eq_true z2_
    have hb2 : decide ((i : Int) < (x.f8.length : Int)) = true := decide_eq_true z2_
    have hb3 : decide (i < x.f8.length) = true := decide_eq_true hi
    have HI2 := mk_ hi
    have HT := mk_ (take_snoc hi)
    generalize x.f8[i] = d at *
    clear hi
    have HD := mk_ (HA.out.box (.cells #[.int .i64 0, .int .i64 0] 50 (0, 0)))
    go_wp2_with (first | ((with_reducible refine gate_st (ty := 50) (x := .tmp 5) (y := .tmp 65) rfl ?_); refine wpList_store_row rfl 50 (.tmp 5) (.tmp 65) rfl wr.heap.size #[.int .i64 d.f0, .int .i64 d.f1] rfl rfl 50 #[.int .i64 0, .int .i64 0] HD.out.blk z1_ rfl (by first | decide | rfl | simp [Value.oneCell']) ?_; have HE := mk_ (sp_storeRow HD.out #[.int .i64 d.f0, .int .i64 d.f1]); have kd := blk_cell HE.out.blk) | (go_at_call 88; refine (wdot_calls _ d HE.out.tail (by have := HLEN.out; have h1 := wAll_len (f := wDot) (m := 14) wDot_len (x.f8.take i) (wNum (x.f8.length : Int) 1 (b8, true)); have h2 := wNum_len (x.f8.length : Int) 1 (b8, true); have h3 := HX.out.1.2.2; have h4 := List.length_take_le i x.f8; have h6 := HI2.out; have h5 : (b8, true).1.length = b8.length := rfl; omega)).mono ?_; rintro e W2 ⟨⟨u, rfl⟩, h1⟩; have HS11 := mk_ h1; clear h1))
    go_roundg k1
    case measure => exact Nat.lt_succ_self _
    case rel => exact ⟨i + 1, by rw [w64 z2_ (by have := HI2.out; have := HX.out.1.2.2; omega)]; rfl, ⟨by rw [HT.out, wAll_snoc]; exact HS11.out⟩, ⟨by have := HK.out; omega, by have := HI2.out; omega⟩⟩
   ·
    have hie : i = x.f8.length := by have := HK.out; omega
    have hb2 : decide ((i : Int) < (x.f8.length : Int)) = false := decide_eq_false z2_
    have hb3 : decide (i < x.f8.length) = false := decide_eq_false hi
    clear hi
    go_wp2
    go_end0
    refine ⟨⟨_, rfl⟩, ?_⟩
    have h := HA.out
    rw [hie, List.take_length] at h
    rw [HU2.out]
    exact (Sp.s2 h).tail
 | false =>
  by_cases hc : x.f8.length > 64
  ·
   have hd1 : decide ((64 : Int) < (x.f8.length : Int)) = true := decide_eq_true z2_
   have hd2 : decide (64 < x.f8.length) = true := decide_eq_true hc
   have hn0 : wOr (decide (x.f8.length > 64)) (b8, false) = (b8, true) := by unfold wOr; simp [hc]
   have HU2 := mk_ (HU.out.trans (congrArg (fun q => wAll wDot x.f8 (wNum x.f8.length 1 q)) hn0))
   clear hn0 HU
   go_enter Try.func51, Try.ntmps51
   go_wp2_with (first
  | (go_at_call 49; (with_reducible show Calls _ _ _ (World.alloc w _) _); refine (wnum_calls s x.f3 1 HS0.out (by have := HLEN.out; omega)).mono ?_; rintro e V1 ⟨⟨u, rfl⟩, h1⟩; rw [← HE1.out] at h1; have HS1 := mk_ h1; have kx1 := blk_cell HS1.out.s2.blk; clear h1)
  | (go_at_call 88; (with_reducible show Calls _ _ _ V1 _); refine (wdot_calls s1 x.f0 HS1.out (by have := HLEN.out; omega)).mono ?_; rintro e V2 ⟨⟨u, rfl⟩, h1⟩; rw [← HE2.out] at h1; have HS2 := mk_ h1; have kx2 := blk_cell HS2.out.s2.blk; clear h1)
  | (go_at_call 47; (with_reducible show Calls _ _ _ V2 _); refine (wnums_calls A1 c1 x.f1 HC1.out HX.out.2.1 HX.out.1.1 s2 HS2.out (by have := HLEN.out; omega)).mono ?_; rintro e V3 ⟨⟨u, rfl⟩, h1⟩; rw [← HE3.out] at h1; have HS3 := mk_ h1; have kx3 := blk_cell HS3.out.s2.blk; clear h1)
  | (go_at_call 48; (with_reducible show Calls _ _ _ V3 _); refine (wstamp_calls s3 x.f2 HS3.out (by have := HLEN.out; omega)).mono ?_; rintro e V4 ⟨⟨u, rfl⟩, h1⟩; rw [← HE4.out] at h1; have HS4 := mk_ h1; have kx4 := blk_cell HS4.out.s2.blk; clear h1)
  | (go_at_call 49; (with_reducible show Calls _ _ _ V4 _); refine (wnum_calls s4 x.f4 1 HS4.out (by have := HLEN.out; omega)).mono ?_; rintro e V5 ⟨⟨u, rfl⟩, h1⟩; rw [← HE5.out] at h1; have HS5 := mk_ h1; have kx5 := blk_cell HS5.out.s2.blk; clear h1)
  | (go_at_call 87; (with_reducible show Calls _ _ _ V5 _); refine (wtext_calls s5 x.f5 HS5.out (by have := HLEN.out; omega)).mono ?_; rintro e V6 ⟨⟨u, rfl⟩, h1⟩; rw [← HE6.out] at h1; have HS6 := mk_ h1; have kx6 := blk_cell HS6.out.s2.blk; clear h1)
  | (go_at_call 49; (with_reducible show Calls _ _ _ V6 _); refine (wnum_calls s6 x.f6 1 HS6.out (by have := HLEN.out; omega)).mono ?_; rintro e V7 ⟨⟨u, rfl⟩, h1⟩; rw [← HE7.out] at h1; have HS7 := mk_ h1; have kx7 := blk_cell HS7.out.s2.blk; clear h1)
  | (go_at_call 90; refine (PAll.row_Bytes.calls 1100 A7 c7 x.f7 rb re _ (C_below HC7.out HS7.out.s1.old) HX.out.2.2.1 HR.out).mono ?_; rintro e V8 ⟨v_, rfl, hr_, hq_⟩; obtain ⟨Ab, cb, rfl⟩ := R_slice hr_; have HS8 := mk_ (Sp.made HS7.out hq_ hr_).s1; clear hr_ hq_)
  | (go_at_call 86; refine (wadd_calls s7.1 s7.2 Ab cb rb re HS8.out (by have := HLEN.out; omega)).mono ?_; rintro e V9 ⟨⟨u, rfl⟩, h1⟩; rw [show ((s7.1, s7.2) : Wr) = s7 from rfl, ← HE8.out] at h1; have kx9 := blk_cell h1.s2.blk; obtain ⟨v9, h2⟩ := WrP.open h1; have k91 := blk_cell h2.blk 1; have f91 := blk_frozen h2.blk 1; have HS9 := mk_ h2; clear h1 h2)
  | (go_at_call 49; (with_reducible show Calls _ _ _ (World.setCell V9 _ _) _); refine (wnum_calls (b8, true) (x.f8.length : Int) 1 (WrP.shut (HS9.out.store 1 (.bool true))) (by have := HLEN.out; show b8.length ≤ _; omega)).mono ?_; rintro e V10 ⟨⟨u, rfl⟩, h1⟩; have HS10 := mk_ h1; have kx10 := blk_cell HS10.out.s2.blk; clear h1))
   go_loopg [62] (x.f8.length + 1) (fun kq v62 W' => ∃ (i : Nat), v62 = .int .i64 (i : Int) ∧ Aside0 (Sp W' (WrP g (wAll wDot (x.f8.take i) (wNum (x.f8.length : Int) 1 (b8, true))) :: Old w0 :: Blk w.heap.size (.cells #[.int .i64 x.f0.f0, .int .i64 x.f0.f1, .slice A1 x.f1.length c1, .int .i64 x.f2.f0, .int .i64 x.f2.f1, .int .i64 x.f2.f2, .int .i64 x.f3, .int .i64 x.f4, .string x.f5, .int .i64 x.f6, .slice A7 x.f7.length c7, .slice A8 x.f8.length c8] 54 (0, 0)) :: F)) ∧ Aside0 (kq + i = x.f8.length + 1 ∧ i ≤ x.f8.length))
   case atStart => exact ⟨0, rfl, ⟨HS10.out⟩, ⟨by omega⟩⟩
   case round =>
    obtain ⟨i, rfl, HA, HK⟩ := hrel
    obtain ⟨k1, rfl⟩ : ∃ k1, gk = k1 + 1 := ⟨gk - 1, by have := HK.out; omega⟩
    by_cases hi : i < x.f8.length
    ·
     obtain ⟨ad, hA, hx0, hx1⟩ := at_T50 (C_below HC8.out HA.out.s1.old) (i : Int) z2_ z2_
     cases hA
     rw [rd_T_get hi] at hx0 hx1
     rw [Int.toNat_natCast] at hx0 hx1
     have hb0 : (0 ≤ (i : Int)) = True := eq_true z2_
     have hb1 : ((i : Int) < (x.f8.length : Int)) = True := eq_true z2_
     have hb2 : decide ((i : Int) < (x.f8.length : Int)) = true := decide_eq_true z2_
     have hb3 : decide (i < x.f8.length) = true := decide_eq_true hi
     have HI2 := mk_ hi
     have HT := mk_ (take_snoc hi)
     generalize x.f8[i] = d at *
     clear hi
     have HD := mk_ (HA.out.box (.cells #[.int .i64 0, .int .i64 0] 50 (0, 0)))
     go_wp2_with (first | ((with_reducible refine gate_st (ty := 50) (x := .tmp 5) (y := .tmp 65) rfl ?_); refine wpList_store_row rfl 50 (.tmp 5) (.tmp 65) rfl wr.heap.size #[.int .i64 d.f0, .int .i64 d.f1] rfl rfl 50 #[.int .i64 0, .int .i64 0] HD.out.blk z1_ rfl (by first | decide | rfl | simp [Value.oneCell']) ?_; have HE := mk_ (sp_storeRow HD.out #[.int .i64 d.f0, .int .i64 d.f1]); have kd := blk_cell HE.out.blk) | (go_at_call 88; refine (wdot_calls _ d HE.out.tail (by have := HLEN.out; have h1 := wAll_len (f := wDot) (m := 14) wDot_len (x.f8.take i) (wNum (x.f8.length : Int) 1 (b8, true)); have h2 := wNum_len (x.f8.length : Int) 1 (b8, true); have h3 := HX.out.1.2.2; have h4 := List.length_take_le i x.f8; have h6 := HI2.out; have h5 : (b8, true).1.length = b8.length := rfl; omega)).mono ?_; rintro e W2 ⟨⟨u, rfl⟩, h1⟩; have HS11 := mk_ h1; clear h1))
     go_roundg k1
     case measure => exact Nat.lt_succ_self _
     case rel => exact ⟨i + 1, by rw [w64 z2_ (by have := HI2.out; have := HX.out.1.2.2; omega)]; rfl, ⟨by rw [HT.out, wAll_snoc]; exact HS11.out⟩, ⟨by have := HK.out; omega, by have := HI2.out; omega⟩⟩
    ·
     have hie : i = x.f8.length := by have := HK.out; omega
     have hb2 : decide ((i : Int) < (x.f8.length : Int)) = false := decide_eq_false z2_
     have hb3 : decide (i < x.f8.length) = false := decide_eq_false hi
     clear hi
     go_wp2
     go_end0
     refine ⟨⟨_, rfl⟩, ?_⟩
     have h := HA.out
     rw [hie, List.take_length] at h
     rw [HU2.out]
     exact (Sp.s2 h).tail
  ·
   have hd1 : decide ((64 : Int) < (x.f8.length : Int)) = false := decide_eq_false z2_
   have hd2 : decide (64 < x.f8.length) = false := decide_eq_false hc
   have hn0 : wOr (decide (x.f8.length > 64)) (b8, false) = (b8, false) := by unfold wOr; simp; omega
   have HU2 := mk_ (HU.out.trans (congrArg (fun q => wAll wDot x.f8 (wNum x.f8.length 1 q)) hn0))
   clear hn0 HU
   go_enter Try.func51, Try.ntmps51
   go_wp2_with (first
  | (go_at_call 49; (with_reducible show Calls _ _ _ (World.alloc w _) _); refine (wnum_calls s x.f3 1 HS0.out (by have := HLEN.out; omega)).mono ?_; rintro e V1 ⟨⟨u, rfl⟩, h1⟩; rw [← HE1.out] at h1; have HS1 := mk_ h1; have kx1 := blk_cell HS1.out.s2.blk; clear h1)
  | (go_at_call 88; (with_reducible show Calls _ _ _ V1 _); refine (wdot_calls s1 x.f0 HS1.out (by have := HLEN.out; omega)).mono ?_; rintro e V2 ⟨⟨u, rfl⟩, h1⟩; rw [← HE2.out] at h1; have HS2 := mk_ h1; have kx2 := blk_cell HS2.out.s2.blk; clear h1)
  | (go_at_call 47; (with_reducible show Calls _ _ _ V2 _); refine (wnums_calls A1 c1 x.f1 HC1.out HX.out.2.1 HX.out.1.1 s2 HS2.out (by have := HLEN.out; omega)).mono ?_; rintro e V3 ⟨⟨u, rfl⟩, h1⟩; rw [← HE3.out] at h1; have HS3 := mk_ h1; have kx3 := blk_cell HS3.out.s2.blk; clear h1)
  | (go_at_call 48; (with_reducible show Calls _ _ _ V3 _); refine (wstamp_calls s3 x.f2 HS3.out (by have := HLEN.out; omega)).mono ?_; rintro e V4 ⟨⟨u, rfl⟩, h1⟩; rw [← HE4.out] at h1; have HS4 := mk_ h1; have kx4 := blk_cell HS4.out.s2.blk; clear h1)
  | (go_at_call 49; (with_reducible show Calls _ _ _ V4 _); refine (wnum_calls s4 x.f4 1 HS4.out (by have := HLEN.out; omega)).mono ?_; rintro e V5 ⟨⟨u, rfl⟩, h1⟩; rw [← HE5.out] at h1; have HS5 := mk_ h1; have kx5 := blk_cell HS5.out.s2.blk; clear h1)
  | (go_at_call 87; (with_reducible show Calls _ _ _ V5 _); refine (wtext_calls s5 x.f5 HS5.out (by have := HLEN.out; omega)).mono ?_; rintro e V6 ⟨⟨u, rfl⟩, h1⟩; rw [← HE6.out] at h1; have HS6 := mk_ h1; have kx6 := blk_cell HS6.out.s2.blk; clear h1)
  | (go_at_call 49; (with_reducible show Calls _ _ _ V6 _); refine (wnum_calls s6 x.f6 1 HS6.out (by have := HLEN.out; omega)).mono ?_; rintro e V7 ⟨⟨u, rfl⟩, h1⟩; rw [← HE7.out] at h1; have HS7 := mk_ h1; have kx7 := blk_cell HS7.out.s2.blk; clear h1)
  | (go_at_call 90; refine (PAll.row_Bytes.calls 1100 A7 c7 x.f7 rb re _ (C_below HC7.out HS7.out.s1.old) HX.out.2.2.1 HR.out).mono ?_; rintro e V8 ⟨v_, rfl, hr_, hq_⟩; obtain ⟨Ab, cb, rfl⟩ := R_slice hr_; have HS8 := mk_ (Sp.made HS7.out hq_ hr_).s1; clear hr_ hq_)
  | (go_at_call 86; refine (wadd_calls s7.1 s7.2 Ab cb rb re HS8.out (by have := HLEN.out; omega)).mono ?_; rintro e V9 ⟨⟨u, rfl⟩, h1⟩; rw [show ((s7.1, s7.2) : Wr) = s7 from rfl, ← HE8.out] at h1; have kx9 := blk_cell h1.s2.blk; obtain ⟨v9, h2⟩ := WrP.open h1; have k91 := blk_cell h2.blk 1; have f91 := blk_frozen h2.blk 1; have HS9 := mk_ h2; clear h1 h2)
  | (go_at_call 49; (with_reducible show Calls _ _ _ (World.setCell V9 _ _) _); refine (wnum_calls (b8, false) (x.f8.length : Int) 1 (WrP.shut (HS9.out.store 1 (.bool false))) (by have := HLEN.out; show b8.length ≤ _; omega)).mono ?_; rintro e V10 ⟨⟨u, rfl⟩, h1⟩; have HS10 := mk_ h1; have kx10 := blk_cell HS10.out.s2.blk; clear h1))
   go_loopg [62] (x.f8.length + 1) (fun kq v62 W' => ∃ (i : Nat), v62 = .int .i64 (i : Int) ∧ Aside0 (Sp W' (WrP g (wAll wDot (x.f8.take i) (wNum (x.f8.length : Int) 1 (b8, false))) :: Old w0 :: Blk w.heap.size (.cells #[.int .i64 x.f0.f0, .int .i64 x.f0.f1, .slice A1 x.f1.length c1, .int .i64 x.f2.f0, .int .i64 x.f2.f1, .int .i64 x.f2.f2, .int .i64 x.f3, .int .i64 x.f4, .string x.f5, .int .i64 x.f6, .slice A7 x.f7.length c7, .slice A8 x.f8.length c8] 54 (0, 0)) :: F)) ∧ Aside0 (kq + i = x.f8.length + 1 ∧ i ≤ x.f8.length))
   case atStart => exact ⟨0, rfl, ⟨HS10.out⟩, ⟨by omega⟩⟩
   case round =>
    obtain ⟨i, rfl, HA, HK⟩ := hrel
    obtain ⟨k1, rfl⟩ : ∃ k1, gk = k1 + 1 := ⟨gk - 1, by have := HK.out; omega⟩
    by_cases hi : i < x.f8.length
    ·
     obtain ⟨ad, hA, hx0, hx1⟩ := at_T50 (C_below HC8.out HA.out.s1.old) (i : Int) z2_ z2_
     cases hA
     rw [rd_T_get hi] at hx0 hx1
     rw [Int.toNat_natCast] at hx0 hx1
     have hb0 : (0 ≤ (i : Int)) = True := eq_true z2_
     have hb1 : ((i : Int) < (x.f8.length : Int)) = True := eq_true z2_
     have hb2 : decide ((i : Int) < (x.f8.length : Int)) = true := decide_eq_true z2_
     have hb3 : decide (i < x.f8.length) = true := decide_eq_true hi
     have HI2 := mk_ hi
     have HT := mk_ (take_snoc hi)
     generalize x.f8[i] = d at *
     clear hi
     have HD := mk_ (HA.out.box (.cells #[.int .i64 0, .int .i64 0] 50 (0, 0)))
     go_wp2_with (first | ((with_reducible refine gate_st (ty := 50) (x := .tmp 5) (y := .tmp 65) rfl ?_); refine wpList_store_row rfl 50 (.tmp 5) (.tmp 65) rfl wr.heap.size #[.int .i64 d.f0, .int .i64 d.f1] rfl rfl 50 #[.int .i64 0, .int .i64 0] HD.out.blk z1_ rfl (by first | decide | rfl | simp [Value.oneCell']) ?_; have HE := mk_ (sp_storeRow HD.out #[.int .i64 d.f0, .int .i64 d.f1]); have kd := blk_cell HE.out.blk) | (go_at_call 88; refine (wdot_calls _ d HE.out.tail (by have := HLEN.out; have h1 := wAll_len (f := wDot) (m := 14) wDot_len (x.f8.take i) (wNum (x.f8.length : Int) 1 (b8, false)); have h2 := wNum_len (x.f8.length : Int) 1 (b8, false); have h3 := HX.out.1.2.2; have h4 := List.length_take_le i x.f8; have h6 := HI2.out; have h5 : (b8, false).1.length = b8.length := rfl; omega)).mono ?_; rintro e W2 ⟨⟨u, rfl⟩, h1⟩; have HS11 := mk_ h1; clear h1))
     go_roundg k1
     case measure => exact Nat.lt_succ_self _
     case rel => exact ⟨i + 1, by rw [w64 z2_ (by have := HI2.out; have := HX.out.1.2.2; omega)]; rfl, ⟨by rw [HT.out, wAll_snoc]; exact HS11.out⟩, ⟨by have := HK.out; omega, by have := HI2.out; omega⟩⟩
    ·
     have hie : i = x.f8.length := by have := HK.out; omega
     have hb2 : decide ((i : Int) < (x.f8.length : Int)) = false := decide_eq_false z2_
     have hb3 : decide (i < x.f8.length) = false := decide_eq_false hi
     clear hi
     go_wp2
     go_end0
     refine ⟨⟨_, rfl⟩, ?_⟩
     have h := HA.out
     rw [hie, List.take_length] at h
     rw [HU2.out]
     exact (Sp.s2 h).tail
end
end Go.Proofs.Ytcbfliajgopdaaa.Ops
end
section
namespace Go.Proofs.Ytcbfliajgopdaaa.Ops
open Go.RowKit Go.Proofs.Ytcbfliajgopdaaa.PAll Go.Proofs.Ytcbfliajgopdaaa.Ops Go.Proofs.Ytcbfliajgopdaaa.Plain Go.Proofs.YtcbfliajgopdaaaW.PrintWords Go.Proofs.YtcbfliajgopdaaaW.PrintLast Go.Proofs.YtcbfliajgopdaaaW.PrintMore Go.Proofs.Ytcbfliajgopdaaa.Sep Go.Proofs.Ytcbfliajgopdaaa.ZipT Go.Proofs.YtcbfliajgopdaaaW.PrintWords.Kd Go.Proofs.YtcbfliajgopdaaaW.PrintMore.Kd
set_option linter.unusedVariables false
set_option linter.unusedSimpArgs false
section
variable {w : World}
set_option maxHeartbeats 8000000 in
set_option maxRecDepth 100000 in
theorem bytes_sp (x : Ox) (A1 A7 A8 : Option Addr) (c1 c7 c8 : Nat) (hC1 : Kd.C (Kd.int .i64) w A1 x.f1.length x.f1) (h1c : x.f1.length ≤ c1) (hC7 : Kd.C k89 w A7 x.f7.length x.f7) (h7c : x.f7.length ≤ c7) (hC8 : Kd.C k50 w A8 x.f8.length x.f8) (h8c : x.f8.length ≤ c8) (hx : opSmall x) :
  Calls Try.prog 60 #[.agg #[.int .i64 x.f0.f0, .int .i64 x.f0.f1, .slice A1 x.f1.length c1, .int .i64 x.f2.f0, .int .i64 x.f2.f1, .int .i64 x.f2.f2, .int .i64 x.f3, .int .i64 x.f4, .string x.f5, .int .i64 x.f6, .slice A7 x.f7.length c7, .slice A8 x.f8.length c8]] w fun e w' => ∃ v, e = .returned (.tuple #[v, .int .i64 (sOpBytes x).2]) ∧ Sp w' [Row (Kd.int .u8) 5 v (sOpBytes x).1, Old w] := by
 have h1 := (Sp.start w).box (.cells #[.int .i64 x.f0.f0, .int .i64 x.f0.f1, .slice A1 x.f1.length c1, .int .i64 x.f2.f0, .int .i64 x.f2.f1, .int .i64 x.f2.f2, .int .i64 x.f3, .int .i64 x.f4, .string x.f5, .int .i64 x.f6, .slice A7 x.f7.length c7, .slice A8 x.f8.length c8] 54 (0, 0))
 have h2 := h1.box (.cells #[.slice none 0 0, .bool false] 101 (0, 0))
 rw [show (w.alloc (.cells #[.int .i64 x.f0.f0, .int .i64 x.f0.f1, .slice A1 x.f1.length c1, .int .i64 x.f2.f0, .int .i64 x.f2.f1, .int .i64 x.f2.f2, .int .i64 x.f3, .int .i64 x.f4, .string x.f5, .int .i64 x.f6, .slice A7 x.f7.length c7, .slice A8 x.f8.length c8] 54 (0, 0))).heap.size = w.heap.size + 1 from Array.size_push _] at h2
 have h3 := WrP.shut (bs := []) (bad := false) (v := .slice none 0 0) (sp_nil (d := Kd.int .u8) (e := 5) h2).s1
 have hQ := wop_calls (w0 := w) x A1 A7 A8 c1 c7 c8 hC1 h1c hC7 h7c hC8 h8c hx ([], false) h3.s2.s1 (by show 0 ≤ _; omega)
 have hu : sOpBytes x = if (wOp x ([], false)).2 = true then ([], 1) else ((wOp x ([], false)).1, 0) := rfl
 rw [hu]
 clear h1 h2 h3 hC1 hC7 hC8 h1c h7c h8c hx hu
 generalize wOp x ([], false) = q at hQ ⊢
 obtain ⟨bs, bad⟩ := q
 have HQ := mk_ hQ
 clear hQ
 cases bad with
 | true =>
  rw [if_pos rfl]
  go_enter Try.func60, Try.ntmps60
  go_wp2_with (go_at_call 51; refine HQ.out.mono ?_; rintro e V ⟨⟨u, rfl⟩, h⟩; obtain ⟨v, h4⟩ := WrP.open h; obtain ⟨Av, cv, rfl, _, _⟩ := h4.tail.row; have k0 := blk_cell h4.blk 0; have k1 := blk_cell h4.blk 1; have HS := mk_ h4; clear h h4)
  go_ret2
  exact ⟨_, rfl, sp_nil HS.out.tail.tail.s1.tail⟩
 | false =>
  rw [if_neg (by show ¬ (false = true); decide)]
  go_enter Try.func60, Try.ntmps60
  go_wp2_with (go_at_call 51; refine HQ.out.mono ?_; rintro e V ⟨⟨u, rfl⟩, h⟩; obtain ⟨v, h4⟩ := WrP.open h; obtain ⟨Av, cv, rfl, _, _⟩ := h4.tail.row; have k0 := blk_cell h4.blk 0; have k1 := blk_cell h4.blk 1; have HS := mk_ h4; clear h h4)
  go_ret2
  exact ⟨_, rfl, HS.out.tail.s2.tail⟩
end
end Go.Proofs.Ytcbfliajgopdaaa.Ops
end
section
namespace Go.Proofs.Ytcbfliajgopdaaa.PAll
open Go.RowKit Go.Proofs.Ytcbfliajgopdaaa.PAll Go.Proofs.Ytcbfliajgopdaaa.Ops Go.Proofs.Ytcbfliajgopdaaa.Plain Go.Proofs.YtcbfliajgopdaaaW.PrintWords Go.Proofs.YtcbfliajgopdaaaW.PrintLast Go.Proofs.YtcbfliajgopdaaaW.PrintMore Go.Proofs.Ytcbfliajgopdaaa.Sep Go.Proofs.Ytcbfliajgopdaaa.ZipT Go.Proofs.YtcbfliajgopdaaaW.PrintWords.Kd Go.Proofs.YtcbfliajgopdaaaW.PrintMore.Kd
set_option linter.unusedVariables false
set_option linter.unusedSimpArgs false
instance (l : List Int) : Decidable (Bytes l) := by unfold Bytes Byte; infer_instance
end Go.Proofs.Ytcbfliajgopdaaa.PAll
end
section
namespace Go.Proofs.Ytcbfliajgopdaaa.Ops
open Go.RowKit Go.Proofs.Ytcbfliajgopdaaa.PAll Go.Proofs.Ytcbfliajgopdaaa.Plain Go.Proofs.YtcbfliajgopdaaaW.PrintWords Go.Proofs.YtcbfliajgopdaaaW.PrintMore Go.Proofs.Ytcbfliajgopdaaa.ZipT Go.Proofs.YtcbfliajgopdaaaW.PrintWords.Kd Go.Proofs.YtcbfliajgopdaaaW.PrintMore.Kd
set_option linter.unusedVariables false
set_option linter.unusedSimpArgs false
instance : DecidableEq Dt := fun a b => decidable_of_iff (a.f0 = b.f0 ∧ a.f1 = b.f1) ⟨fun ⟨h0, h1⟩ => by cases a; cases b; simp_all, fun h => by subst h; exact ⟨rfl, rfl⟩⟩
instance : DecidableEq St := fun a b => decidable_of_iff (a.f0 = b.f0 ∧ a.f1 = b.f1 ∧ a.f2 = b.f2) ⟨fun ⟨h0, h1, h2⟩ => by cases a; cases b; simp_all, fun h => by subst h; exact ⟨rfl, rfl, rfl⟩⟩
instance : DecidableEq Ox := fun a b => decidable_of_iff (a.f0 = b.f0 ∧ a.f1 = b.f1 ∧ a.f2 = b.f2 ∧ a.f3 = b.f3 ∧ a.f4 = b.f4 ∧ a.f5 = b.f5 ∧ a.f6 = b.f6 ∧ a.f7 = b.f7 ∧ a.f8 = b.f8) ⟨fun ⟨h0, h1, h2, h3, h4, h5, h6, h7, h8⟩ => by cases a; cases b; simp_all, fun h => by subst h; exact ⟨rfl, rfl, rfl, rfl, rfl, rfl, rfl, rfl, rfl⟩⟩
theorem keepDot_eq (a b : Dt) : raddlekeep_Dot.f a.f0 a.f1 b.f0 b.f1 = some (decide (a = b)) := by
 obtain ⟨a0, a1⟩ := a
 obtain ⟨b0, b1⟩ := b
 unfold raddlekeep_Dot.f
 simp only
 by_cases h : a0 = b0
 ·
  rw [if_pos h]; subst h
  by_cases h1 : a1 = b1
  ·
   subst h1; rw [decide_eq_true rfl, beq_self_eq_true]
  ·
   rw [decide_eq_false (fun e => h1 (by injection e)), beq_eq_false_iff_ne.2 h1]
 ·
  rw [if_neg h, decide_eq_false (fun e => h (by injection e))]
theorem keepStamp_eq (a b : St) : raddlekeep_Stamp.f a.f0 a.f1 a.f2 b.f0 b.f1 b.f2 = some (decide (a = b)) := by
 obtain ⟨a0, a1, a2⟩ := a
 obtain ⟨b0, b1, b2⟩ := b
 unfold raddlekeep_Stamp.f
 simp only
 by_cases h : a0 = b0
 ·
  rw [if_pos h]; subst h
  by_cases h1 : a1 = b1
  ·
   rw [if_pos h1]; subst h1
   by_cases h2 : a2 = b2
   ·
    subst h2; rw [decide_eq_true rfl, beq_self_eq_true]
   ·
    rw [decide_eq_false (fun e => h2 (by injection e)), beq_eq_false_iff_ne.2 h2]
  ·
   rw [if_neg h1, decide_eq_false (fun e => h1 (by injection e))]
 ·
  rw [if_neg h, decide_eq_false (fun e => h (by injection e))]
theorem keepDots_l0 (a b : List Dt) (ha : a.length ≤ 1000000) (hl : a.length = b.length) (m : List Dt) : ∀ (k i : Nat), a.drop i = m → m.length < k →
  raddlekeep_Dots.l0 k a b (i : Int) = some (decide (m = b.drop i)) := by
 induction m with
 | nil =>
  intro k i h hk
  obtain ⟨k, rfl⟩ : ∃ j, k = j + 1 := ⟨k - 1, by omega⟩
  have h1 := dropL_end h
  simp only [raddlekeep_Dots.l0]
  rw [if_neg z2_, List.drop_eq_nil_iff.2 z2_]; simp
 | cons v m ih =>
  intro k i h hk
  obtain ⟨k, rfl⟩ : ∃ j, k = j + 1 := ⟨k - 1, by omega⟩
  have h1 := dropL_lt h
  simp only [raddlekeep_Dots.l0]
  cases hd : b.drop i with
  | nil => have h2 := dropL_end hd; omega
  | cons t n =>
   rw [if_pos z2_, if_pos z2_, if_pos z2_, rdD_drop h, rdD_drop hd, keepDot_eq, Option.bind_some, w64 z2_ z2_]
   by_cases hz : v = t
   ·
    have := ih k (i + 1) (dropL_tail h) (by simp at hk; omega)
    rw [decide_eq_true hz, if_pos rfl, show ((i : Int) + 1) = ((i + 1 : Nat) : Int) from rfl, this, dropL_tail hd, hz]
    simp
   ·
    rw [decide_eq_false hz, if_neg z5_]
    simp [hz]
theorem keepDots_eq (k : Nat) (a b : List Dt) (ha : a.length ≤ 1000000) (hk : a.length + 1 ≤ k) : raddlekeep_Dots.f k a b = some (decide (a = b)) := by
 unfold raddlekeep_Dots.f
 by_cases hl : (a.length : Int) = b.length
 ·
  rw [if_pos hl]
  exact keepDots_l0 a b ha z2_ a k 0 rfl z2_
 ·
  rw [if_neg hl, decide_eq_false (fun e => hl (by rw [e]))]
theorem keepOp_eq (k : Nat) (x y : Ox) (h1 : x.f1.length ≤ 1000000) (h7 : x.f7.length ≤ 1000000) (h8 : x.f8.length ≤ 1000000) (hk : x.f1.length + 1 ≤ k ∧ x.f7.length + 1 ≤ k ∧ x.f8.length + 1 ≤ k) :
  raddlekeep_Op.f k x.f0.f0 x.f0.f1 x.f1 x.f2.f0 x.f2.f1 x.f2.f2 x.f3 x.f4 x.f5 x.f6 x.f7 x.f8 y.f0.f0 y.f0.f1 y.f1 y.f2.f0 y.f2.f1 y.f2.f2 y.f3 y.f4 y.f5 y.f6 y.f7 y.f8 = some (decide (x = y)) := by
 unfold raddlekeep_Op.f
 rw [keepDot_eq, Option.bind_some]
 by_cases e0 : x.f0 = y.f0
 rotate_left
 ·
  rw [decide_eq_false e0, if_neg z5_, decide_eq_false (fun e => e0 (by rw [e]))]
 rw [decide_eq_true e0, if_pos rfl, keepInts_eq _ _ _ h1 hk.1, Option.bind_some]
 by_cases e1 : x.f1 = y.f1
 rotate_left
 ·
  rw [decide_eq_false e1, if_neg z5_, decide_eq_false (fun e => e1 (by rw [e]))]
 rw [decide_eq_true e1, if_pos rfl, keepStamp_eq, Option.bind_some]
 by_cases e2 : x.f2 = y.f2
 rotate_left
 ·
  rw [decide_eq_false e2, if_neg z5_, decide_eq_false (fun e => e2 (by rw [e]))]
 rw [decide_eq_true e2, if_pos rfl]
 by_cases e3 : x.f3 = y.f3
 rotate_left
 ·
  rw [if_neg e3, decide_eq_false (fun e => e3 (by rw [e]))]
 rw [if_pos e3]
 by_cases e4 : x.f4 = y.f4
 rotate_left
 ·
  rw [if_neg e4, decide_eq_false (fun e => e4 (by rw [e]))]
 rw [if_pos e4]
 by_cases e5 : x.f5 = y.f5
 rotate_left
 ·
  rw [if_neg (fun e => e5 (toList_inj.1 e)), decide_eq_false (fun e => e5 (by rw [e]))]
 rw [if_pos (toList_inj.2 e5)]
 by_cases e6 : x.f6 = y.f6
 rotate_left
 ·
  rw [if_neg e6, decide_eq_false (fun e => e6 (by rw [e]))]
 rw [if_pos e6, keepRow_eq _ _ _ h7 hk.2.1, Option.bind_some]
 by_cases e7 : x.f7 = y.f7
 rotate_left
 ·
  rw [decide_eq_false e7, if_neg z5_, decide_eq_false (fun e => e7 (by rw [e]))]
 rw [decide_eq_true e7, if_pos rfl, keepDots_eq _ _ _ h8 hk.2.2, Option.bind_some]
 by_cases e8 : x.f8 = y.f8
 rotate_left
 ·
  rw [decide_eq_false e8, decide_eq_false (fun e => e8 (by rw [e]))]
 rw [decide_eq_true e8, decide_eq_true]
 cases x; cases y; simp_all
theorem encT_bytes (t : ByteArray) (h : t.size ≤ 24) : Bytes (encT t) := Bytes.cons ⟨by omega, by omega⟩ (bytesOf_bytes t)
theorem flat_bytes {α : Type} {f : α → List Int} (h : ∀ x, Bytes (f x)) : ∀ l : List α, Bytes (l.flatMap f)
 | [] => Bytes.nil
 | x :: l => by rw [List.flatMap_cons]; exact (h x).append (flat_bytes h l)
theorem opB_bytes {x : Ox} (h : opFit x) : Bytes (opB x) := by
 have hd : ∀ d : Dt, Bytes (dotB d) := fun d => (big_bytes _ _).append (big_bytes _ _)
 unfold opB numsB stampB dotsB
 exact ((((((((big_bytes _ _).append (hd _)).append ((big_bytes _ _).append (flat_bytes (fun n => big_bytes _ _) _))).append (((big_bytes _ _).append (big_bytes _ _)).append (big_bytes _ _))).append (big_bytes _ _)).append (encT_bytes _ h.1.1.1.2)).append (big_bytes _ _)).append (rowB_bytes h.1.2)).append ((big_bytes _ _).append (flat_bytes hd _))
theorem read_back {x : Ox} (h : opFit x) : sOpRead (opB x) 0 = (x, ((opB x).length : Int), 0) := by
 have := opRead_put [] [] x h
 simpa using this
end Go.Proofs.Ytcbfliajgopdaaa.Ops
end
section
namespace Go.Proofs.Ytcbfliajgopdaaa.Logs
open Go.RowKit Go.Proofs.Ytcbfliajgopdaaa.PAll Go.Proofs.Ytcbfliajgopdaaa.Plain Go.Proofs.Ytcbfliajgopdaaa.Ops Go.Proofs.YtcbfliajgopdaaaW.PrintWords Go.Proofs.YtcbfliajgopdaaaW.PrintLast Go.Proofs.YtcbfliajgopdaaaW.PrintMore Go.Proofs.Ytcbfliajgopdaaa.Pads Go.Proofs.Ytcbfliajgopdaaa.ZipT Go.Proofs.YtcbfliajgopdaaaW.PrintWords.Kd Go.Proofs.YtcbfliajgopdaaaW.PrintMore.Kd
set_option linter.unusedVariables false
set_option linter.unusedSimpArgs false
def recOf : List Int → Option Ox
 | [] => none
 | c :: b => if c = 1 then (if (sOpRead b 0).2.2 = 0 ∧ (sOpRead b 0).2.1 = b.length then some (sOpRead b 0).1 else none) else none
def opsOf : List Sl → List Ox
 | [] => []
 | s :: r => if s.2 = true then [] else match recOf s.1 with | none => [] | some x => x :: opsOf r
def recB (x : Ox) : List Int := 1 :: opB x
def slotOf (x : Ox) : Sl := (recB x, false)
def opened (p : Pd) : Pd := { p with slots := p.slots.take (opsOf p.slots).length, safe := (opsOf p.slots).length }
theorem recOf_back {x : Ox} (h : opFit x) : recOf (recB x) = some x := by
 show (if (1 : Int) = 1 then (if (sOpRead (opB x) 0).2.2 = 0 ∧ (sOpRead (opB x) 0).2.1 = (opB x).length then some (sOpRead (opB x) 0).1 else none) else none) = _
 rw [read_back h, if_pos rfl, if_pos ⟨rfl, rfl⟩]
theorem opsOf_app : ∀ (l : List Ox) (r : List Sl), (∀ x ∈ l, opFit x) → opsOf (l.map slotOf ++ r) = l ++ opsOf r
 | [], r, _ => rfl
 | x :: l, r, h => by
  rw [List.map_cons, List.cons_append]
  show (if (slotOf x).2 = true then [] else match recOf (slotOf x).1 with | none => [] | some y => y :: opsOf (l.map slotOf ++ r)) = _
  rw [if_neg (by simp [slotOf]), show (slotOf x).1 = recB x from rfl, recOf_back (h x List.mem_cons_self)]
  simp only [List.cons_append]
  rw [opsOf_app l r (fun y hy => h y (List.mem_cons_of_mem _ hy))]
theorem opsOf_le : ∀ l : List Sl, (opsOf l).length ≤ l.length
 | [] => Nat.le_refl _
 | s :: r => by
  unfold opsOf
  split
  ·
   simp
  ·
   split
   ·
    simp
   ·
    rw [List.length_cons, List.length_cons]; have := opsOf_le r; omega
theorem opsOf_at : ∀ (l : List Sl) (i : Nat) (s : Sl), l[i]? = some s → (i < (opsOf l).length → s.2 = false ∧ ∃ x, recOf s.1 = some x ∧ (opsOf l)[i]? = some x) ∧ (i = (opsOf l).length → s.2 = true ∨ recOf s.1 = none)
 | [], i, s, h => by simp at h
 | a :: r, i, s, h => by
  by_cases ha : a.2 = true
  ·
   have e : opsOf (a :: r) = [] := by show (if a.2 = true then [] else match recOf a.1 with | none => [] | some x => x :: opsOf r) = []; rw [if_pos ha]
   rw [e]
   refine ⟨fun h => absurd h (by simp), fun hi => ?_⟩
   have hi0 : i = 0 := hi
   subst hi0
   simp only [List.getElem?_cons_zero, Option.some.injEq] at h
   subst h
   exact .inl ha
  ·
   rcases hr : recOf a.1 with _ | x
   ·
    have e : opsOf (a :: r) = [] := by show (if a.2 = true then [] else match recOf a.1 with | none => [] | some x => x :: opsOf r) = []; rw [if_neg ha, hr]
    rw [e]
    refine ⟨fun h => absurd h (by simp), fun hi => ?_⟩
    have hi0 : i = 0 := hi
    subst hi0
    simp only [List.getElem?_cons_zero, Option.some.injEq] at h
    subst h
    exact .inr hr
   ·
    have e : opsOf (a :: r) = x :: opsOf r := by show (if a.2 = true then [] else match recOf a.1 with | none => [] | some x => x :: opsOf r) = _; rw [if_neg ha, hr]
    rw [e]
    cases i with
    | zero =>
     simp only [List.getElem?_cons_zero, Option.some.injEq] at h
     subst h
     exact ⟨fun _ => ⟨by simpa using ha, x, hr, rfl⟩, fun h => absurd h (by simp)⟩
    | succ i =>
     simp only [List.getElem?_cons_succ] at h
     obtain ⟨h1, h2⟩ := opsOf_at r i s h
     exact ⟨fun hi => h1 (by simpa using hi), fun hi => h2 (by simpa using hi)⟩
theorem read_good {p : Pd} (hoff : p.off = false) {i : Nat} (hi : i < (opsOf p.slots).length) : ∃ b x, p.read (i : Int) = (b, 0) ∧ recOf b = some x ∧ (opsOf p.slots)[i]? = some x ∧ ∃ s ∈ p.slots, s.1 = b := by
 have hl : i < p.slots.length := Nat.lt_of_lt_of_le hi (opsOf_le _)
 obtain ⟨h1, _⟩ := opsOf_at p.slots i _ (List.getElem?_eq_getElem hl)
 obtain ⟨h2, x, h3, h4⟩ := h1 hi
 refine ⟨(p.slots[i]).1, x, ?_, h3, h4, _, List.getElem_mem hl, rfl⟩
 unfold Pd.read
 rw [if_neg (by simp [hoff]), if_neg z2_, Int.toNat_natCast, List.getD_eq_getElem?_getD, List.getElem?_eq_getElem hl, Option.getD_some, if_neg (by rw [h2]; decide)]
theorem read_bad {p : Pd} (hoff : p.off = false) {i : Nat} (hi : i = (opsOf p.slots).length) (hl : i < p.slots.length) : ∃ b x, p.read (i : Int) = (b, x) ∧ recOf b = none ∧ (b = [] ∨ ∃ s ∈ p.slots, s.1 = b) := by
 obtain ⟨_, h1⟩ := opsOf_at p.slots i _ (List.getElem?_eq_getElem hl)
 unfold Pd.read
 rw [if_neg (by simp [hoff]), if_neg z2_, Int.toNat_natCast, List.getD_eq_getElem?_getD, List.getElem?_eq_getElem hl, Option.getD_some]
 by_cases h : (p.slots[i]).2 = true
 ·
  rw [if_pos h]; exact ⟨[], 13, rfl, rfl, .inl rfl⟩
 ·
  rw [if_neg h]
  exact ⟨_, 0, rfl, (h1 hi).resolve_left h, .inr ⟨_, List.getElem_mem hl, rfl⟩⟩
theorem cut_none {p : Pd} (hoff : p.off = false) (harm : p.arm = none) {i : Nat} (hi : i ≤ p.slots.length) : p.cut (i : Int) = ({ p with slots := p.slots.take i, safe := min p.safe i }, 0) := by
 unfold Pd.cut
 rw [if_neg (by simp [hoff]), if_neg z2_, Pd.spend_none harm, if_pos rfl, Int.toNat_natCast]
theorem sync_none {p : Pd} (hoff : p.off = false) (harm : p.arm = none) : p.sync = ({ p with safe := p.slots.length }, 0) := by
 unfold Pd.sync
 rw [if_neg (by simp [hoff]), Pd.spend_none harm, if_pos rfl]
def cutP (p : Pd) : Pd := { p with slots := p.slots.take (opsOf p.slots).length, safe := min p.safe (opsOf p.slots).length }
theorem cutP_ok {p : Pd} (h : p.Ok) (harm : p.arm = none) : (cutP p).Ok := by
 have h1 := opsOf_le p.slots
 have h2 := h.len
 have h3 := h.safe
 refine ⟨?_, ?_, fun n k t e => ?_, fun s hs => h.bytes s (List.mem_of_mem_take hs)⟩
 ·
  show min p.safe _ ≤ (p.slots.take _).length
  rw [List.length_take]; omega
 ·
  show (p.slots.take _).length ≤ 4000
  rw [List.length_take]; omega
 ·
  have e' : p.arm = some (n, k, t) := e
  rw [harm] at e'; cases e'
theorem sync_cut {p : Pd} (hoff : p.off = false) (harm : p.arm = none) : (cutP p).sync = (opened p, 0) := by
 rw [sync_none (p := cutP p) hoff harm]
 show (({ p with slots := p.slots.take (opsOf p.slots).length, safe := (p.slots.take (opsOf p.slots).length).length } : Pd), (0 : Int)) = _
 rw [List.length_take, Nat.min_eq_left (opsOf_le _)]
 rfl
theorem sync_all {p : Pd} (hoff : p.off = false) (harm : p.arm = none) (h : (opsOf p.slots).length = p.slots.length) : p.sync = (opened p, 0) := by
 rw [sync_none hoff harm]
 unfold opened
 rw [h, List.take_length]
def padOf (l : List Ox) (s : Nat) (life : Int) : Pd := ⟨l.map slotOf, s, false, life, none⟩
def noSnap (l : List Sl) : Prop := ∀ s ∈ l, s.1.head? ≠ some 2
theorem noSnap_ops (l : List Ox) : noSnap (l.map slotOf) := by
 intro s hs
 obtain ⟨x, _, rfl⟩ := List.mem_map.1 hs
 simp [slotOf, recB]
theorem noSnap_spoil (keep : List Bool) (torn : Int) : ∀ (l : List Sl) (j : Nat), noSnap l → noSnap (spoil keep torn j l)
 | [], _, _ => by simp [spoil, noSnap]
 | s :: r, j, h => by
  intro x hx
  unfold spoil at hx
  rcases List.mem_cons.1 hx with e | e
  ·
   subst e
   split
   ·
    simp
   ·
    exact h s List.mem_cons_self
  ·
   exact noSnap_spoil keep torn r (j + 1) (fun y hy => h y (List.mem_cons_of_mem _ hy)) x e
end Go.Proofs.Ytcbfliajgopdaaa.Logs
end
section
namespace Go.Proofs.Ytcbfliajgopdaaa.Pads
open Go.RowKit Go.Proofs.YtcbfliajgopdaaaW.PrintWords Go.Proofs.Ytcbfliajgopdaaa.Sep Go.Proofs.Ytcbfliajgopdaaa.ZipT Go.Proofs.YtcbfliajgopdaaaW.PrintWords.Kd Go.Proofs.YtcbfliajgopdaaaW.PrintMore.Kd
set_option linter.unusedVariables false
def kSl : Kd Sl := Kd.pair (Kd.slice 5 (Kd.int .u8)) Kd.bool
def TripP (t : Value) : Option (Int × List Bool × Int) → Part
 | none => Part.pure (t = .pointer none)
 | some (n, keep, torn) => Part.ex fun h : Nat => Part.ex fun v : Value => Part.all [Part.pure (t = .pointer (some ⟨h, 0, none⟩)), Blk h (.cells #[.int .i64 n, v, .int .i64 torn] 156 (0, 0)), Row Kd.bool 4 v keep]
def PadQ (g : Nat) (p : Pd) (t : Value) : Part := Part.ex fun v : Value => Part.all [Blk g (.cells #[v, .int .i64 p.safe, .bool p.off, .int .i64 p.life, t] 118 (0, 0)), Row kSl 120 v p.slots]
def PadP (g : Nat) (p : Pd) : Part := Part.ex fun t : Value => Part.all [PadQ g p t, TripP t p.arm]
section
variable {w : World} {g : Nat} {p : Pd} {t : Value} {F : List Part}
theorem PadQ.open (h : Sp w (PadQ g p t :: F)) : ∃ v, Sp w (Blk g (.cells #[v, .int .i64 p.safe, .bool p.off, .int .i64 p.life, t] 118 (0, 0)) :: Row kSl 120 v p.slots :: F) := by
 obtain ⟨v, h⟩ := h.ofEx
 exact ⟨v, h.ofAll⟩
theorem PadQ.shut {v : Value} (h : Sp w (Blk g (.cells #[v, .int .i64 p.safe, .bool p.off, .int .i64 p.life, t] 118 (0, 0)) :: Row kSl 120 v p.slots :: F)) : Sp w (PadQ g p t :: F) :=
 Sp.toEx (f := fun v : Value => Part.all [Blk g (.cells #[v, .int .i64 p.safe, .bool p.off, .int .i64 p.life, t] 118 (0, 0)), Row kSl 120 v p.slots]) v (Sp.toAll (ps := [_, _]) h)
theorem PadP.open (h : Sp w (PadP g p :: F)) : ∃ t, Sp w (PadQ g p t :: TripP t p.arm :: F) := by
 obtain ⟨t, h⟩ := h.ofEx
 exact ⟨t, h.ofAll⟩
theorem PadP.shut (h : Sp w (PadQ g p t :: TripP t p.arm :: F)) : Sp w (PadP g p :: F) :=
 Sp.toEx (f := fun t : Value => Part.all [PadQ g p t, TripP t p.arm]) t (Sp.toAll (ps := [_, _]) h)
theorem TripP.open {n : Int} {keep : List Bool} {torn : Int} (h : Sp w (TripP t (some (n, keep, torn)) :: F)) :
  ∃ (b : Nat) (v : Value), t = .pointer (some ⟨b, 0, none⟩) ∧ Sp w (Blk b (.cells #[.int .i64 n, v, .int .i64 torn] 156 (0, 0)) :: Row Kd.bool 4 v keep :: F) := by
 obtain ⟨b, h⟩ := h.ofEx
 obtain ⟨v, h⟩ := h.ofEx
 obtain ⟨h1, h2⟩ := Sp.ofPure h.ofAll
 exact ⟨b, v, h1, h2⟩
theorem TripP.shut {n : Int} {keep : List Bool} {torn : Int} {b : Nat} {v : Value} (h : Sp w (Blk b (.cells #[.int .i64 n, v, .int .i64 torn] 156 (0, 0)) :: Row Kd.bool 4 v keep :: F)) :
  Sp w (TripP (.pointer (some ⟨b, 0, none⟩)) (some (n, keep, torn)) :: F) :=
 Sp.toEx (f := fun h : Nat => Part.ex fun v : Value => Part.all [Part.pure ((.pointer (some ⟨b, 0, none⟩) : Value) = .pointer (some ⟨h, 0, none⟩)), Blk h (.cells #[.int .i64 n, v, .int .i64 torn] 156 (0, 0)), Row Kd.bool 4 v keep]) b
  (Sp.toEx (f := fun v : Value => Part.all [Part.pure ((.pointer (some ⟨b, 0, none⟩) : Value) = .pointer (some ⟨b, 0, none⟩)), Blk b (.cells #[.int .i64 n, v, .int .i64 torn] 156 (0, 0)), Row Kd.bool 4 v keep]) v (Sp.toAll (ps := [_, _, _]) (Sp.toPure rfl h)))
theorem TripP.none_ (h : Sp w (TripP t none :: F)) : t = .pointer none ∧ Sp w F := Sp.ofPure h
theorem TripP.none_mk (h : Sp w F) : Sp w (TripP (.pointer none) none :: F) := Sp.toPure rfl h
end
end Go.Proofs.Ytcbfliajgopdaaa.Pads
end
section
namespace Go.Proofs.Ytcbfliajgopdaaa.Pads
open Go.RowKit Go.Proofs.YtcbfliajgopdaaaW.PrintWords Go.Proofs.YtcbfliajgopdaaaW.PrintLast Go.Proofs.YtcbfliajgopdaaaW.PrintMore Go.Proofs.Ytcbfliajgopdaaa.Sep Go.Proofs.Ytcbfliajgopdaaa.ZipT Go.Proofs.YtcbfliajgopdaaaW.PrintWords.Kd Go.Proofs.YtcbfliajgopdaaaW.PrintMore.Kd
set_option linter.unusedVariables false
set_option linter.unusedSimpArgs false
section
variable {w : World} {g : Nat} {p : Pd} {F : List Part}
theorem cells_of {t : Value} (hS : Sp w (PadQ g p t :: F)) : ∃ (A : Option Addr) (c : Nat), p.slots.length ≤ c ∧ w.cell? ⟨g, 0, none⟩ = some (.slice A p.slots.length c) ∧ w.cell? ⟨g, 1, none⟩ = some (.int .i64 p.safe) ∧ w.cell? ⟨g, 2, none⟩ = some (.bool p.off) ∧ w.cell? ⟨g, 3, none⟩ = some (.int .i64 p.life) ∧ w.cell? ⟨g, 4, none⟩ = some t ∧ (∀ j, w.frozen? ⟨g, j, none⟩ = false) := by
 obtain ⟨v, hS⟩ := PadQ.open hS
 obtain ⟨A, c, rfl, hc, _⟩ := hS.tail.row
 exact ⟨A, c, hc, blk_cell hS.blk 0, blk_cell hS.blk 1, blk_cell hS.blk 2, blk_cell hS.blk 3, blk_cell hS.blk 4, fun j => blk_frozen hS.blk j⟩
set_option maxHeartbeats 4000000 in
set_option maxRecDepth 100000 in
theorem len_calls (hS : Sp w (PadP g p :: F)) : Calls Try.prog 21 #[.pointer (some ⟨g, 0, none⟩)] w fun e w' => e = .returned (.int .i64 (p.slots.length : Int)) ∧ w = w' := by
 obtain ⟨t, hS⟩ := PadP.open hS
 obtain ⟨A, c, hc, h0, h1, h2, h3, h4, hfz⟩ := cells_of hS
 clear hS
 go_enter Try.func21, Try.ntmps21
 go_wp2
 go_ret
 exact ⟨rfl, rfl⟩
set_option maxHeartbeats 4000000 in
set_option maxRecDepth 100000 in
set_option maxHeartbeats 4000000 in
set_option maxRecDepth 100000 in
theorem off_calls (hS : Sp w (PadP g p :: F)) : Calls Try.prog 62 #[.pointer (some ⟨g, 0, none⟩)] w fun e w' => e = .returned (.bool p.off) ∧ w = w' := by
 obtain ⟨t, hS⟩ := PadP.open hS
 obtain ⟨A, c, hc, h0, h1, h2, h3, h4, hfz⟩ := cells_of hS
 clear hS
 go_enter Try.func62, Try.ntmps62
 go_wp2
 go_ret
 exact ⟨rfl, rfl⟩
set_option maxHeartbeats 4000000 in
set_option maxRecDepth 100000 in
set_option maxHeartbeats 4000000 in
set_option maxRecDepth 100000 in
theorem new_calls (hS : Sp w F) : Calls Try.prog 45 #[] w fun e w' => ∃ g, e = .returned (.pointer (some ⟨g, 0, none⟩)) ∧ Sp w' (PadP g Pd.new :: F) := by
 go_enter Try.func45, Try.ntmps45
 go_wp2
 go_ret
 refine ⟨_, rfl, ?_⟩
 refine PadP.shut (t := .pointer none) (PadQ.shut (v := .slice none 0 0) ?_)
 have h1 := hS.box (.cells #[.slice none 0 0, .int .i64 0, .bool false, .int .i64 0, .pointer none] 118 (0, 0))
 have h2 := TripP.none_mk h1
 have h3 : Sp (w.alloc (.cells #[.slice none 0 0, .int .i64 0, .bool false, .int .i64 0, .pointer none] 118 (0, 0))) (Row kSl 120 (.slice none 0 0) [] :: TripP (.pointer none) none :: Blk w.heap.size (.cells #[.slice none 0 0, .int .i64 0, .bool false, .int .i64 0, .pointer none] 118 (0, 0)) :: F) :=
  ⟨fun _ => False, fun _ h => h.elim, R_nil _ _ _ _ _, Sep.wide h2 (fun k hk => ⟨hk, fun e => e⟩)⟩
 exact h3.s2
set_option maxHeartbeats 4000000 in
set_option maxRecDepth 100000 in
theorem start_calls (hS : Sp w (PadP g p :: F)) : Calls Try.prog 24 #[.pointer (some ⟨g, 0, none⟩)] w fun e w' => (∃ v, e = .returned v) ∧ Sp w' (PadP g p.start :: F) := by
 obtain ⟨t, hS⟩ := PadP.open hS
 obtain ⟨A, c, hc, h0, h1, h2, h3, h4, hfz⟩ := cells_of hS
 have hf2 := hfz 2
 clear hfz
 have HS := mk_ hS
 clear hS
 go_enter Try.func24, Try.ntmps24
 go_wp2
 go_end0
 refine ⟨⟨_, rfl⟩, ?_⟩
 obtain ⟨v, hS⟩ := PadQ.open HS.out
 exact PadP.shut (PadQ.shut (hS.store 2 _))
end
end Go.Proofs.Ytcbfliajgopdaaa.Pads
end
