-- Put together by a program of this session (wip/slice2.py) out of the seat's texts.
import Derived.Test.YtjnjfogfpmeacaaZOCp6

set_option maxHeartbeats 8000000
set_option maxRecDepth 100000
open Go.Proofs.YtjnjfogfpmeacaaW Go.Proofs.Ytjnjfogfpmeacaa
section
namespace Go.Proofs.Ytjnjfogfpmeacaa.Ops
open Go.RowKit PAll Plain PrintWords PrintLast PrintMore Go.Proofs.Ytjnjfogfpmeacaa.Sep ZipT PrintWords.Kd PrintMore.Kd
set_option linter.unusedVariables false
set_option linter.unusedSimpArgs false
def CuP (g : Nat) (A : Option Addr) (n c : Nat) (r : Rr) : Part := Blk g (.cells #[.slice A n c, .int .i64 r.1, .bool r.2] 64 (0, 0))
theorem rNum1_le {l : List Int} {r : Rr} (hb : Bytes l) (hp : rAt l r) : (rNum 1 l r).1 ≤ 1000 := by
 cases h : (rNum 1 l r).2.2
 ·
  have := ((Reads.num 1 z5 z5).got l r hb hp.1 hp.2 h).1.2
  have h2 : (256 : Int) ^ 1 = 256 := rfl
  have h3 : (rNum ((1 : Nat) : Int) l r).1 = (rNum 1 l r).1 := rfl
  omega
 ·
  have : (rNum 1 l r).1 = 0 := by
   have hu : rNum 1 l r = rOf (0 : Int) (sGet l r.1 1) r := rfl
   rw [hu] at h ⊢
   unfold rOf at h ⊢
   split
   ·
    rfl
   ·
    rename_i hc; rw [if_neg hc] at h; cases h
  omega
section
variable {w w0 : World} {g : Nat} {A : Option Addr} {c : Nat} {l : List Int} {F : List Part}
theorem cnum_calls (hC0 : Kd.C (Kd.int .u8) w0 A l.length l) (hlc : l.length ≤ c) (hb : Bytes l) (hl : l.length ≤ 1000000) (r : Rr) (size : Int) (h1 : 1 ≤ size) (h7 : size ≤ 7) (hp : rAt l r) (hS : Sp w (CuP g A l.length c r :: Old w0 :: F)) :
  Calls Try.prog 59 #[.pointer (some ⟨g, 0, none⟩), .int .i64 size] w fun e w' => e = .returned (.int .i64 (rNum size l r).1) ∧ Sp w' (CuP g A l.length c (rNum size l r).2 :: Old w0 :: F) := by
 have HC := mk_ (C_below hC0 hS.s1.old)
 have HLC := mk_ hlc
 obtain ⟨at_, bad⟩ := r
 obtain ⟨p0, p1⟩ := hp
 dsimp only at p0 p1
 have hu : rNum size l (at_, bad) = rOf (0 : Int) (sGet l at_ size) (at_, bad) := rfl
 have hk0 : w.cell? ⟨g, 0, none⟩ = some (.slice A l.length c) := blk_cell hS.blk 0
 have hk1 : w.cell? ⟨g, 1, none⟩ = some (.int .i64 at_) := blk_cell hS.blk 1
 have hk2 : w.cell? ⟨g, 2, none⟩ = some (.bool bad) := blk_cell hS.blk 2
 have f1 := blk_frozen hS.blk 1
 have f2 := blk_frozen hS.blk 2
 have HS := mk_ hS
 have hw1 : wrap64 ((l.length : Int) - at_) = (l.length : Int) - at_ := w64 z4 z4
 have hw2 : wrap64 (at_ + size) = at_ + size := w64 z4 z4
 clear hS hC0
 cases bad with
 | true =>
  have hr : rNum size l (at_, true) = (0, (at_, true)) := by rw [hu]; unfold rOf; simp
  rw [hr]
  clear hu hr hb hl h1 h7 hlc p0 p1 hw1 hw2
  go_enter Try.func59, Try.ntmps59
  go_wp2
  go_quiet (fail)
  go_wp2
  go_ret
  refine ⟨rfl, ?_⟩
  refine Sp.store (cs := #[.slice A l.length c, .int .i64 at_, .bool true]) ?_ 2 (.bool true)
  repeat (first | exact HS.out | refine Sp.drewN ?_ _ | refine Sp.drew ?_)
 | false =>
  by_cases hs : (l.length : Int) - at_ < size
  ·
   have hsg : sGet l at_ size = (0, 0, 3) := by unfold sGet; rw [if_pos ⟨h1, h7, p0, p1⟩, if_pos hs]
   have hr : rNum size l (at_, false) = (0, (at_, true)) := by rw [hu, hsg]; unfold rOf; simp
   clear hsg
   rw [hr]
   have hd : decide (wrap64 ((l.length : Int) - at_) < size) = true := by rw [hw1]; exact decide_eq_true hs
   clear hu hr hb hl h1 h7 hlc p0 p1 hw1 hw2 hs
   go_enter Try.func59, Try.ntmps59
   go_wp2
   go_quiet (fail)
   go_wp2
   go_ret
   refine ⟨rfl, ?_⟩
   refine Sp.store (cs := #[.slice A l.length c, .int .i64 at_, .bool false]) ?_ 2 (.bool true)
   repeat (first | exact HS.out | refine Sp.drewN ?_ _ | refine Sp.drew ?_)
  have hsg : sGet l at_ size = (val 0 (sub l at_.toNat (at_ + size).toNat), at_ + size, 0) := by unfold sGet; rw [if_pos ⟨h1, h7, p0, p1⟩, if_neg hs]
  have hr : rNum size l (at_, false) = (val 0 (sub l at_.toNat (at_ + size).toNat), (at_ + size, false)) := by rw [hu, hsg]; unfold rOf; simp
  clear hsg
  have hd : decide (wrap64 ((l.length : Int) - at_) < size) = false := by rw [hw1]; exact decide_eq_false hs
  have hlen : ((l.take (wrap64 (at_ + size)).toNat).drop at_.toNat).length = (wrap64 (at_ + size)).toNat - at_.toNat := by rw [List.length_drop, List.length_take, hw2]; omega
  have hn : raddleref01_num.f 20 ((l.take (wrap64 (at_ + size)).toNat).drop at_.toNat) = some (val 0 (sub l at_.toNat (at_ + size).toNat)) := by
   rw [rnum_eq 20 _ ((hb.take _).drop _) (by rw [hlen, hw2]; omega) z4, hw2]; rfl
  obtain ⟨i0, hi0, _, hsz, _⟩ := info_parts info5
  obtain ⟨A14, hcut, hA14, hC14⟩ := print_mid_of (P := Try.prog) (Value.int .u8) 0 22 5 .i64 .i64 Try.underlying22 hi0 hsz A c l at_ (wrap64 (at_ + size)) p0 (by rw [hw2]; omega) (by rw [hw2]; omega) hlc
  have hN : ∀ V, Kd.C (Kd.int .u8) V A l.length l → Calls Try.prog 95 #[.slice A14 ((wrap64 (at_ + size)).toNat - at_.toNat) (c - at_.toNat)] V fun e w' => e = .returned (.int .i64 (val 0 (sub l at_.toNat (at_ + size).toNat))) ∧ Drawn0 V w' := fun V h => by
   have := PAll.raddleref01_num.calls 20 A14 (c - at_.toNat) _ _ V (C_of_reads (h1 := fun _ => rfl) (hA14 _ (Kd.reads_of_C h))) hC14 hn
   rwa [hlen] at this
  have HN := mk_ hN
  have b0 := eq_true p0
  have b1 : decide (0 ≤ at_) = true := decide_eq_true p0
  have b2 : (at_ ≤ wrap64 (at_ + size)) = True := eq_true (by rw [hw2]; omega)
  have b3 : decide (at_ ≤ wrap64 (at_ + size)) = true := decide_eq_true (by rw [hw2]; omega)
  have b4 : (wrap64 (at_ + size) ≤ (l.length : Int)) = True := eq_true (by rw [hw2]; omega)
  have b5 : decide (wrap64 (at_ + size) ≤ (l.length : Int)) = true := decide_eq_true (by rw [hw2]; omega)
  have HW := mk_ hw2
  have HR := mk_ hr
  generalize val 0 (sub l at_.toNat (at_ + size).toNat) = v at *
  clear hu hr hb hl h1 h7 hlc p0 p1 hw1 hw2 hs hN hn hC14 hA14 hlen hi0 hsz
  go_enter Try.func59, Try.ntmps59
  go_wp2
  go_quiet (fail)
  go_wp2
  go_quiet (first | (go_at_call 95; refine (HN.out _ (by repeat (first | exact HC.out | refine C_drewN ?_ _ | refine C_drew ?_))).mono ?_; rintro e V ⟨rfl, ⟨m, rfl⟩⟩; (try first | exact ⟨rfl, _, World.drewN_drewN _ _ _⟩ | exact ⟨rfl, _, Eq.trans (World.drewN_drewN _ _ _) (congrArg (World.drewN _) (Nat.add_assoc _ _ _))⟩)))
  go_wp2
  go_ret
  rw [HR.out]
  refine ⟨rfl, ?_⟩
  rw [HW.out]
  refine Sp.store (cs := #[.slice A l.length c, .int .i64 at_, .bool false]) ?_ 1 (.int .i64 (at_ + size))
  repeat (first | exact HS.out | refine Sp.drewN ?_ _ | refine Sp.drew ?_)
theorem cdot_calls (hC0 : Kd.C (Kd.int .u8) w0 A l.length l) (hlc : l.length ≤ c) (hb : Bytes l) (hl : l.length ≤ 1000000) (r : Rr) (hp0 : rAt l r) (hp1 : rAt l (rNum 1 l r).2) (hS : Sp w (CuP g A l.length c r :: Old w0 :: F)) :
  Calls Try.prog 60 #[.pointer (some ⟨g, 0, none⟩)] w fun e w' => e = .returned (.agg #[.int .i64 (rNum 1 l r).1, .int .i64 (rNum 4 l (rNum 1 l r).2).1]) ∧ Sp w' (CuP g A l.length c (rNum 4 l (rNum 1 l r).2).2 :: Old w0 :: F) := by
 have HP0 := mk_ hp0
 have HP1 := mk_ hp1
 have HC := mk_ (And.intro hC0 (And.intro hlc (And.intro hb hl)))
 have HS0 := mk_ (hS.box (.cells #[.int .i64 0, .int .i64 0] 25 (0, 0)))
 clear hS hC0 hlc hb hl hp0 hp1
 go_enter Try.func60, Try.ntmps60
 go_wp2_with (first
  | (go_at_call 59; (with_reducible show Calls _ _ #[_, .int .i64 1] _ _); refine (cnum_calls (F := Blk w.heap.size (.cells #[.int .i64 0, .int .i64 0] 25 (0, 0)) :: F) HC.out.1 HC.out.2.1 HC.out.2.2.1 HC.out.2.2.2 r 1 z5 z5 HP0.out (Sp.s1 (Sp.s2 (Sp.s1 HS0.out)))).mono ?_; rintro e V0 ⟨rfl, h1⟩; have HS1 := mk_ h1; clear h1)
  | (go_at_call 59; (with_reducible show Calls _ _ #[_, .int .i64 4] _ _); refine (cnum_calls (F := Blk w.heap.size (.cells #[.int .i64 0, .int .i64 0] 25 (0, 0)) :: F) HC.out.1 HC.out.2.1 HC.out.2.2.1 HC.out.2.2.2 (rNum 1 l r).2 4 z5 z5 HP1.out HS1.out).mono ?_; rintro e V1 ⟨rfl, h1⟩; have HS2 := mk_ h1; clear h1)
  | ((with_reducible refine gate_st (ty := 25) (x := .tmp 2) (y := .tmp 7) rfl ?_); refine wpList_store_row rfl 25 (.tmp 2) (.tmp 7) rfl w.heap.size #[.int .i64 (rNum 1 l r).1, .int .i64 (rNum 4 l (rNum 1 l r).2).1] rfl rfl 25 #[.int .i64 0, .int .i64 0] HS2.out.s2.blk z0 rfl z6 ?_))
 refine bodyPost_ret (results_cell_row rfl _ _ w.heap.size 25 #[.int .i64 (rNum 1 l r).1, .int .i64 (rNum 4 l (rNum 1 l r).2).1] (0, 0) _ rfl (sp_storeRow HS2.out.s2 _).blk Try.underlying25 rfl z0) rfl ?_
 exact ⟨rfl, (sp_storeRow HS2.out.s2 #[.int .i64 (rNum 1 l r).1, .int .i64 (rNum 4 l (rNum 1 l r).2).1]).tail⟩
theorem cstamp_calls (hC0 : Kd.C (Kd.int .u8) w0 A l.length l) (hlc : l.length ≤ c) (hb : Bytes l) (hl : l.length ≤ 1000000) (r : Rr) (hp0 : rAt l r) (hp1 : rAt l (rNum 6 l r).2) (hp2 : rAt l (rNum 3 l (rNum 6 l r).2).2) (hS : Sp w (CuP g A l.length c r :: Old w0 :: F)) :
  Calls Try.prog 62 #[.pointer (some ⟨g, 0, none⟩)] w fun e w' => e = .returned (.agg #[.int .i64 (rNum 6 l r).1, .int .i64 (rNum 3 l (rNum 6 l r).2).1, .int .i64 (rNum 1 l (rNum 3 l (rNum 6 l r).2).2).1]) ∧ Sp w' (CuP g A l.length c (rNum 1 l (rNum 3 l (rNum 6 l r).2).2).2 :: Old w0 :: F) := by
 have HP0 := mk_ hp0
 have HP1 := mk_ hp1
 have HP2 := mk_ hp2
 have HC := mk_ (And.intro hC0 (And.intro hlc (And.intro hb hl)))
 have HS0 := mk_ (hS.box (.cells #[.int .i64 0, .int .i64 0, .int .i64 0] 28 (0, 0)))
 clear hS hC0 hlc hb hl hp0 hp1 hp2
 go_enter Try.func62, Try.ntmps62
 go_wp2_with (first
  | (go_at_call 59; (with_reducible show Calls _ _ #[_, .int .i64 6] _ _); refine (cnum_calls (F := Blk w.heap.size (.cells #[.int .i64 0, .int .i64 0, .int .i64 0] 28 (0, 0)) :: F) HC.out.1 HC.out.2.1 HC.out.2.2.1 HC.out.2.2.2 r 6 z5 z5 HP0.out (Sp.s1 (Sp.s2 (Sp.s1 HS0.out)))).mono ?_; rintro e V0 ⟨rfl, h1⟩; have HS1 := mk_ h1; clear h1)
  | (go_at_call 59; (with_reducible show Calls _ _ #[_, .int .i64 3] _ _); refine (cnum_calls (F := Blk w.heap.size (.cells #[.int .i64 0, .int .i64 0, .int .i64 0] 28 (0, 0)) :: F) HC.out.1 HC.out.2.1 HC.out.2.2.1 HC.out.2.2.2 (rNum 6 l r).2 3 z5 z5 HP1.out HS1.out).mono ?_; rintro e V1 ⟨rfl, h1⟩; have HS2 := mk_ h1; clear h1)
  | (go_at_call 59; (with_reducible show Calls _ _ #[_, .int .i64 1] _ _); refine (cnum_calls (F := Blk w.heap.size (.cells #[.int .i64 0, .int .i64 0, .int .i64 0] 28 (0, 0)) :: F) HC.out.1 HC.out.2.1 HC.out.2.2.1 HC.out.2.2.2 (rNum 3 l (rNum 6 l r).2).2 1 z5 z5 HP2.out HS2.out).mono ?_; rintro e V2 ⟨rfl, h1⟩; have HS3 := mk_ h1; clear h1)
  | ((with_reducible refine gate_st (ty := 28) (x := .tmp 2) (y := .tmp 9) rfl ?_); refine wpList_store_row rfl 28 (.tmp 2) (.tmp 9) rfl w.heap.size #[.int .i64 (rNum 6 l r).1, .int .i64 (rNum 3 l (rNum 6 l r).2).1, .int .i64 (rNum 1 l (rNum 3 l (rNum 6 l r).2).2).1] rfl rfl 28 #[.int .i64 0, .int .i64 0, .int .i64 0] HS3.out.s2.blk z0 rfl z6 ?_))
 refine bodyPost_ret (results_cell_row rfl _ _ w.heap.size 28 #[.int .i64 (rNum 6 l r).1, .int .i64 (rNum 3 l (rNum 6 l r).2).1, .int .i64 (rNum 1 l (rNum 3 l (rNum 6 l r).2).2).1] (0, 0) _ rfl (sp_storeRow HS3.out.s2 _).blk Try.underlying28 rfl z0) rfl ?_
 exact ⟨rfl, (sp_storeRow HS3.out.s2 #[.int .i64 (rNum 6 l r).1, .int .i64 (rNum 3 l (rNum 6 l r).2).1, .int .i64 (rNum 1 l (rNum 3 l (rNum 6 l r).2).2).1]).tail⟩
theorem ctext_calls (hC0 : Kd.C (Kd.int .u8) w0 A l.length l) (hlc : l.length ≤ c) (hb : Bytes l) (hl : l.length ≤ 1000000) (r : Rr) (hp : rAt l r) (hS : Sp w (CuP g A l.length c r :: Old w0 :: F)) :
  Calls Try.prog 63 #[.pointer (some ⟨g, 0, none⟩)] w fun e w' => e = .returned (.string (rText l r).1) ∧ Sp w' (CuP g A l.length c (rText l r).2 :: Old w0 :: F) := by
 have hg := rgetText_eq l r.1 hb hl (by have := hp.2; omega)
 have hcl : ∀ V, Below w0.heap.size w0 V → Kd.C (Kd.int .u8) V A l.length l := fun V h => C_below hC0 h
 have hu : rText l r = rOf (⟨#[]⟩ : ByteArray) (sGetText l r.1) r := rfl
 rw [hu]
 obtain ⟨at_, bad⟩ := r
 dsimp only at hg hu ⊢
 generalize sGetText l at_ = gg at hg hu ⊢
 obtain ⟨v_, nx_, e_⟩ := gg
 have HG := mk_ hg
 have HLC := mk_ hlc
 have HCL := mk_ hcl
 have k2 : w.cell? ⟨g, 2, none⟩ = some (.bool bad) := blk_cell hS.blk 2
 have HS := mk_ hS
 clear hS hC0 hlc hb hl hp hg hu hcl
 cases bad with
 | true =>
  have hr : rOf (⟨#[]⟩ : ByteArray) (v_, nx_, e_) (at_, true) = ((⟨#[]⟩ : ByteArray), (at_, true)) := by unfold rOf; simp
  rw [hr]
  go_enter Try.func63, Try.ntmps63
  go_wp2
  go_ret
  exact ⟨rfl, HS.out⟩
 | false =>
  by_cases he : e_ = 0
  ·
   subst he
   have hr : rOf (⟨#[]⟩ : ByteArray) (v_, nx_, 0) (at_, false) = (v_, (nx_, false)) := by unfold rOf; simp
   rw [hr]
   clear hr
   go_enter Try.func63, Try.ntmps63
   go_wp2
   have hSd := HS.out.drew
   refine start_at (n := 16) (S := fun w' => w'.cell? ⟨g, 0, none⟩ = some (.slice A l.length c) ∧ w'.cell? ⟨g, 1, none⟩ = some (.int .i64 at_) ∧ True) (ds := []) (fun W => Sp W (CuP g A l.length c (at_, false) :: Old w0 :: F)) (Steps.Bs 16 0) z0 rfl rfl hSd (fun W hJ => ⟨blk_cell hJ.blk 0, blk_cell hJ.blk 1, trivial⟩) (fun W0 hJ => ?_)
   clear hSd HS
   have hHeld : W0.cell? ⟨g, 0, none⟩ = some (.slice A l.length c) ∧ W0.cell? ⟨g, 1, none⟩ = some (.int .i64 at_) ∧ True := ⟨blk_cell hJ.blk 0, blk_cell hJ.blk 1, trivial⟩
   refine sI 0 11 16 1 ?_
   refine sI 1 12 16 3 ?_
   refine sI 2 13 16 7 ?_
   refine sI 4 15 16 23 ?_
   refine sI 5 16 16 55 ?_
   refine sI 6 17 16 119 ?_
   refine sT hHeld 3 14 16 127 ?_
   refine sT hHeld 7 18 16 255 ?_
   refine one_ (i := 8) (N := some 19) (Steps.Bs 16 511) rfl rfl z0 z5 (fun K hK => ?_)
   refine goes_ Try.func96 z0 rfl #[.slice A l.length c, .int .i64 at_] (by rfl) rfl rfl (by (try simp only [List.map_toArray, List.map_cons, List.map_nil]); first | done | rfl) ?_
   refine (PAll.raddleref01_GetText.calls A c l at_ v_ nx_ 0 _ (HCL.out _ hJ.s1.old) HLC.out HG.out).mono ?_
   rintro e V8 ⟨rfl, hq_⟩
   refine ⟨_, rfl, ?_⟩
   have HS2 := mk_ (Sp.below hJ hq_)
   clear hJ hHeld
   refine hK.out _ _ ⟨blk_cell HS2.out.blk 0, blk_cell HS2.out.blk 1, trivial⟩ (fun _ => ?_)
   clear hK K
   refine nrm 19 ?_
   refine sI 9 10 16 1023 ?_
   refine sI 10 20 16 2047 ?_
   refine sI 11 21 16 4095 ?_
   refine sI 12 22 16 8191 ?_
   refine sI 13 3 16 16383 ?_
   refine sI 14 4 16 32767 ?_
   refine sI 15 5 16 65535 ?_
   refine done_ z0 ?_
   have k3 := blk_cell HS2.out.blk 2
   have f3 := blk_frozen HS2.out.blk
   go_wp2
   go_ret
   exact ⟨rfl, HS2.out.store 1 (.int .i64 nx_)⟩
  have hr : rOf (⟨#[]⟩ : ByteArray) (v_, nx_, e_) (at_, false) = ((⟨#[]⟩ : ByteArray), (at_, true)) := by unfold rOf; simp [he]
  have hb0 : (e_ == 0) = false := beq_eq_false_iff_ne.2 he
  have hb1 : (e_ != 0) = true := bne_iff_ne.2 he
  have hb2 : decide (e_ = 0) = false := decide_eq_false he
  rw [hr]
  clear hr he
  go_enter Try.func63, Try.ntmps63
  go_wp2
  have hSd := HS.out.drew
  refine start_at (n := 16) (S := fun w' => w'.cell? ⟨g, 0, none⟩ = some (.slice A l.length c) ∧ w'.cell? ⟨g, 1, none⟩ = some (.int .i64 at_) ∧ True) (ds := []) (fun W => Sp W (CuP g A l.length c (at_, false) :: Old w0 :: F)) (Steps.Bs 16 0) z0 rfl rfl hSd (fun W hJ => ⟨blk_cell hJ.blk 0, blk_cell hJ.blk 1, trivial⟩) (fun W0 hJ => ?_)
  clear hSd HS
  have hHeld : W0.cell? ⟨g, 0, none⟩ = some (.slice A l.length c) ∧ W0.cell? ⟨g, 1, none⟩ = some (.int .i64 at_) ∧ True := ⟨blk_cell hJ.blk 0, blk_cell hJ.blk 1, trivial⟩
  refine sI 0 11 16 1 ?_
  refine sI 1 12 16 3 ?_
  refine sI 2 13 16 7 ?_
  refine sI 4 15 16 23 ?_
  refine sI 5 16 16 55 ?_
  refine sI 6 17 16 119 ?_
  refine sT hHeld 3 14 16 127 ?_
  refine sT hHeld 7 18 16 255 ?_
  refine one_ (i := 8) (N := some 19) (Steps.Bs 16 511) rfl rfl z0 z5 (fun K hK => ?_)
  refine goes_ Try.func96 z0 rfl #[.slice A l.length c, .int .i64 at_] (by rfl) rfl rfl (by (try simp only [List.map_toArray, List.map_cons, List.map_nil]); first | done | rfl) ?_
  refine (PAll.raddleref01_GetText.calls A c l at_ v_ nx_ e_ _ (HCL.out _ hJ.s1.old) HLC.out HG.out).mono ?_
  rintro e V8 ⟨rfl, hq_⟩
  refine ⟨_, rfl, ?_⟩
  have HS2 := mk_ (Sp.below hJ hq_)
  clear hJ hHeld
  refine hK.out _ _ ⟨blk_cell HS2.out.blk 0, blk_cell HS2.out.blk 1, trivial⟩ (fun _ => ?_)
  clear hK K
  refine nrm 19 ?_
  refine sI 9 10 16 1023 ?_
  refine sI 10 20 16 2047 ?_
  refine sI 11 21 16 4095 ?_
  refine sI 12 22 16 8191 ?_
  refine sI 13 3 16 16383 ?_
  refine sI 14 4 16 32767 ?_
  refine sI 15 5 16 65535 ?_
  refine done_ z0 ?_
  have k3 := blk_cell HS2.out.blk 2
  have f3 := blk_frozen HS2.out.blk
  go_wp2
  go_ret
  exact ⟨rfl, HS2.out.store 2 (.bool true)⟩
theorem crow_calls (hC0 : Kd.C (Kd.int .u8) w0 A l.length l) (hlc : l.length ≤ c) (hb : Bytes l) (hl : l.length ≤ 1000000) (r : Rr) (hp : rAt l r) (hS : Sp w (CuP g A l.length c r :: Old w0 :: F)) :
  Calls Try.prog 64 #[.pointer (some ⟨g, 0, none⟩)] w fun e w' => ∃ v, e = .returned v ∧ Sp w' (Row k84 84 v (rRow l r).1 :: CuP g A l.length c (rRow l r).2 :: Old w0 :: F) := by
 have hg := rrowRead_eq 100 l r.1 hb hl (by have := hp.2; omega) (Nat.le_refl _)
 have hcl : ∀ V, Below w0.heap.size w0 V → Kd.C (Kd.int .u8) V A l.length l := fun V h => C_below hC0 h
 have hu : rRow l r = rOf ([] : List V) (sRowRead l r.1) r := rfl
 rw [hu]
 obtain ⟨at_, bad⟩ := r
 dsimp only at hg hu ⊢
 generalize sRowRead l at_ = gg at hg hu ⊢
 obtain ⟨v_, nx_, e_⟩ := gg
 have HG := mk_ hg
 have HLC := mk_ hlc
 have HCL := mk_ hcl
 have k2 : w.cell? ⟨g, 2, none⟩ = some (.bool bad) := blk_cell hS.blk 2
 have HS := mk_ hS
 clear hS hC0 hlc hb hl hp hg hu hcl
 cases bad with
 | true =>
  have hr : rOf ([] : List V) (v_, nx_, e_) (at_, true) = (([] : List V), (at_, true)) := by unfold rOf; simp
  rw [hr]
  go_enter Try.func64, Try.ntmps64
  go_wp2
  go_ret
  exact ⟨_, rfl, sp_nil HS.out⟩
 | false =>
  by_cases he : e_ = 0
  ·
   subst he
   have hr : rOf ([] : List V) (v_, nx_, 0) (at_, false) = (v_, (nx_, false)) := by unfold rOf; simp
   rw [hr]
   clear hr
   go_enter Try.func64, Try.ntmps64
   go_wp2
   have hSd := HS.out.drew
   refine start_at (n := 16) (S := fun w' => w'.cell? ⟨g, 0, none⟩ = some (.slice A l.length c) ∧ w'.cell? ⟨g, 1, none⟩ = some (.int .i64 at_) ∧ True) (ds := []) (fun W => Sp W (CuP g A l.length c (at_, false) :: Old w0 :: F)) (Steps.Bs 16 0) z0 rfl rfl hSd (fun W hJ => ⟨blk_cell hJ.blk 0, blk_cell hJ.blk 1, trivial⟩) (fun W0 hJ => ?_)
   clear hSd HS
   have hHeld : W0.cell? ⟨g, 0, none⟩ = some (.slice A l.length c) ∧ W0.cell? ⟨g, 1, none⟩ = some (.int .i64 at_) ∧ True := ⟨blk_cell hJ.blk 0, blk_cell hJ.blk 1, trivial⟩
   refine sI 0 11 16 1 ?_
   refine sI 1 12 16 3 ?_
   refine sI 2 13 16 7 ?_
   refine sI 4 15 16 23 ?_
   refine sI 5 16 16 55 ?_
   refine sI 6 17 16 119 ?_
   refine sT hHeld 3 14 16 127 ?_
   refine sT hHeld 7 18 16 255 ?_
   refine one_ (i := 8) (N := some 19) (Steps.Bs 16 511) rfl rfl z0 z5 (fun K hK => ?_)
   refine goes_ Try.func97 z0 rfl #[.slice A l.length c, .int .i64 at_] (by rfl) rfl rfl (by (try simp only [List.map_toArray, List.map_cons, List.map_nil]); first | done | rfl) ?_
   refine (PAll.raddleref01_ReadRow.calls 100 A c l at_ v_ nx_ 0 _ (HCL.out _ hJ.s1.old) HLC.out HG.out).mono ?_
   rintro e V8 ⟨v7_, rfl, hr_, hq_⟩
   obtain ⟨A7, c7, rfl⟩ := R_slice hr_
   refine ⟨_, rfl, ?_⟩
   have HS2 := mk_ (Sp.made hJ hq_ hr_)
   clear hJ hHeld
   refine hK.out _ _ ⟨blk_cell HS2.out.s1.blk 0, blk_cell HS2.out.s1.blk 1, trivial⟩ (fun _ => ?_)
   clear hK K
   refine nrm 19 ?_
   refine sI 9 10 16 1023 ?_
   refine sI 10 20 16 2047 ?_
   refine sI 11 21 16 4095 ?_
   refine sI 12 22 16 8191 ?_
   refine sI 13 3 16 16383 ?_
   refine sI 14 4 16 32767 ?_
   refine sI 15 5 16 65535 ?_
   refine done_ z0 ?_
   have k3 := blk_cell HS2.out.s1.blk 2
   have f3 := blk_frozen HS2.out.s1.blk
   go_wp2
   go_ret
   exact ⟨_, rfl, (HS2.out.s1.store 1 (.int .i64 nx_)).s1⟩
  have hr : rOf ([] : List V) (v_, nx_, e_) (at_, false) = (([] : List V), (at_, true)) := by unfold rOf; simp [he]
  have hb0 : (e_ == 0) = false := beq_eq_false_iff_ne.2 he
  have hb1 : (e_ != 0) = true := bne_iff_ne.2 he
  have hb2 : decide (e_ = 0) = false := decide_eq_false he
  rw [hr]
  clear hr he
  go_enter Try.func64, Try.ntmps64
  go_wp2
  have hSd := HS.out.drew
  refine start_at (n := 16) (S := fun w' => w'.cell? ⟨g, 0, none⟩ = some (.slice A l.length c) ∧ w'.cell? ⟨g, 1, none⟩ = some (.int .i64 at_) ∧ True) (ds := []) (fun W => Sp W (CuP g A l.length c (at_, false) :: Old w0 :: F)) (Steps.Bs 16 0) z0 rfl rfl hSd (fun W hJ => ⟨blk_cell hJ.blk 0, blk_cell hJ.blk 1, trivial⟩) (fun W0 hJ => ?_)
  clear hSd HS
  have hHeld : W0.cell? ⟨g, 0, none⟩ = some (.slice A l.length c) ∧ W0.cell? ⟨g, 1, none⟩ = some (.int .i64 at_) ∧ True := ⟨blk_cell hJ.blk 0, blk_cell hJ.blk 1, trivial⟩
  refine sI 0 11 16 1 ?_
  refine sI 1 12 16 3 ?_
  refine sI 2 13 16 7 ?_
  refine sI 4 15 16 23 ?_
  refine sI 5 16 16 55 ?_
  refine sI 6 17 16 119 ?_
  refine sT hHeld 3 14 16 127 ?_
  refine sT hHeld 7 18 16 255 ?_
  refine one_ (i := 8) (N := some 19) (Steps.Bs 16 511) rfl rfl z0 z5 (fun K hK => ?_)
  refine goes_ Try.func97 z0 rfl #[.slice A l.length c, .int .i64 at_] (by rfl) rfl rfl (by (try simp only [List.map_toArray, List.map_cons, List.map_nil]); first | done | rfl) ?_
  refine (PAll.raddleref01_ReadRow.calls 100 A c l at_ v_ nx_ e_ _ (HCL.out _ hJ.s1.old) HLC.out HG.out).mono ?_
  rintro e V8 ⟨v7_, rfl, hr_, hq_⟩
  obtain ⟨A7, c7, rfl⟩ := R_slice hr_
  refine ⟨_, rfl, ?_⟩
  have HS2 := mk_ (Sp.made hJ hq_ hr_)
  clear hJ hHeld
  refine hK.out _ _ ⟨blk_cell HS2.out.s1.blk 0, blk_cell HS2.out.s1.blk 1, trivial⟩ (fun _ => ?_)
  clear hK K
  refine nrm 19 ?_
  refine sI 9 10 16 1023 ?_
  refine sI 10 20 16 2047 ?_
  refine sI 11 21 16 4095 ?_
  refine sI 12 22 16 8191 ?_
  refine sI 13 3 16 16383 ?_
  refine sI 14 4 16 32767 ?_
  refine sI 15 5 16 65535 ?_
  refine done_ z0 ?_
  have k3 := blk_cell HS2.out.s1.blk 2
  have f3 := blk_frozen HS2.out.s1.blk
  go_wp2
  go_ret
  exact ⟨_, rfl, sp_nil (HS2.out.s1.store 2 (.bool true)).s1.tail⟩
theorem cvec_calls (hC0 : Kd.C (Kd.int .u8) w0 A l.length l) (hlc : l.length ≤ c) (hb : Bytes l) (hl : l.length ≤ 1000000) (r : Rr) (hp : rAt l r) (hS : Sp w (CuP g A l.length c r :: Old w0 :: F)) :
  Calls Try.prog 61 #[.pointer (some ⟨g, 0, none⟩)] w fun e w' => ∃ v, e = .returned v ∧ Sp w' (Row (Kd.int .i64) 3 v (cNums l r).1 :: CuP g A l.length c (cNums l r).2 :: Old w0 :: F) := by
 have hN := cnum_calls hC0 hlc hb hl r 1 z5 z5 hp hS
 have hm : rAt l (rNum 1 l r).2 := rAt_num hb 1 z5 z5 hp
 have hu : cNums l r = cTimes (rNum 4) l (rNum 1 l r).1.toNat [] ((rNum 1 l r).2.1, (rNum 1 l r).2.2 || decide ((rNum 1 l r).1 > 5)) := rfl
 have hle : (rNum 1 l r).1 ≤ 1000 := rNum1_le hb hp
 generalize rNum 1 l r = q at *
 obtain ⟨n, at1, bad1⟩ := q
 dsimp only at hN hm hu hle
 have HC := mk_ (And.intro hC0 (And.intro hlc (And.intro hb hl)))
 have HN := mk_ hN
 have HLE := mk_ hle
 clear hC0 hlc hb hl hp hS hN hle
 cases bad1 with
 | true =>
  have HQ := mk_ (show cNums l r = cTimes (rNum 4) l n.toNat [] (at1, true) from by rw [hu]; simp)
  clear hu
  have pr : rAt l (at1, true) := hm
  clear hm
  go_enter Try.func61, Try.ntmps61
  go_wp2_with (go_at_call 59; refine HN.out.mono ?_; rintro e V ⟨rfl, h1⟩; have k2 := blk_cell h1.blk 2; have f2 := blk_frozen h1.blk 2; have HS1 := mk_ (h1.store 2 (.bool true)); clear h1)
  go_loopg [5, 4] (n.toNat + 1) (fun kq v5 v4 W' => ∃ (i : Nat) (v : Value) (acc : List Int) (ri : Rr), v5 = .int .i64 (i : Int) ∧ v4 = v ∧ Aside0 (Sp W' (Row (Kd.int .i64) 3 v acc :: CuP g A l.length c ri :: Old w0 :: F)) ∧ Aside0 (kq + i = n.toNat + 1 ∧ i ≤ n.toNat ∧ acc.length ≤ i) ∧ Aside0 (rAt l ri) ∧ Aside0 (cNums l r = cTimes (rNum 4) l (n.toNat - i) acc ri))
  case atStart => exact ⟨0, _, [], (at1, true), rfl, rfl, ⟨sp_nil HS1.out⟩, ⟨by simp⟩, ⟨pr⟩, ⟨HQ.out⟩⟩
  case round =>
   clear HS1 HQ pr
   obtain ⟨i, _, acc, ri, rfl, rfl, HA, HK, HP, HQ⟩ := hrel
   obtain ⟨k1, rfl⟩ : ∃ k1, gk = k1 + 1 := ⟨gk - 1, by have := HK.out; omega⟩
   obtain ⟨ati, badi⟩ := ri
   have k2 := blk_cell HA.out.s1.blk 2
   by_cases hi : (i : Int) < n
   rotate_left
   ·
    have hb2 : decide ((i : Int) < n) = false := decide_eq_false hi
    have hie : n.toNat - i = 0 := by have := HK.out; omega
    have HE := mk_ (show cNums l r = (acc, (ati, badi)) from by rw [HQ.out, hie]; rfl)
    clear hi hie HQ
    go_wp2
    go_ret
    rw [HE.out]
    exact ⟨_, rfl, HA.out⟩
   have hb2 : decide ((i : Int) < n) = true := decide_eq_true hi
   cases badi with
   | true =>
    have HE := mk_ (show cNums l r = (acc, (ati, true)) from by rw [HQ.out]; exact cTimes_bad _ _ _ _ rfl)
    clear hi HQ
    go_wp2
    go_ret
    rw [HE.out]
    exact ⟨_, rfl, HA.out⟩
   | false =>
    have HI := mk_ hi
    obtain ⟨m, hm⟩ : ∃ m, n.toNat - i = m + 1 := ⟨n.toNat - i - 1, by omega⟩
    have HM := mk_ hm
    have hQ := HQ.out
    rw [hm, cTimes, if_neg (by show ¬ (false = true); decide)] at hQ
    have pj := rAt_num HC.out.2.2.1 4 z5 z5 HP.out
    have hC4 := fun V hv => cnum_calls (g := g) (w := V) (F := Row (Kd.int .i64) 3 u4 acc :: F) HC.out.1 HC.out.2.1 HC.out.2.2.1 HC.out.2.2.2 (ati, false) 4 z5 z5 HP.out hv
    have pj : rAt l (rNum 4 l (ati, false)).2 := pj
    clear hi hm HQ
    generalize rNum 4 l (ati, false) = q at hQ pj hC4
    obtain ⟨p, rj⟩ := q
    dsimp only at hQ pj hC4
    have HC4 := mk_ hC4
    have HQ := mk_ hQ
    have HPJ := mk_ pj
    clear hQ pj hC4
    go_wp2_with (first
   | (go_at_call 59; (with_reducible show Calls _ _ #[_, .int .i64 4] _ _); refine (HC4.out _ (HA.out.s1).s2.s1).mono ?_; rintro e V2 ⟨rfl, h1⟩; have HS3 := mk_ (Sp.s1 (sp_el (d := Kd.int .i64) (p := p) (cs := [.int .i64 p]) (fun _ _ => rfl) h1.s2)); clear h1)
   | ((with_reducible refine gate_builtin (b := .append) (xs := #[.tmp 31, .tmp 34]) rfl ?_); at_builtin; refine Sp.append (Kd.int .i64) rfl (.tmp 31) (.tmp 34) 26 3 (.int .i64 0) 8 rfl Try.underlying26 z0 rfl z5 z4 u4 acc p [.int .i64 p] rfl rfl HS3.out (by have := HK.out; have := HLE.out; omega) ?_; intro v1 w1 h1; have HS4 := mk_ h1; clear h1))
    go_roundg k1
    case measure => exact Nat.lt_succ_self _
    case rel => exact ⟨i + 1, v1, acc ++ [p], rj, by rw [w64 z4 (by have := HI.out; have := HLE.out; omega)]; rfl, rfl, ⟨HS4.out⟩, ⟨by have := HK.out; have := HI.out; rw [List.length_append]; simp; omega⟩, ⟨HPJ.out⟩, ⟨by rw [HQ.out, show n.toNat - (i + 1) = m by have := HM.out; omega]⟩⟩
 | false =>
  by_cases hc : n > 5
  ·
   have hd : decide ((5 : Int) < n) = true := decide_eq_true hc
   have HQ := mk_ (show cNums l r = cTimes (rNum 4) l n.toNat [] (at1, true) from by rw [hu]; simp [hc])
   clear hu
   have pr : rAt l (at1, true) := hm
   clear hm
   go_enter Try.func61, Try.ntmps61
   go_wp2_with (go_at_call 59; refine HN.out.mono ?_; rintro e V ⟨rfl, h1⟩; have k2 := blk_cell h1.blk 2; have f2 := blk_frozen h1.blk 2; have HS1 := mk_ (h1.store 2 (.bool true)); clear h1)
   go_loopg [5, 4] (n.toNat + 1) (fun kq v5 v4 W' => ∃ (i : Nat) (v : Value) (acc : List Int) (ri : Rr), v5 = .int .i64 (i : Int) ∧ v4 = v ∧ Aside0 (Sp W' (Row (Kd.int .i64) 3 v acc :: CuP g A l.length c ri :: Old w0 :: F)) ∧ Aside0 (kq + i = n.toNat + 1 ∧ i ≤ n.toNat ∧ acc.length ≤ i) ∧ Aside0 (rAt l ri) ∧ Aside0 (cNums l r = cTimes (rNum 4) l (n.toNat - i) acc ri))
   case atStart => exact ⟨0, _, [], (at1, true), rfl, rfl, ⟨sp_nil HS1.out⟩, ⟨by simp⟩, ⟨pr⟩, ⟨HQ.out⟩⟩
   case round =>
    clear HS1 HQ pr
    obtain ⟨i, _, acc, ri, rfl, rfl, HA, HK, HP, HQ⟩ := hrel
    obtain ⟨k1, rfl⟩ : ∃ k1, gk = k1 + 1 := ⟨gk - 1, by have := HK.out; omega⟩
    obtain ⟨ati, badi⟩ := ri
    have k2 := blk_cell HA.out.s1.blk 2
    by_cases hi : (i : Int) < n
    rotate_left
    ·
     have hb2 : decide ((i : Int) < n) = false := decide_eq_false hi
     have hie : n.toNat - i = 0 := by have := HK.out; omega
     have HE := mk_ (show cNums l r = (acc, (ati, badi)) from by rw [HQ.out, hie]; rfl)
     clear hi hie HQ
     go_wp2
     go_ret
     rw [HE.out]
     exact ⟨_, rfl, HA.out⟩
    have hb2 : decide ((i : Int) < n) = true := decide_eq_true hi
    cases badi with
    | true =>
     have HE := mk_ (show cNums l r = (acc, (ati, true)) from by rw [HQ.out]; exact cTimes_bad _ _ _ _ rfl)
     clear hi HQ
     go_wp2
     go_ret
     rw [HE.out]
     exact ⟨_, rfl, HA.out⟩
    | false =>
     have HI := mk_ hi
     obtain ⟨m, hm⟩ : ∃ m, n.toNat - i = m + 1 := ⟨n.toNat - i - 1, by omega⟩
     have HM := mk_ hm
     have hQ := HQ.out
     rw [hm, cTimes, if_neg (by show ¬ (false = true); decide)] at hQ
     have pj := rAt_num HC.out.2.2.1 4 z5 z5 HP.out
     have hC4 := fun V hv => cnum_calls (g := g) (w := V) (F := Row (Kd.int .i64) 3 u4 acc :: F) HC.out.1 HC.out.2.1 HC.out.2.2.1 HC.out.2.2.2 (ati, false) 4 z5 z5 HP.out hv
     have pj : rAt l (rNum 4 l (ati, false)).2 := pj
     clear hi hm HQ
     generalize rNum 4 l (ati, false) = q at hQ pj hC4
     obtain ⟨p, rj⟩ := q
     dsimp only at hQ pj hC4
     have HC4 := mk_ hC4
     have HQ := mk_ hQ
     have HPJ := mk_ pj
     clear hQ pj hC4
     go_wp2_with (first
   | (go_at_call 59; (with_reducible show Calls _ _ #[_, .int .i64 4] _ _); refine (HC4.out _ (HA.out.s1).s2.s1).mono ?_; rintro e V2 ⟨rfl, h1⟩; have HS3 := mk_ (Sp.s1 (sp_el (d := Kd.int .i64) (p := p) (cs := [.int .i64 p]) (fun _ _ => rfl) h1.s2)); clear h1)
   | ((with_reducible refine gate_builtin (b := .append) (xs := #[.tmp 31, .tmp 34]) rfl ?_); at_builtin; refine Sp.append (Kd.int .i64) rfl (.tmp 31) (.tmp 34) 26 3 (.int .i64 0) 8 rfl Try.underlying26 z0 rfl z5 z4 u4 acc p [.int .i64 p] rfl rfl HS3.out (by have := HK.out; have := HLE.out; omega) ?_; intro v1 w1 h1; have HS4 := mk_ h1; clear h1))
     go_roundg k1
     case measure => exact Nat.lt_succ_self _
     case rel => exact ⟨i + 1, v1, acc ++ [p], rj, by rw [w64 z4 (by have := HI.out; have := HLE.out; omega)]; rfl, rfl, ⟨HS4.out⟩, ⟨by have := HK.out; have := HI.out; rw [List.length_append]; simp; omega⟩, ⟨HPJ.out⟩, ⟨by rw [HQ.out, show n.toNat - (i + 1) = m by have := HM.out; omega]⟩⟩
  have hd : decide ((5 : Int) < n) = false := decide_eq_false hc
  have HQ := mk_ (show cNums l r = cTimes (rNum 4) l n.toNat [] (at1, false) from by rw [hu]; simp [hc])
  clear hu
  have pr : rAt l (at1, false) := hm
  clear hm
  go_enter Try.func61, Try.ntmps61
  go_wp2_with (go_at_call 59; refine HN.out.mono ?_; rintro e V ⟨rfl, h1⟩; have k2 := blk_cell h1.blk 2; have f2 := blk_frozen h1.blk 2; have HS1 := mk_ (h1.store 2 (.bool false)); clear h1)
  go_loopg [5, 4] (n.toNat + 1) (fun kq v5 v4 W' => ∃ (i : Nat) (v : Value) (acc : List Int) (ri : Rr), v5 = .int .i64 (i : Int) ∧ v4 = v ∧ Aside0 (Sp W' (Row (Kd.int .i64) 3 v acc :: CuP g A l.length c ri :: Old w0 :: F)) ∧ Aside0 (kq + i = n.toNat + 1 ∧ i ≤ n.toNat ∧ acc.length ≤ i) ∧ Aside0 (rAt l ri) ∧ Aside0 (cNums l r = cTimes (rNum 4) l (n.toNat - i) acc ri))
  case atStart => exact ⟨0, _, [], (at1, false), rfl, rfl, ⟨sp_nil HS1.out⟩, ⟨by simp⟩, ⟨pr⟩, ⟨HQ.out⟩⟩
  case round =>
   clear HS1 HQ pr
   obtain ⟨i, _, acc, ri, rfl, rfl, HA, HK, HP, HQ⟩ := hrel
   obtain ⟨k1, rfl⟩ : ∃ k1, gk = k1 + 1 := ⟨gk - 1, by have := HK.out; omega⟩
   obtain ⟨ati, badi⟩ := ri
   have k2 := blk_cell HA.out.s1.blk 2
   by_cases hi : (i : Int) < n
   rotate_left
   ·
    have hb2 : decide ((i : Int) < n) = false := decide_eq_false hi
    have hie : n.toNat - i = 0 := by have := HK.out; omega
    have HE := mk_ (show cNums l r = (acc, (ati, badi)) from by rw [HQ.out, hie]; rfl)
    clear hi hie HQ
    go_wp2
    go_ret
    rw [HE.out]
    exact ⟨_, rfl, HA.out⟩
   have hb2 : decide ((i : Int) < n) = true := decide_eq_true hi
   cases badi with
   | true =>
    have HE := mk_ (show cNums l r = (acc, (ati, true)) from by rw [HQ.out]; exact cTimes_bad _ _ _ _ rfl)
    clear hi HQ
    go_wp2
    go_ret
    rw [HE.out]
    exact ⟨_, rfl, HA.out⟩
   | false =>
    have HI := mk_ hi
    obtain ⟨m, hm⟩ : ∃ m, n.toNat - i = m + 1 := ⟨n.toNat - i - 1, by omega⟩
    have HM := mk_ hm
    have hQ := HQ.out
    rw [hm, cTimes, if_neg (by show ¬ (false = true); decide)] at hQ
    have pj := rAt_num HC.out.2.2.1 4 z5 z5 HP.out
    have hC4 := fun V hv => cnum_calls (g := g) (w := V) (F := Row (Kd.int .i64) 3 u4 acc :: F) HC.out.1 HC.out.2.1 HC.out.2.2.1 HC.out.2.2.2 (ati, false) 4 z5 z5 HP.out hv
    have pj : rAt l (rNum 4 l (ati, false)).2 := pj
    clear hi hm HQ
    generalize rNum 4 l (ati, false) = q at hQ pj hC4
    obtain ⟨p, rj⟩ := q
    dsimp only at hQ pj hC4
    have HC4 := mk_ hC4
    have HQ := mk_ hQ
    have HPJ := mk_ pj
    clear hQ pj hC4
    go_wp2_with (first
  | (go_at_call 59; (with_reducible show Calls _ _ #[_, .int .i64 4] _ _); refine (HC4.out _ (HA.out.s1).s2.s1).mono ?_; rintro e V2 ⟨rfl, h1⟩; have HS3 := mk_ (Sp.s1 (sp_el (d := Kd.int .i64) (p := p) (cs := [.int .i64 p]) (fun _ _ => rfl) h1.s2)); clear h1)
  | ((with_reducible refine gate_builtin (b := .append) (xs := #[.tmp 31, .tmp 34]) rfl ?_); at_builtin; refine Sp.append (Kd.int .i64) rfl (.tmp 31) (.tmp 34) 26 3 (.int .i64 0) 8 rfl Try.underlying26 z0 rfl z5 z4 u4 acc p [.int .i64 p] rfl rfl HS3.out (by have := HK.out; have := HLE.out; omega) ?_; intro v1 w1 h1; have HS4 := mk_ h1; clear h1))
    go_roundg k1
    case measure => exact Nat.lt_succ_self _
    case rel => exact ⟨i + 1, v1, acc ++ [p], rj, by rw [w64 z4 (by have := HI.out; have := HLE.out; omega)]; rfl, rfl, ⟨HS4.out⟩, ⟨by have := HK.out; have := HI.out; rw [List.length_append]; simp; omega⟩, ⟨HPJ.out⟩, ⟨by rw [HQ.out, show n.toNat - (i + 1) = m by have := HM.out; omega]⟩⟩
end
end Go.Proofs.Ytjnjfogfpmeacaa.Ops
end
section
namespace Go.Proofs.Ytjnjfogfpmeacaa.Ops
open Go.RowKit PAll Ops Plain PrintWords PrintLast PrintMore Go.Proofs.Ytjnjfogfpmeacaa.Sep ZipT PrintWords.Kd PrintMore.Kd
set_option linter.unusedVariables false
set_option linter.unusedSimpArgs false
section
variable {w w0 : World} {g : Nat} {A : Option Addr} {c : Nat} {l : List Int} {F : List Part}
theorem cop_calls (hC0 : Kd.C (Kd.int .u8) w0 A l.length l) (hlc : l.length ≤ c) (hb : Bytes l) (hl : l.length ≤ 1000000) (r : Rr) (hp : rAt l r) (hS : Sp w (CuP g A l.length c r :: Old w0 :: F)) :
  Calls Try.prog 28 #[.pointer (some ⟨g, 0, none⟩)] w fun e w' => ∃ v1 v7 v8, e = .returned (.agg #[.int .i64 (cOp l r).1.f0.f0, .int .i64 (cOp l r).1.f0.f1, v1, .int .i64 (cOp l r).1.f2.f0, .int .i64 (cOp l r).1.f2.f1, .int .i64 (cOp l r).1.f2.f2, .int .i64 (cOp l r).1.f3, .int .i64 (cOp l r).1.f4, .string (cOp l r).1.f5, .int .i64 (cOp l r).1.f6, v7, v8]) ∧
   Sp w' (Row (Kd.int .i64) 3 v1 (cOp l r).1.f1 :: Row k84 84 v7 (cOp l r).1.f7 :: Row k25 25 v8 (cOp l r).1.f8 :: CuP g A l.length c (cOp l r).2 :: Old w0 :: F) := by
 obtain ⟨q1, hq1⟩ : ∃ q, q = rNum 1 l r := ⟨_, rfl⟩
 have C1 : ∀ V F', Sp V (CuP g A l.length c r :: Old w0 :: F') → Calls Try.prog 59 #[.pointer (some ⟨g, 0, none⟩), .int .i64 1] V (fun e w' => e = .returned (.int .i64 q1.1) ∧ Sp w' (CuP g A l.length c q1.2 :: Old w0 :: F')) := fun V F' h => by rw [hq1]; exact cnum_calls hC0 hlc hb hl r 1 z5 z5 hp h
 have p1 : rAt l q1.2 := by rw [hq1]; exact rAt_num hb 1 z5 z5 hp
 obtain ⟨q2, hq2⟩ : ∃ q, q = rDot l q1.2 := ⟨_, rfl⟩
 have C2 : ∀ V F', Sp V (CuP g A l.length c q1.2 :: Old w0 :: F') → Calls Try.prog 60 #[.pointer (some ⟨g, 0, none⟩)] V (fun e w' => e = .returned (.agg #[.int .i64 q2.1.f0, .int .i64 q2.1.f1]) ∧ Sp w' (CuP g A l.length c q2.2 :: Old w0 :: F')) := fun V F' h => by rw [hq2]; exact cdot_calls hC0 hlc hb hl q1.2 p1 (rAt_num hb 1 z5 z5 p1) h
 have p2 : rAt l q2.2 := by rw [hq2]; exact Reads.dot.place l q1.2 hb p1.1 p1.2
 obtain ⟨q3, hq3⟩ : ∃ q, q = cNums l q2.2 := ⟨_, rfl⟩
 have C3 : ∀ V F', Sp V (CuP g A l.length c q2.2 :: Old w0 :: F') → Calls Try.prog 61 #[.pointer (some ⟨g, 0, none⟩)] V (fun e w' => ∃ v, e = .returned v ∧ Sp w' (Row (Kd.int .i64) 3 v q3.1 :: CuP g A l.length c q3.2 :: Old w0 :: F')) := fun V F' h => by rw [hq3]; exact cvec_calls hC0 hlc hb hl q2.2 p2 h
 have p3 : rAt l q3.2 := by rw [hq3]; exact (by have := (cNums_eq l q2.2).1; unfold rAt; rw [this]; exact Reads.nums.place l q2.2 hb p2.1 p2.2)
 obtain ⟨q4, hq4⟩ : ∃ q, q = rStamp l q3.2 := ⟨_, rfl⟩
 have C4 : ∀ V F', Sp V (CuP g A l.length c q3.2 :: Old w0 :: F') → Calls Try.prog 62 #[.pointer (some ⟨g, 0, none⟩)] V (fun e w' => e = .returned (.agg #[.int .i64 q4.1.f0, .int .i64 q4.1.f1, .int .i64 q4.1.f2]) ∧ Sp w' (CuP g A l.length c q4.2 :: Old w0 :: F')) := fun V F' h => by rw [hq4]; exact cstamp_calls hC0 hlc hb hl q3.2 p3 (rAt_num hb 6 z5 z5 p3) (rAt_num hb 3 z5 z5 (rAt_num hb 6 z5 z5 p3)) h
 have p4 : rAt l q4.2 := by rw [hq4]; exact Reads.stamp.place l q3.2 hb p3.1 p3.2
 obtain ⟨q5, hq5⟩ : ∃ q, q = rNum 1 l q4.2 := ⟨_, rfl⟩
 have C5 : ∀ V F', Sp V (CuP g A l.length c q4.2 :: Old w0 :: F') → Calls Try.prog 59 #[.pointer (some ⟨g, 0, none⟩), .int .i64 1] V (fun e w' => e = .returned (.int .i64 q5.1) ∧ Sp w' (CuP g A l.length c q5.2 :: Old w0 :: F')) := fun V F' h => by rw [hq5]; exact cnum_calls hC0 hlc hb hl q4.2 1 z5 z5 p4 h
 have p5 : rAt l q5.2 := by rw [hq5]; exact rAt_num hb 1 z5 z5 p4
 obtain ⟨q6, hq6⟩ : ∃ q, q = rText l q5.2 := ⟨_, rfl⟩
 have C6 : ∀ V F', Sp V (CuP g A l.length c q5.2 :: Old w0 :: F') → Calls Try.prog 63 #[.pointer (some ⟨g, 0, none⟩)] V (fun e w' => e = .returned (.string q6.1) ∧ Sp w' (CuP g A l.length c q6.2 :: Old w0 :: F')) := fun V F' h => by rw [hq6]; exact ctext_calls hC0 hlc hb hl q5.2 p5 h
 have p6 : rAt l q6.2 := by rw [hq6]; exact Reads.text.place l q5.2 hb p5.1 p5.2
 obtain ⟨q7, hq7⟩ : ∃ q, q = rNum 1 l q6.2 := ⟨_, rfl⟩
 have C7 : ∀ V F', Sp V (CuP g A l.length c q6.2 :: Old w0 :: F') → Calls Try.prog 59 #[.pointer (some ⟨g, 0, none⟩), .int .i64 1] V (fun e w' => e = .returned (.int .i64 q7.1) ∧ Sp w' (CuP g A l.length c q7.2 :: Old w0 :: F')) := fun V F' h => by rw [hq7]; exact cnum_calls hC0 hlc hb hl q6.2 1 z5 z5 p6 h
 have p7 : rAt l q7.2 := by rw [hq7]; exact rAt_num hb 1 z5 z5 p6
 obtain ⟨q8, hq8⟩ : ∃ q, q = rRow l q7.2 := ⟨_, rfl⟩
 have C8 : ∀ V F', Sp V (CuP g A l.length c q7.2 :: Old w0 :: F') → Calls Try.prog 64 #[.pointer (some ⟨g, 0, none⟩)] V (fun e w' => ∃ v, e = .returned v ∧ Sp w' (Row k84 84 v q8.1 :: CuP g A l.length c q8.2 :: Old w0 :: F')) := fun V F' h => by rw [hq8]; exact crow_calls hC0 hlc hb hl q7.2 p7 h
 have p8 : rAt l q8.2 := by rw [hq8]; exact Reads.row.place l q7.2 hb p7.1 p7.2
 obtain ⟨q9, hq9⟩ : ∃ q, q = rNum 1 l q8.2 := ⟨_, rfl⟩
 have C9 : ∀ V F', Sp V (CuP g A l.length c q8.2 :: Old w0 :: F') → Calls Try.prog 59 #[.pointer (some ⟨g, 0, none⟩), .int .i64 1] V (fun e w' => e = .returned (.int .i64 q9.1) ∧ Sp w' (CuP g A l.length c q9.2 :: Old w0 :: F')) := fun V F' h => by rw [hq9]; exact cnum_calls hC0 hlc hb hl q8.2 1 z5 z5 p8 h
 have p9 : rAt l q9.2 := by rw [hq9]; exact rAt_num hb 1 z5 z5 p8
 have hu : cOp l r = (⟨q2.1, q3.1, q4.1, q1.1, q5.1, q6.1, q7.1, q8.1, (cDots l q8.2).1⟩, (cDots l q8.2).2) := by
  subst hq8 hq7 hq6 hq5 hq4 hq3 hq2 hq1; rfl
 have hd : cDots l q8.2 = cTimes rDot l q9.1.toNat [] (q9.2.1, q9.2.2 || decide (q9.1 > 64)) := by rw [hq9]; rfl
 have hle : q9.1 ≤ 1000 := by rw [hq9]; exact rNum1_le hb p8
 have CD : ∀ V F' r, rAt l r → Sp V (CuP g A l.length c r :: Old w0 :: F') → Calls Try.prog 60 #[.pointer (some ⟨g, 0, none⟩)] V (fun e w' => e = .returned (.agg #[.int .i64 (rDot l r).1.f0, .int .i64 (rDot l r).1.f1]) ∧ Sp w' (CuP g A l.length c (rDot l r).2 :: Old w0 :: F')) := fun V F' r p h => cdot_calls hC0 hlc hb hl r p (rAt_num hb 1 z5 z5 p) h
 have PD : ∀ r, rAt l r → rAt l (rDot l r).2 := fun r p => Reads.dot.place l r hb p.1 p.2
 clear hq9 hq8 hq7 hq6 hq5 hq4 hq3 hq2 hq1 p1 p2 p3 p4 p5 p6 p7 p8 hb hC0 hp hlc
 obtain ⟨n1, r1⟩ := q1
 obtain ⟨d_, r2⟩ := q2
 obtain ⟨l3, r3⟩ := q3
 obtain ⟨t_, r4⟩ := q4
 obtain ⟨n5, r5⟩ := q5
 obtain ⟨s6, r6⟩ := q6
 obtain ⟨n7, r7⟩ := q7
 obtain ⟨vals, r8⟩ := q8
 obtain ⟨m, at9, bad9⟩ := q9
 dsimp only at C1 C2 C3 C4 C5 C6 C7 C8 C9 hd hu hle p9
 have HC1 := mk_ C1
 have HC2 := mk_ C2
 have HC3 := mk_ C3
 have HC4 := mk_ C4
 have HC5 := mk_ C5
 have HC6 := mk_ C6
 have HC7 := mk_ C7
 have HC8 := mk_ C8
 have HC9 := mk_ C9
 have HCD := mk_ CD
 have HPD := mk_ PD
 have HLE := mk_ hle
 have HU := mk_ hu
 have HS0 := mk_ (Sp.s1 (Sp.s2 (Sp.s1 (hS.box (.cells #[.int .i64 0, .int .i64 0, .slice none 0 0, .int .i64 0, .int .i64 0, .int .i64 0, .int .i64 0, .int .i64 0, .string ⟨#[]⟩, .int .i64 0, .slice none 0 0, .slice none 0 0] 32 (0, 0))))))
 clear C1 C2 C3 C4 C5 C6 C7 C8 C9 CD PD hle hu hl hS
 cases bad9 with
 | true =>
  have HQ := mk_ (show cDots l r8 = cTimes rDot l m.toNat [] (at9, true) from by rw [hd]; simp)
  clear hd
  have pr : rAt l (at9, true) := p9
  clear p9
  go_enter Try.func28, Try.ntmps28
  go_wp2_with (first
  | (go_at_call 59; (with_reducible show Calls _ _ _ (World.alloc w _) _); refine (HC1.out _ _ HS0.out).mono ?_; rintro e V1 ⟨rfl, h1⟩; have HS1 := mk_ h1; clear h1)
  | (go_at_call 60; (with_reducible show Calls _ _ _ V1 _); refine (HC2.out _ _ HS1.out).mono ?_; rintro e V2 ⟨rfl, h1⟩; have HS2 := mk_ h1; clear h1)
  | (go_at_call 61; (with_reducible show Calls _ _ _ V2 _); refine (HC3.out _ _ HS2.out).mono ?_; rintro e V3 ⟨v3, rfl, h1⟩; obtain ⟨A3, c3, rfl, _, _⟩ := h1.row; have HS3 := mk_ h1.s1.s2.s1; clear h1)
  | (go_at_call 62; (with_reducible show Calls _ _ _ V3 _); refine (HC4.out _ _ HS3.out).mono ?_; rintro e V4 ⟨rfl, h1⟩; have HS4 := mk_ h1; clear h1)
  | (go_at_call 59; (with_reducible show Calls _ _ _ V4 _); refine (HC5.out _ _ HS4.out).mono ?_; rintro e V5 ⟨rfl, h1⟩; have HS5 := mk_ h1; clear h1)
  | (go_at_call 63; (with_reducible show Calls _ _ _ V5 _); refine (HC6.out _ _ HS5.out).mono ?_; rintro e V6 ⟨rfl, h1⟩; have HS6 := mk_ h1; clear h1)
  | (go_at_call 59; (with_reducible show Calls _ _ _ V6 _); refine (HC7.out _ _ HS6.out).mono ?_; rintro e V7 ⟨rfl, h1⟩; have HS7 := mk_ h1; clear h1)
  | (go_at_call 64; (with_reducible show Calls _ _ _ V7 _); refine (HC8.out _ _ HS7.out).mono ?_; rintro e V8 ⟨v7, rfl, h1⟩; obtain ⟨A7, c7, rfl, _, _⟩ := h1.row; have HS8 := mk_ h1.s1.s2.s1; clear h1)
  | ((with_reducible refine gate_st (ty := 32) (x := .tmp 3) (y := .tmp 22) rfl ?_); refine wpList_store_row rfl 32 (.tmp 3) (.tmp 22) rfl V8.heap.size #[.int .i64 d_.f0, .int .i64 d_.f1, .slice A3 l3.length c3, .int .i64 t_.f0, .int .i64 t_.f1, .int .i64 t_.f2, .int .i64 n1, .int .i64 n5, .string s6, .int .i64 n7, .slice A7 vals.length c7, .slice none 0 0] rfl rfl 32 #[.int .i64 0, .int .i64 0, .slice none 0 0, .int .i64 0, .int .i64 0, .int .i64 0, .int .i64 0, .int .i64 0, .string ⟨#[]⟩, .int .i64 0, .slice none 0 0, .slice none 0 0] (HS8.out.box (.cells #[.int .i64 0, .int .i64 0, .slice none 0 0, .int .i64 0, .int .i64 0, .int .i64 0, .int .i64 0, .int .i64 0, .string ⟨#[]⟩, .int .i64 0, .slice none 0 0, .slice none 0 0] 32 (0, 0))).blk z0 rfl z6 ?_; have HSx := mk_ (Sp.s1 (Sp.s2 (Sp.s1 (sp_storeRow (HS8.out.box (.cells #[.int .i64 0, .int .i64 0, .slice none 0 0, .int .i64 0, .int .i64 0, .int .i64 0, .int .i64 0, .int .i64 0, .string ⟨#[]⟩, .int .i64 0, .slice none 0 0, .slice none 0 0] 32 (0, 0))) #[.int .i64 d_.f0, .int .i64 d_.f1, .slice A3 l3.length c3, .int .i64 t_.f0, .int .i64 t_.f1, .int .i64 t_.f2, .int .i64 n1, .int .i64 n5, .string s6, .int .i64 n7, .slice A7 vals.length c7, .slice none 0 0])))))
  | (go_at_call 59; (with_reducible show Calls _ _ _ (World.setRow _ _ _) _); refine (HC9.out _ _ HSx.out).mono ?_; rintro e V9 ⟨rfl, h1⟩; have k2 := blk_cell h1.blk 2; have f2 := blk_frozen h1.blk 2; have HS9 := mk_ (h1.store 2 (.bool true)); clear h1))
  go_loopg [5] (m.toNat + 1) (fun kq v5 W' => ∃ (i : Nat) (v8 : Value) (acc : List Dt) (ri : Rr), v5 = .int .i64 (i : Int) ∧ Aside0 (Sp W' (Row k25 25 v8 acc :: CuP g A l.length c ri :: Old w0 :: Blk V8.heap.size (.cells #[.int .i64 d_.f0, .int .i64 d_.f1, .slice A3 l3.length c3, .int .i64 t_.f0, .int .i64 t_.f1, .int .i64 t_.f2, .int .i64 n1, .int .i64 n5, .string s6, .int .i64 n7, .slice A7 vals.length c7, v8] 32 (0, 0)) :: Row k84 84 (.slice A7 vals.length c7) vals :: Row (Kd.int .i64) 3 (.slice A3 l3.length c3) l3 :: Blk w.heap.size (.cells #[.int .i64 0, .int .i64 0, .slice none 0 0, .int .i64 0, .int .i64 0, .int .i64 0, .int .i64 0, .int .i64 0, .string ⟨#[]⟩, .int .i64 0, .slice none 0 0, .slice none 0 0] 32 (0, 0)) :: F)) ∧ Aside0 (kq + i = m.toNat + 1 ∧ i ≤ m.toNat ∧ acc.length ≤ i) ∧ Aside0 (rAt l ri) ∧ Aside0 (cDots l r8 = cTimes rDot l (m.toNat - i) acc ri))
  case atStart => exact ⟨0, .slice none 0 0, [], (at9, true), rfl, ⟨sp_nil HS9.out⟩, ⟨by simp⟩, ⟨pr⟩, ⟨HQ.out⟩⟩
  case round =>
   clear HS9 HQ pr
   obtain ⟨i, v8, acc, ri, rfl, HA, HK, HP, HQ⟩ := hrel
   obtain ⟨k1, rfl⟩ : ∃ k1, gk = k1 + 1 := ⟨gk - 1, by have := HK.out; omega⟩
   obtain ⟨A8, c8, rfl, _, _⟩ := HA.out.row
   obtain ⟨ati, badi⟩ := ri
   have k2 := blk_cell HA.out.s1.blk 2
   by_cases hi : (i : Int) < m
   rotate_left
   ·
    have hb2 : decide ((i : Int) < m) = false := decide_eq_false hi
    have hie : m.toNat - i = 0 := by have := HK.out; omega
    have HE := mk_ (show cDots l r8 = (acc, (ati, badi)) from by rw [HQ.out, hie]; rfl)
    clear hi hie HQ
    have kx := blk_cell HA.out.s3.blk
    go_wp2_with ((with_reducible refine gate_st (ty := 32) (x := .tmp 2) (y := .tmp 55) rfl ?_); refine wpList_store_row rfl 32 (.tmp 2) (.tmp 55) rfl w.heap.size #[.int .i64 d_.f0, .int .i64 d_.f1, .slice A3 l3.length c3, .int .i64 t_.f0, .int .i64 t_.f1, .int .i64 t_.f2, .int .i64 n1, .int .i64 n5, .string s6, .int .i64 n7, .slice A7 vals.length c7, .slice A8 acc.length c8] rfl rfl 32 #[.int .i64 0, .int .i64 0, .slice none 0 0, .int .i64 0, .int .i64 0, .int .i64 0, .int .i64 0, .int .i64 0, .string ⟨#[]⟩, .int .i64 0, .slice none 0 0, .slice none 0 0] (HA.out.s3.tail.s5.blk) z0 rfl z6 ?_)
    refine bodyPost_ret (results_cell_row rfl _ _ w.heap.size 32 #[.int .i64 d_.f0, .int .i64 d_.f1, .slice A3 l3.length c3, .int .i64 t_.f0, .int .i64 t_.f1, .int .i64 t_.f2, .int .i64 n1, .int .i64 n5, .string s6, .int .i64 n7, .slice A7 vals.length c7, .slice A8 acc.length c8] (0, 0) _ rfl (sp_storeRow HA.out.s3.tail.s5 _).blk Try.underlying32 rfl z0) rfl ?_
    rw [HU.out, HE.out]
    exact ⟨_, _, _, rfl, (sp_storeRow HA.out.s3.tail.s5 #[.int .i64 d_.f0, .int .i64 d_.f1, .slice A3 l3.length c3, .int .i64 t_.f0, .int .i64 t_.f1, .int .i64 t_.f2, .int .i64 n1, .int .i64 n5, .string s6, .int .i64 n7, .slice A7 vals.length c7, .slice A8 acc.length c8]).tail.s3.s4⟩
   have hb2 : decide ((i : Int) < m) = true := decide_eq_true hi
   cases badi with
   | true =>
    have HE := mk_ (show cDots l r8 = (acc, (ati, true)) from by rw [HQ.out]; exact cTimes_bad _ _ _ _ rfl)
    clear hi HQ
    have kx := blk_cell HA.out.s3.blk
    go_wp2_with ((with_reducible refine gate_st (ty := 32) (x := .tmp 2) (y := .tmp 55) rfl ?_); refine wpList_store_row rfl 32 (.tmp 2) (.tmp 55) rfl w.heap.size #[.int .i64 d_.f0, .int .i64 d_.f1, .slice A3 l3.length c3, .int .i64 t_.f0, .int .i64 t_.f1, .int .i64 t_.f2, .int .i64 n1, .int .i64 n5, .string s6, .int .i64 n7, .slice A7 vals.length c7, .slice A8 acc.length c8] rfl rfl 32 #[.int .i64 0, .int .i64 0, .slice none 0 0, .int .i64 0, .int .i64 0, .int .i64 0, .int .i64 0, .int .i64 0, .string ⟨#[]⟩, .int .i64 0, .slice none 0 0, .slice none 0 0] (HA.out.s3.tail.s5.blk) z0 rfl z6 ?_)
    refine bodyPost_ret (results_cell_row rfl _ _ w.heap.size 32 #[.int .i64 d_.f0, .int .i64 d_.f1, .slice A3 l3.length c3, .int .i64 t_.f0, .int .i64 t_.f1, .int .i64 t_.f2, .int .i64 n1, .int .i64 n5, .string s6, .int .i64 n7, .slice A7 vals.length c7, .slice A8 acc.length c8] (0, 0) _ rfl (sp_storeRow HA.out.s3.tail.s5 _).blk Try.underlying32 rfl z0) rfl ?_
    rw [HU.out, HE.out]
    exact ⟨_, _, _, rfl, (sp_storeRow HA.out.s3.tail.s5 #[.int .i64 d_.f0, .int .i64 d_.f1, .slice A3 l3.length c3, .int .i64 t_.f0, .int .i64 t_.f1, .int .i64 t_.f2, .int .i64 n1, .int .i64 n5, .string s6, .int .i64 n7, .slice A7 vals.length c7, .slice A8 acc.length c8]).tail.s3.s4⟩
   | false =>
    have HI := mk_ hi
    obtain ⟨q, hq⟩ : ∃ q, m.toNat - i = q + 1 := ⟨m.toNat - i - 1, by omega⟩
    have HM := mk_ hq
    have hQ := HQ.out
    rw [hq, cTimes, if_neg (by show ¬ (false = true); decide)] at hQ
    have pj := HPD.out _ HP.out
    have HQD := mk_ (fun V F' hv => HCD.out V F' (ati, false) HP.out hv)
    clear hi hq HQ HCD
    generalize rDot l (ati, false) = qd at *
    obtain ⟨p, rj⟩ := qd
    dsimp only at hQ pj HQD
    have HQ := mk_ hQ
    have HPJ := mk_ pj
    clear hQ pj
    have k11 := blk_cell HA.out.s3.blk 11
    have hSd := HA.out.drew
    go_wp2
    refine start_ (n := 8) (S := fun w' => w'.cell? ⟨V8.heap.size, 11, none⟩ = some (.slice A8 acc.length c8) ∧ True) (ds := [7]) (Steps.Bs 8 0) z0 rfl rfl ⟨k11, trivial⟩ (fun hHeld => ?_)
    generalize World.drew _ = W at hSd hHeld ⊢
    clear k11 HA
    refine sI 0 48 8 1 ?_
    refine sI 2 50 8 5 ?_
    refine sT hHeld 1 49 8 7 ?_
    refine one_ (i := 3) (N := some 51) (Steps.Bs 8 15) rfl rfl z0 z5 (fun K hK => ?_)
    refine goes_ Try.func60 z0 rfl #[.pointer (some ⟨g, 0, none⟩)] (by rfl) rfl rfl (by (try simp only [List.map_toArray, List.map_cons, List.map_nil]); first | done | rfl) ?_
    refine (HQD.out _ _ hSd.s1.s2.s1).mono ?_
    rintro e W2 ⟨rfl, h1⟩
    refine ⟨_, rfl, ?_⟩
    have hHeld1 : W2.cell? ⟨V8.heap.size, 11, none⟩ = some (.slice A8 acc.length c8) := blk_cell h1.s3.blk 11
    have HS3 := mk_ (Sp.s1 (sp_el (d := k25) (p := p) (cs := [.int .i64 p.f0, .int .i64 p.f1]) (fun W ok => k25_mkM W 0 ok p) h1.s2))
    clear hHeld hSd h1
    refine hK.out _ _ ⟨hHeld1, trivial⟩ (fun _ => ?_)
    clear hK K
    refine nrm 51 ?_
    refine one_ (i := 4) (N := some 52) (Steps.Bs 8 31) rfl rfl z0 z5 (fun K hK => ?_)
    refine value_ (w1 := ?_) (v := ?_) (by rfl) rfl ?_ ?_
    rotate_left 2
    ·
     go_simp
     constructor
     ·
      rfl
     ·
      rfl
    refine hK.out _ _ ⟨(Below.cell (below_alloc (Below.refl _ _) _) (World.block_lt_of_cell? W2 _ hHeld1)).trans hHeld1, trivial⟩ (fun _ => ?_)
    clear hK K
    refine nrm 52 ?_
    refine one_ (i := 5) (N := some 53) (Steps.Bs 8 63) rfl rfl z0 z5 (fun K hK => ?_)
    refine Sp.append_step k25 (W := W2) (by rfl) (.tmp 49) (.tmp 52) 30 25 (.agg #[.int .i64 0, .int .i64 0]) 16 rfl Try.underlying30 z0 rfl z5 z4 (.slice A8 acc.length c8) acc p [.int .i64 p.f0, .int .i64 p.f1] rfl rfl HS3.out (by have := HK.out; have := HLE.out; omega) ?_
    intro v9 w1 hS4
    have HS4 := mk_ hS4
    have hg1 := hS4.s3.blk
    obtain ⟨A9, c9, rfl, _, _⟩ := hS4.row
    clear hS4
    refine hK.out _ _ ⟨blk_cell hg1 11, trivial⟩ (fun _ => ?_)
    clear hK K
    refine nrm 53 ?_
    refine sI 6 54 8 127 ?_
    refine last_ (i := 7) (N := none) (Steps.Bs 8 255) rfl rfl z0 z5 (fun K hK => ?_)
    have hc0 := blk_cell hg1 11
    have hf0 := blk_frozen hg1 11
    refine skip_ (w1 := ?_) (by rfl) rfl ?_ ?_
    rotate_left
    ·
     go_simp
     rfl
    refine hK.out _ _ ?_
    clear hK K
    refine done_ z0 ?_
    have h5 := (HS4.out.s3.store 11 (.slice A9 (acc ++ [p]).length c9)).s3.s3.s3
    rw [show (acc ++ [p]).length = acc.length + 1 by simp] at h5
    have HS5 := mk_ h5
    clear h5 hc0 hf0 hg1 HS3 HS4 hHeld1
    go_wp2
    go_roundg k1
    case measure => exact Nat.lt_succ_self _
    case rel => exact ⟨i + 1, .slice A9 (acc.length + 1) c9, acc ++ [p], rj, by rw [w64 z4 (by have := HI.out; have := HLE.out; omega)]; rfl, ⟨HS5.out⟩, ⟨by have := HK.out; have := HI.out; rw [List.length_append]; simp; omega⟩, ⟨HPJ.out⟩, ⟨by rw [HQ.out, show m.toNat - (i + 1) = q by have := HM.out; omega]⟩⟩
 | false =>
  by_cases hc : m > 64
  ·
   have hd0 : decide ((64 : Int) < m) = true := decide_eq_true hc
   have HQ := mk_ (show cDots l r8 = cTimes rDot l m.toNat [] (at9, true) from by rw [hd]; simp [hc])
   clear hd
   have pr : rAt l (at9, true) := p9
   clear p9
   go_enter Try.func28, Try.ntmps28
   go_wp2_with (first
  | (go_at_call 59; (with_reducible show Calls _ _ _ (World.alloc w _) _); refine (HC1.out _ _ HS0.out).mono ?_; rintro e V1 ⟨rfl, h1⟩; have HS1 := mk_ h1; clear h1)
  | (go_at_call 60; (with_reducible show Calls _ _ _ V1 _); refine (HC2.out _ _ HS1.out).mono ?_; rintro e V2 ⟨rfl, h1⟩; have HS2 := mk_ h1; clear h1)
  | (go_at_call 61; (with_reducible show Calls _ _ _ V2 _); refine (HC3.out _ _ HS2.out).mono ?_; rintro e V3 ⟨v3, rfl, h1⟩; obtain ⟨A3, c3, rfl, _, _⟩ := h1.row; have HS3 := mk_ h1.s1.s2.s1; clear h1)
  | (go_at_call 62; (with_reducible show Calls _ _ _ V3 _); refine (HC4.out _ _ HS3.out).mono ?_; rintro e V4 ⟨rfl, h1⟩; have HS4 := mk_ h1; clear h1)
  | (go_at_call 59; (with_reducible show Calls _ _ _ V4 _); refine (HC5.out _ _ HS4.out).mono ?_; rintro e V5 ⟨rfl, h1⟩; have HS5 := mk_ h1; clear h1)
  | (go_at_call 63; (with_reducible show Calls _ _ _ V5 _); refine (HC6.out _ _ HS5.out).mono ?_; rintro e V6 ⟨rfl, h1⟩; have HS6 := mk_ h1; clear h1)
  | (go_at_call 59; (with_reducible show Calls _ _ _ V6 _); refine (HC7.out _ _ HS6.out).mono ?_; rintro e V7 ⟨rfl, h1⟩; have HS7 := mk_ h1; clear h1)
  | (go_at_call 64; (with_reducible show Calls _ _ _ V7 _); refine (HC8.out _ _ HS7.out).mono ?_; rintro e V8 ⟨v7, rfl, h1⟩; obtain ⟨A7, c7, rfl, _, _⟩ := h1.row; have HS8 := mk_ h1.s1.s2.s1; clear h1)
  | ((with_reducible refine gate_st (ty := 32) (x := .tmp 3) (y := .tmp 22) rfl ?_); refine wpList_store_row rfl 32 (.tmp 3) (.tmp 22) rfl V8.heap.size #[.int .i64 d_.f0, .int .i64 d_.f1, .slice A3 l3.length c3, .int .i64 t_.f0, .int .i64 t_.f1, .int .i64 t_.f2, .int .i64 n1, .int .i64 n5, .string s6, .int .i64 n7, .slice A7 vals.length c7, .slice none 0 0] rfl rfl 32 #[.int .i64 0, .int .i64 0, .slice none 0 0, .int .i64 0, .int .i64 0, .int .i64 0, .int .i64 0, .int .i64 0, .string ⟨#[]⟩, .int .i64 0, .slice none 0 0, .slice none 0 0] (HS8.out.box (.cells #[.int .i64 0, .int .i64 0, .slice none 0 0, .int .i64 0, .int .i64 0, .int .i64 0, .int .i64 0, .int .i64 0, .string ⟨#[]⟩, .int .i64 0, .slice none 0 0, .slice none 0 0] 32 (0, 0))).blk z0 rfl z6 ?_; have HSx := mk_ (Sp.s1 (Sp.s2 (Sp.s1 (sp_storeRow (HS8.out.box (.cells #[.int .i64 0, .int .i64 0, .slice none 0 0, .int .i64 0, .int .i64 0, .int .i64 0, .int .i64 0, .int .i64 0, .string ⟨#[]⟩, .int .i64 0, .slice none 0 0, .slice none 0 0] 32 (0, 0))) #[.int .i64 d_.f0, .int .i64 d_.f1, .slice A3 l3.length c3, .int .i64 t_.f0, .int .i64 t_.f1, .int .i64 t_.f2, .int .i64 n1, .int .i64 n5, .string s6, .int .i64 n7, .slice A7 vals.length c7, .slice none 0 0])))))
  | (go_at_call 59; (with_reducible show Calls _ _ _ (World.setRow _ _ _) _); refine (HC9.out _ _ HSx.out).mono ?_; rintro e V9 ⟨rfl, h1⟩; have k2 := blk_cell h1.blk 2; have f2 := blk_frozen h1.blk 2; have HS9 := mk_ (h1.store 2 (.bool true)); clear h1))
   go_loopg [5] (m.toNat + 1) (fun kq v5 W' => ∃ (i : Nat) (v8 : Value) (acc : List Dt) (ri : Rr), v5 = .int .i64 (i : Int) ∧ Aside0 (Sp W' (Row k25 25 v8 acc :: CuP g A l.length c ri :: Old w0 :: Blk V8.heap.size (.cells #[.int .i64 d_.f0, .int .i64 d_.f1, .slice A3 l3.length c3, .int .i64 t_.f0, .int .i64 t_.f1, .int .i64 t_.f2, .int .i64 n1, .int .i64 n5, .string s6, .int .i64 n7, .slice A7 vals.length c7, v8] 32 (0, 0)) :: Row k84 84 (.slice A7 vals.length c7) vals :: Row (Kd.int .i64) 3 (.slice A3 l3.length c3) l3 :: Blk w.heap.size (.cells #[.int .i64 0, .int .i64 0, .slice none 0 0, .int .i64 0, .int .i64 0, .int .i64 0, .int .i64 0, .int .i64 0, .string ⟨#[]⟩, .int .i64 0, .slice none 0 0, .slice none 0 0] 32 (0, 0)) :: F)) ∧ Aside0 (kq + i = m.toNat + 1 ∧ i ≤ m.toNat ∧ acc.length ≤ i) ∧ Aside0 (rAt l ri) ∧ Aside0 (cDots l r8 = cTimes rDot l (m.toNat - i) acc ri))
   case atStart => exact ⟨0, .slice none 0 0, [], (at9, true), rfl, ⟨sp_nil HS9.out⟩, ⟨by simp⟩, ⟨pr⟩, ⟨HQ.out⟩⟩
   case round =>
    clear HS9 HQ pr
    obtain ⟨i, v8, acc, ri, rfl, HA, HK, HP, HQ⟩ := hrel
    obtain ⟨k1, rfl⟩ : ∃ k1, gk = k1 + 1 := ⟨gk - 1, by have := HK.out; omega⟩
    obtain ⟨A8, c8, rfl, _, _⟩ := HA.out.row
    obtain ⟨ati, badi⟩ := ri
    have k2 := blk_cell HA.out.s1.blk 2
    by_cases hi : (i : Int) < m
    rotate_left
    ·
     have hb2 : decide ((i : Int) < m) = false := decide_eq_false hi
     have hie : m.toNat - i = 0 := by have := HK.out; omega
     have HE := mk_ (show cDots l r8 = (acc, (ati, badi)) from by rw [HQ.out, hie]; rfl)
     clear hi hie HQ
     have kx := blk_cell HA.out.s3.blk
     go_wp2_with ((with_reducible refine gate_st (ty := 32) (x := .tmp 2) (y := .tmp 55) rfl ?_); refine wpList_store_row rfl 32 (.tmp 2) (.tmp 55) rfl w.heap.size #[.int .i64 d_.f0, .int .i64 d_.f1, .slice A3 l3.length c3, .int .i64 t_.f0, .int .i64 t_.f1, .int .i64 t_.f2, .int .i64 n1, .int .i64 n5, .string s6, .int .i64 n7, .slice A7 vals.length c7, .slice A8 acc.length c8] rfl rfl 32 #[.int .i64 0, .int .i64 0, .slice none 0 0, .int .i64 0, .int .i64 0, .int .i64 0, .int .i64 0, .int .i64 0, .string ⟨#[]⟩, .int .i64 0, .slice none 0 0, .slice none 0 0] (HA.out.s3.tail.s5.blk) z0 rfl z6 ?_)
     refine bodyPost_ret (results_cell_row rfl _ _ w.heap.size 32 #[.int .i64 d_.f0, .int .i64 d_.f1, .slice A3 l3.length c3, .int .i64 t_.f0, .int .i64 t_.f1, .int .i64 t_.f2, .int .i64 n1, .int .i64 n5, .string s6, .int .i64 n7, .slice A7 vals.length c7, .slice A8 acc.length c8] (0, 0) _ rfl (sp_storeRow HA.out.s3.tail.s5 _).blk Try.underlying32 rfl z0) rfl ?_
     rw [HU.out, HE.out]
     exact ⟨_, _, _, rfl, (sp_storeRow HA.out.s3.tail.s5 #[.int .i64 d_.f0, .int .i64 d_.f1, .slice A3 l3.length c3, .int .i64 t_.f0, .int .i64 t_.f1, .int .i64 t_.f2, .int .i64 n1, .int .i64 n5, .string s6, .int .i64 n7, .slice A7 vals.length c7, .slice A8 acc.length c8]).tail.s3.s4⟩
    have hb2 : decide ((i : Int) < m) = true := decide_eq_true hi
    cases badi with
    | true =>
     have HE := mk_ (show cDots l r8 = (acc, (ati, true)) from by rw [HQ.out]; exact cTimes_bad _ _ _ _ rfl)
     clear hi HQ
     have kx := blk_cell HA.out.s3.blk
     go_wp2_with ((with_reducible refine gate_st (ty := 32) (x := .tmp 2) (y := .tmp 55) rfl ?_); refine wpList_store_row rfl 32 (.tmp 2) (.tmp 55) rfl w.heap.size #[.int .i64 d_.f0, .int .i64 d_.f1, .slice A3 l3.length c3, .int .i64 t_.f0, .int .i64 t_.f1, .int .i64 t_.f2, .int .i64 n1, .int .i64 n5, .string s6, .int .i64 n7, .slice A7 vals.length c7, .slice A8 acc.length c8] rfl rfl 32 #[.int .i64 0, .int .i64 0, .slice none 0 0, .int .i64 0, .int .i64 0, .int .i64 0, .int .i64 0, .int .i64 0, .string ⟨#[]⟩, .int .i64 0, .slice none 0 0, .slice none 0 0] (HA.out.s3.tail.s5.blk) z0 rfl z6 ?_)
     refine bodyPost_ret (results_cell_row rfl _ _ w.heap.size 32 #[.int .i64 d_.f0, .int .i64 d_.f1, .slice A3 l3.length c3, .int .i64 t_.f0, .int .i64 t_.f1, .int .i64 t_.f2, .int .i64 n1, .int .i64 n5, .string s6, .int .i64 n7, .slice A7 vals.length c7, .slice A8 acc.length c8] (0, 0) _ rfl (sp_storeRow HA.out.s3.tail.s5 _).blk Try.underlying32 rfl z0) rfl ?_
     rw [HU.out, HE.out]
     exact ⟨_, _, _, rfl, (sp_storeRow HA.out.s3.tail.s5 #[.int .i64 d_.f0, .int .i64 d_.f1, .slice A3 l3.length c3, .int .i64 t_.f0, .int .i64 t_.f1, .int .i64 t_.f2, .int .i64 n1, .int .i64 n5, .string s6, .int .i64 n7, .slice A7 vals.length c7, .slice A8 acc.length c8]).tail.s3.s4⟩
    | false =>
     have HI := mk_ hi
     obtain ⟨q, hq⟩ : ∃ q, m.toNat - i = q + 1 := ⟨m.toNat - i - 1, by omega⟩
     have HM := mk_ hq
     have hQ := HQ.out
     rw [hq, cTimes, if_neg (by show ¬ (false = true); decide)] at hQ
     have pj := HPD.out _ HP.out
     have HQD := mk_ (fun V F' hv => HCD.out V F' (ati, false) HP.out hv)
     clear hi hq HQ HCD
     generalize rDot l (ati, false) = qd at *
     obtain ⟨p, rj⟩ := qd
     dsimp only at hQ pj HQD
     have HQ := mk_ hQ
     have HPJ := mk_ pj
     clear hQ pj
     have k11 := blk_cell HA.out.s3.blk 11
     have hSd := HA.out.drew
     go_wp2
     refine start_ (n := 8) (S := fun w' => w'.cell? ⟨V8.heap.size, 11, none⟩ = some (.slice A8 acc.length c8) ∧ True) (ds := [7]) (Steps.Bs 8 0) z0 rfl rfl ⟨k11, trivial⟩ (fun hHeld => ?_)
     generalize World.drew _ = W at hSd hHeld ⊢
     clear k11 HA
     refine sI 0 48 8 1 ?_
     refine sI 2 50 8 5 ?_
     refine sT hHeld 1 49 8 7 ?_
     refine one_ (i := 3) (N := some 51) (Steps.Bs 8 15) rfl rfl z0 z5 (fun K hK => ?_)
     refine goes_ Try.func60 z0 rfl #[.pointer (some ⟨g, 0, none⟩)] (by rfl) rfl rfl (by (try simp only [List.map_toArray, List.map_cons, List.map_nil]); first | done | rfl) ?_
     refine (HQD.out _ _ hSd.s1.s2.s1).mono ?_
     rintro e W2 ⟨rfl, h1⟩
     refine ⟨_, rfl, ?_⟩
     have hHeld1 : W2.cell? ⟨V8.heap.size, 11, none⟩ = some (.slice A8 acc.length c8) := blk_cell h1.s3.blk 11
     have HS3 := mk_ (Sp.s1 (sp_el (d := k25) (p := p) (cs := [.int .i64 p.f0, .int .i64 p.f1]) (fun W ok => k25_mkM W 0 ok p) h1.s2))
     clear hHeld hSd h1
     refine hK.out _ _ ⟨hHeld1, trivial⟩ (fun _ => ?_)
     clear hK K
     refine nrm 51 ?_
     refine one_ (i := 4) (N := some 52) (Steps.Bs 8 31) rfl rfl z0 z5 (fun K hK => ?_)
     refine value_ (w1 := ?_) (v := ?_) (by rfl) rfl ?_ ?_
     rotate_left 2
     ·
      go_simp
      constructor
      ·
       rfl
      ·
       rfl
     refine hK.out _ _ ⟨(Below.cell (below_alloc (Below.refl _ _) _) (World.block_lt_of_cell? W2 _ hHeld1)).trans hHeld1, trivial⟩ (fun _ => ?_)
     clear hK K
     refine nrm 52 ?_
     refine one_ (i := 5) (N := some 53) (Steps.Bs 8 63) rfl rfl z0 z5 (fun K hK => ?_)
     refine Sp.append_step k25 (W := W2) (by rfl) (.tmp 49) (.tmp 52) 30 25 (.agg #[.int .i64 0, .int .i64 0]) 16 rfl Try.underlying30 z0 rfl z5 z4 (.slice A8 acc.length c8) acc p [.int .i64 p.f0, .int .i64 p.f1] rfl rfl HS3.out (by have := HK.out; have := HLE.out; omega) ?_
     intro v9 w1 hS4
     have HS4 := mk_ hS4
     have hg1 := hS4.s3.blk
     obtain ⟨A9, c9, rfl, _, _⟩ := hS4.row
     clear hS4
     refine hK.out _ _ ⟨blk_cell hg1 11, trivial⟩ (fun _ => ?_)
     clear hK K
     refine nrm 53 ?_
     refine sI 6 54 8 127 ?_
     refine last_ (i := 7) (N := none) (Steps.Bs 8 255) rfl rfl z0 z5 (fun K hK => ?_)
     have hc0 := blk_cell hg1 11
     have hf0 := blk_frozen hg1 11
     refine skip_ (w1 := ?_) (by rfl) rfl ?_ ?_
     rotate_left
     ·
      go_simp
      rfl
     refine hK.out _ _ ?_
     clear hK K
     refine done_ z0 ?_
     have h5 := (HS4.out.s3.store 11 (.slice A9 (acc ++ [p]).length c9)).s3.s3.s3
     rw [show (acc ++ [p]).length = acc.length + 1 by simp] at h5
     have HS5 := mk_ h5
     clear h5 hc0 hf0 hg1 HS3 HS4 hHeld1
     go_wp2
     go_roundg k1
     case measure => exact Nat.lt_succ_self _
     case rel => exact ⟨i + 1, .slice A9 (acc.length + 1) c9, acc ++ [p], rj, by rw [w64 z4 (by have := HI.out; have := HLE.out; omega)]; rfl, ⟨HS5.out⟩, ⟨by have := HK.out; have := HI.out; rw [List.length_append]; simp; omega⟩, ⟨HPJ.out⟩, ⟨by rw [HQ.out, show m.toNat - (i + 1) = q by have := HM.out; omega]⟩⟩
  ·
   have hd0 : decide ((64 : Int) < m) = false := decide_eq_false hc
   have HQ := mk_ (show cDots l r8 = cTimes rDot l m.toNat [] (at9, false) from by rw [hd]; simp [hc])
   clear hd
   have pr : rAt l (at9, false) := p9
   clear p9
   go_enter Try.func28, Try.ntmps28
   go_wp2_with (first
  | (go_at_call 59; (with_reducible show Calls _ _ _ (World.alloc w _) _); refine (HC1.out _ _ HS0.out).mono ?_; rintro e V1 ⟨rfl, h1⟩; have HS1 := mk_ h1; clear h1)
  | (go_at_call 60; (with_reducible show Calls _ _ _ V1 _); refine (HC2.out _ _ HS1.out).mono ?_; rintro e V2 ⟨rfl, h1⟩; have HS2 := mk_ h1; clear h1)
  | (go_at_call 61; (with_reducible show Calls _ _ _ V2 _); refine (HC3.out _ _ HS2.out).mono ?_; rintro e V3 ⟨v3, rfl, h1⟩; obtain ⟨A3, c3, rfl, _, _⟩ := h1.row; have HS3 := mk_ h1.s1.s2.s1; clear h1)
  | (go_at_call 62; (with_reducible show Calls _ _ _ V3 _); refine (HC4.out _ _ HS3.out).mono ?_; rintro e V4 ⟨rfl, h1⟩; have HS4 := mk_ h1; clear h1)
  | (go_at_call 59; (with_reducible show Calls _ _ _ V4 _); refine (HC5.out _ _ HS4.out).mono ?_; rintro e V5 ⟨rfl, h1⟩; have HS5 := mk_ h1; clear h1)
  | (go_at_call 63; (with_reducible show Calls _ _ _ V5 _); refine (HC6.out _ _ HS5.out).mono ?_; rintro e V6 ⟨rfl, h1⟩; have HS6 := mk_ h1; clear h1)
  | (go_at_call 59; (with_reducible show Calls _ _ _ V6 _); refine (HC7.out _ _ HS6.out).mono ?_; rintro e V7 ⟨rfl, h1⟩; have HS7 := mk_ h1; clear h1)
  | (go_at_call 64; (with_reducible show Calls _ _ _ V7 _); refine (HC8.out _ _ HS7.out).mono ?_; rintro e V8 ⟨v7, rfl, h1⟩; obtain ⟨A7, c7, rfl, _, _⟩ := h1.row; have HS8 := mk_ h1.s1.s2.s1; clear h1)
  | ((with_reducible refine gate_st (ty := 32) (x := .tmp 3) (y := .tmp 22) rfl ?_); refine wpList_store_row rfl 32 (.tmp 3) (.tmp 22) rfl V8.heap.size #[.int .i64 d_.f0, .int .i64 d_.f1, .slice A3 l3.length c3, .int .i64 t_.f0, .int .i64 t_.f1, .int .i64 t_.f2, .int .i64 n1, .int .i64 n5, .string s6, .int .i64 n7, .slice A7 vals.length c7, .slice none 0 0] rfl rfl 32 #[.int .i64 0, .int .i64 0, .slice none 0 0, .int .i64 0, .int .i64 0, .int .i64 0, .int .i64 0, .int .i64 0, .string ⟨#[]⟩, .int .i64 0, .slice none 0 0, .slice none 0 0] (HS8.out.box (.cells #[.int .i64 0, .int .i64 0, .slice none 0 0, .int .i64 0, .int .i64 0, .int .i64 0, .int .i64 0, .int .i64 0, .string ⟨#[]⟩, .int .i64 0, .slice none 0 0, .slice none 0 0] 32 (0, 0))).blk z0 rfl z6 ?_; have HSx := mk_ (Sp.s1 (Sp.s2 (Sp.s1 (sp_storeRow (HS8.out.box (.cells #[.int .i64 0, .int .i64 0, .slice none 0 0, .int .i64 0, .int .i64 0, .int .i64 0, .int .i64 0, .int .i64 0, .string ⟨#[]⟩, .int .i64 0, .slice none 0 0, .slice none 0 0] 32 (0, 0))) #[.int .i64 d_.f0, .int .i64 d_.f1, .slice A3 l3.length c3, .int .i64 t_.f0, .int .i64 t_.f1, .int .i64 t_.f2, .int .i64 n1, .int .i64 n5, .string s6, .int .i64 n7, .slice A7 vals.length c7, .slice none 0 0])))))
  | (go_at_call 59; (with_reducible show Calls _ _ _ (World.setRow _ _ _) _); refine (HC9.out _ _ HSx.out).mono ?_; rintro e V9 ⟨rfl, h1⟩; have k2 := blk_cell h1.blk 2; have f2 := blk_frozen h1.blk 2; have HS9 := mk_ (h1.store 2 (.bool false)); clear h1))
   go_loopg [5] (m.toNat + 1) (fun kq v5 W' => ∃ (i : Nat) (v8 : Value) (acc : List Dt) (ri : Rr), v5 = .int .i64 (i : Int) ∧ Aside0 (Sp W' (Row k25 25 v8 acc :: CuP g A l.length c ri :: Old w0 :: Blk V8.heap.size (.cells #[.int .i64 d_.f0, .int .i64 d_.f1, .slice A3 l3.length c3, .int .i64 t_.f0, .int .i64 t_.f1, .int .i64 t_.f2, .int .i64 n1, .int .i64 n5, .string s6, .int .i64 n7, .slice A7 vals.length c7, v8] 32 (0, 0)) :: Row k84 84 (.slice A7 vals.length c7) vals :: Row (Kd.int .i64) 3 (.slice A3 l3.length c3) l3 :: Blk w.heap.size (.cells #[.int .i64 0, .int .i64 0, .slice none 0 0, .int .i64 0, .int .i64 0, .int .i64 0, .int .i64 0, .int .i64 0, .string ⟨#[]⟩, .int .i64 0, .slice none 0 0, .slice none 0 0] 32 (0, 0)) :: F)) ∧ Aside0 (kq + i = m.toNat + 1 ∧ i ≤ m.toNat ∧ acc.length ≤ i) ∧ Aside0 (rAt l ri) ∧ Aside0 (cDots l r8 = cTimes rDot l (m.toNat - i) acc ri))
   case atStart => exact ⟨0, .slice none 0 0, [], (at9, false), rfl, ⟨sp_nil HS9.out⟩, ⟨by simp⟩, ⟨pr⟩, ⟨HQ.out⟩⟩
   case round =>
    clear HS9 HQ pr
    obtain ⟨i, v8, acc, ri, rfl, HA, HK, HP, HQ⟩ := hrel
    obtain ⟨k1, rfl⟩ : ∃ k1, gk = k1 + 1 := ⟨gk - 1, by have := HK.out; omega⟩
    obtain ⟨A8, c8, rfl, _, _⟩ := HA.out.row
    obtain ⟨ati, badi⟩ := ri
    have k2 := blk_cell HA.out.s1.blk 2
    by_cases hi : (i : Int) < m
    rotate_left
    ·
     have hb2 : decide ((i : Int) < m) = false := decide_eq_false hi
     have hie : m.toNat - i = 0 := by have := HK.out; omega
     have HE := mk_ (show cDots l r8 = (acc, (ati, badi)) from by rw [HQ.out, hie]; rfl)
     clear hi hie HQ
     have kx := blk_cell HA.out.s3.blk
     go_wp2_with ((with_reducible refine gate_st (ty := 32) (x := .tmp 2) (y := .tmp 55) rfl ?_); refine wpList_store_row rfl 32 (.tmp 2) (.tmp 55) rfl w.heap.size #[.int .i64 d_.f0, .int .i64 d_.f1, .slice A3 l3.length c3, .int .i64 t_.f0, .int .i64 t_.f1, .int .i64 t_.f2, .int .i64 n1, .int .i64 n5, .string s6, .int .i64 n7, .slice A7 vals.length c7, .slice A8 acc.length c8] rfl rfl 32 #[.int .i64 0, .int .i64 0, .slice none 0 0, .int .i64 0, .int .i64 0, .int .i64 0, .int .i64 0, .int .i64 0, .string ⟨#[]⟩, .int .i64 0, .slice none 0 0, .slice none 0 0] (HA.out.s3.tail.s5.blk) z0 rfl z6 ?_)
     refine bodyPost_ret (results_cell_row rfl _ _ w.heap.size 32 #[.int .i64 d_.f0, .int .i64 d_.f1, .slice A3 l3.length c3, .int .i64 t_.f0, .int .i64 t_.f1, .int .i64 t_.f2, .int .i64 n1, .int .i64 n5, .string s6, .int .i64 n7, .slice A7 vals.length c7, .slice A8 acc.length c8] (0, 0) _ rfl (sp_storeRow HA.out.s3.tail.s5 _).blk Try.underlying32 rfl z0) rfl ?_
     rw [HU.out, HE.out]
     exact ⟨_, _, _, rfl, (sp_storeRow HA.out.s3.tail.s5 #[.int .i64 d_.f0, .int .i64 d_.f1, .slice A3 l3.length c3, .int .i64 t_.f0, .int .i64 t_.f1, .int .i64 t_.f2, .int .i64 n1, .int .i64 n5, .string s6, .int .i64 n7, .slice A7 vals.length c7, .slice A8 acc.length c8]).tail.s3.s4⟩
    have hb2 : decide ((i : Int) < m) = true := decide_eq_true hi
    cases badi with
    | true =>
     have HE := mk_ (show cDots l r8 = (acc, (ati, true)) from by rw [HQ.out]; exact cTimes_bad _ _ _ _ rfl)
     clear hi HQ
     have kx := blk_cell HA.out.s3.blk
     go_wp2_with ((with_reducible refine gate_st (ty := 32) (x := .tmp 2) (y := .tmp 55) rfl ?_); refine wpList_store_row rfl 32 (.tmp 2) (.tmp 55) rfl w.heap.size #[.int .i64 d_.f0, .int .i64 d_.f1, .slice A3 l3.length c3, .int .i64 t_.f0, .int .i64 t_.f1, .int .i64 t_.f2, .int .i64 n1, .int .i64 n5, .string s6, .int .i64 n7, .slice A7 vals.length c7, .slice A8 acc.length c8] rfl rfl 32 #[.int .i64 0, .int .i64 0, .slice none 0 0, .int .i64 0, .int .i64 0, .int .i64 0, .int .i64 0, .int .i64 0, .string ⟨#[]⟩, .int .i64 0, .slice none 0 0, .slice none 0 0] (HA.out.s3.tail.s5.blk) z0 rfl z6 ?_)
     refine bodyPost_ret (results_cell_row rfl _ _ w.heap.size 32 #[.int .i64 d_.f0, .int .i64 d_.f1, .slice A3 l3.length c3, .int .i64 t_.f0, .int .i64 t_.f1, .int .i64 t_.f2, .int .i64 n1, .int .i64 n5, .string s6, .int .i64 n7, .slice A7 vals.length c7, .slice A8 acc.length c8] (0, 0) _ rfl (sp_storeRow HA.out.s3.tail.s5 _).blk Try.underlying32 rfl z0) rfl ?_
     rw [HU.out, HE.out]
     exact ⟨_, _, _, rfl, (sp_storeRow HA.out.s3.tail.s5 #[.int .i64 d_.f0, .int .i64 d_.f1, .slice A3 l3.length c3, .int .i64 t_.f0, .int .i64 t_.f1, .int .i64 t_.f2, .int .i64 n1, .int .i64 n5, .string s6, .int .i64 n7, .slice A7 vals.length c7, .slice A8 acc.length c8]).tail.s3.s4⟩
    | false =>
     have HI := mk_ hi
     obtain ⟨q, hq⟩ : ∃ q, m.toNat - i = q + 1 := ⟨m.toNat - i - 1, by omega⟩
     have HM := mk_ hq
     have hQ := HQ.out
     rw [hq, cTimes, if_neg (by show ¬ (false = true); decide)] at hQ
     have pj := HPD.out _ HP.out
     have HQD := mk_ (fun V F' hv => HCD.out V F' (ati, false) HP.out hv)
     clear hi hq HQ HCD
     generalize rDot l (ati, false) = qd at *
     obtain ⟨p, rj⟩ := qd
     dsimp only at hQ pj HQD
     have HQ := mk_ hQ
     have HPJ := mk_ pj
     clear hQ pj
     have k11 := blk_cell HA.out.s3.blk 11
     have hSd := HA.out.drew
     go_wp2
     refine start_ (n := 8) (S := fun w' => w'.cell? ⟨V8.heap.size, 11, none⟩ = some (.slice A8 acc.length c8) ∧ True) (ds := [7]) (Steps.Bs 8 0) z0 rfl rfl ⟨k11, trivial⟩ (fun hHeld => ?_)
     generalize World.drew _ = W at hSd hHeld ⊢
     clear k11 HA
     refine sI 0 48 8 1 ?_
     refine sI 2 50 8 5 ?_
     refine sT hHeld 1 49 8 7 ?_
     refine one_ (i := 3) (N := some 51) (Steps.Bs 8 15) rfl rfl z0 z5 (fun K hK => ?_)
     refine goes_ Try.func60 z0 rfl #[.pointer (some ⟨g, 0, none⟩)] (by rfl) rfl rfl (by (try simp only [List.map_toArray, List.map_cons, List.map_nil]); first | done | rfl) ?_
     refine (HQD.out _ _ hSd.s1.s2.s1).mono ?_
     rintro e W2 ⟨rfl, h1⟩
     refine ⟨_, rfl, ?_⟩
     have hHeld1 : W2.cell? ⟨V8.heap.size, 11, none⟩ = some (.slice A8 acc.length c8) := blk_cell h1.s3.blk 11
     have HS3 := mk_ (Sp.s1 (sp_el (d := k25) (p := p) (cs := [.int .i64 p.f0, .int .i64 p.f1]) (fun W ok => k25_mkM W 0 ok p) h1.s2))
     clear hHeld hSd h1
     refine hK.out _ _ ⟨hHeld1, trivial⟩ (fun _ => ?_)
     clear hK K
     refine nrm 51 ?_
     refine one_ (i := 4) (N := some 52) (Steps.Bs 8 31) rfl rfl z0 z5 (fun K hK => ?_)
     refine value_ (w1 := ?_) (v := ?_) (by rfl) rfl ?_ ?_
     rotate_left 2
     ·
      go_simp
      constructor
      ·
       rfl
      ·
       rfl
     refine hK.out _ _ ⟨(Below.cell (below_alloc (Below.refl _ _) _) (World.block_lt_of_cell? W2 _ hHeld1)).trans hHeld1, trivial⟩ (fun _ => ?_)
     clear hK K
     refine nrm 52 ?_
     refine one_ (i := 5) (N := some 53) (Steps.Bs 8 63) rfl rfl z0 z5 (fun K hK => ?_)
     refine Sp.append_step k25 (W := W2) (by rfl) (.tmp 49) (.tmp 52) 30 25 (.agg #[.int .i64 0, .int .i64 0]) 16 rfl Try.underlying30 z0 rfl z5 z4 (.slice A8 acc.length c8) acc p [.int .i64 p.f0, .int .i64 p.f1] rfl rfl HS3.out (by have := HK.out; have := HLE.out; omega) ?_
     intro v9 w1 hS4
     have HS4 := mk_ hS4
     have hg1 := hS4.s3.blk
     obtain ⟨A9, c9, rfl, _, _⟩ := hS4.row
     clear hS4
     refine hK.out _ _ ⟨blk_cell hg1 11, trivial⟩ (fun _ => ?_)
     clear hK K
     refine nrm 53 ?_
     refine sI 6 54 8 127 ?_
     refine last_ (i := 7) (N := none) (Steps.Bs 8 255) rfl rfl z0 z5 (fun K hK => ?_)
     have hc0 := blk_cell hg1 11
     have hf0 := blk_frozen hg1 11
     refine skip_ (w1 := ?_) (by rfl) rfl ?_ ?_
     rotate_left
     ·
      go_simp
      rfl
     refine hK.out _ _ ?_
     clear hK K
     refine done_ z0 ?_
     have h5 := (HS4.out.s3.store 11 (.slice A9 (acc ++ [p]).length c9)).s3.s3.s3
     rw [show (acc ++ [p]).length = acc.length + 1 by simp] at h5
     have HS5 := mk_ h5
     clear h5 hc0 hf0 hg1 HS3 HS4 hHeld1
     go_wp2
     go_roundg k1
     case measure => exact Nat.lt_succ_self _
     case rel => exact ⟨i + 1, .slice A9 (acc.length + 1) c9, acc ++ [p], rj, by rw [w64 z4 (by have := HI.out; have := HLE.out; omega)]; rfl, ⟨HS5.out⟩, ⟨by have := HK.out; have := HI.out; rw [List.length_append]; simp; omega⟩, ⟨HPJ.out⟩, ⟨by rw [HQ.out, show m.toNat - (i + 1) = q by have := HM.out; omega]⟩⟩
end
end Go.Proofs.Ytjnjfogfpmeacaa.Ops
end
section
namespace Go.Proofs.Ytjnjfogfpmeacaa.Ops
open Go.RowKit PAll Ops Plain PrintWords PrintLast PrintMore Go.Proofs.Ytjnjfogfpmeacaa.Sep ZipT PrintWords.Kd PrintMore.Kd
set_option linter.unusedVariables false
set_option linter.unusedSimpArgs false
section
variable {w : World} {A : Option Addr} {c : Nat} {l : List Int}
theorem rread_sp (hC0 : Kd.C (Kd.int .u8) w A l.length l) (hlc : l.length ≤ c) (hb : Bytes l) (hl : l.length ≤ 1000000) (a1 : Int) :
  Calls Try.prog 12 #[.slice A l.length c, .int .i64 a1] w fun e w' => ∃ v1 v7 v8, e = .returned (.tuple #[.agg #[.int .i64 (sOpRead l a1).1.f0.f0, .int .i64 (sOpRead l a1).1.f0.f1, v1, .int .i64 (sOpRead l a1).1.f2.f0, .int .i64 (sOpRead l a1).1.f2.f1, .int .i64 (sOpRead l a1).1.f2.f2, .int .i64 (sOpRead l a1).1.f3, .int .i64 (sOpRead l a1).1.f4, .string (sOpRead l a1).1.f5, .int .i64 (sOpRead l a1).1.f6, v7, v8], .int .i64 (sOpRead l a1).2.1, .int .i64 (sOpRead l a1).2.2]) ∧
   Sp w' [Row (Kd.int .i64) 3 v1 (sOpRead l a1).1.f1, Row k84 84 v7 (sOpRead l a1).1.f7, Row k25 25 v8 (sOpRead l a1).1.f8, Old w] := by
 have h1 := (Sp.start w).box (.cells #[.int .i64 0, .int .i64 0, .slice none 0 0, .int .i64 0, .int .i64 0, .int .i64 0, .int .i64 0, .int .i64 0, .string ⟨#[]⟩, .int .i64 0, .slice none 0 0, .slice none 0 0] 32 (0, 0))
 have HS := mk_ h1
 have hu := sOpRead_cut l a1
 by_cases ha : a1 < 0 ∨ a1 > l.length
 ·
  rw [hu, if_pos ha]
  have HIN := mk_ (show raddleref01_in.f a1 0 (l.length : Int) = some false by rw [rin_eq, decide_eq_false z4])
  clear hu ha hC0 hb h1
  go_enter Try.func12, Try.ntmps12
  go_wp2_with (first
   | (go_at_call 27; refine (raddleref01_in.calls a1 0 (l.length : Int) false _ HIN.out).mono ?_; rintro e V0 ⟨rfl, ⟨nd, rfl⟩⟩; have HS1 := mk_ (HS.out.drewN nd))
   | ((with_reducible refine gate_st (ty := 32) (x := .tmp 4) (y := .tmp 14) rfl ?_); refine wpList_store_row rfl 32 (.tmp 4) (.tmp 14) rfl w.heap.size #[.int .i64 0, .int .i64 0, .slice none 0 0, .int .i64 0, .int .i64 0, .int .i64 0, .int .i64 0, .int .i64 0, .string ⟨#[]⟩, .int .i64 0, .slice none 0 0, .slice none 0 0] rfl rfl 32 #[.int .i64 0, .int .i64 0, .slice none 0 0, .int .i64 0, .int .i64 0, .int .i64 0, .int .i64 0, .int .i64 0, .string ⟨#[]⟩, .int .i64 0, .slice none 0 0, .slice none 0 0] HS1.out.blk z0 rfl z6 ?_))
  refine bodyPost_ret (results_ctt rfl _ _ w.heap.size 32 #[.int .i64 0, .int .i64 0, .slice none 0 0, .int .i64 0, .int .i64 0, .int .i64 0, .int .i64 0, .int .i64 0, .string ⟨#[]⟩, .int .i64 0, .slice none 0 0, .slice none 0 0] (0, 0) _ rfl (sp_storeRow HS1.out _).blk Try.underlying32 rfl z0) rfl ?_
  exact ⟨_, _, _, rfl, sp_nil (sp_nil (sp_nil (sp_storeRow HS1.out #[.int .i64 0, .int .i64 0, .slice none 0 0, .int .i64 0, .int .i64 0, .int .i64 0, .int .i64 0, .int .i64 0, .string ⟨#[]⟩, .int .i64 0, .slice none 0 0, .slice none 0 0]).tail))⟩
 rw [hu, if_neg ha]
 have HIN := mk_ (show raddleref01_in.f a1 0 (l.length : Int) = some true by rw [rin_eq, decide_eq_true z4])
 have hp : rAt l (a1, false) := ⟨by show 0 ≤ a1; omega, by show a1 ≤ _; omega⟩
 have hQ : ∀ W, Sp W [CuP (w.heap.size + 1) A l.length c (a1, false), Old w, Blk w.heap.size (.cells #[.int .i64 0, .int .i64 0, .slice none 0 0, .int .i64 0, .int .i64 0, .int .i64 0, .int .i64 0, .int .i64 0, .string ⟨#[]⟩, .int .i64 0, .slice none 0 0, .slice none 0 0] 32 (0, 0))] → _ := fun W h => cop_calls (w0 := w) hC0 hlc hb hl (a1, false) hp h
 clear hu hC0 hb hp h1 ha
 generalize cOp l (a1, false) = q at hQ ⊢
 obtain ⟨x, at2, bad2⟩ := q
 dsimp only at hQ ⊢
 have HQ := mk_ hQ
 clear hQ
 cases bad2 with
 | true =>
  rw [if_pos rfl]
  go_enter Try.func12, Try.ntmps12
  go_wp2_with (first | (go_at_call 27; refine (raddleref01_in.calls a1 0 (l.length : Int) true _ HIN.out).mono ?_; rintro e V0 ⟨rfl, ⟨nd, rfl⟩⟩; have hbx := (HS.out.drewN nd).box (.cells #[.slice A l.length c, .int .i64 a1, .bool false] 64 (0, 0)); rw [show ((w.alloc (.cells #[.int .i64 0, .int .i64 0, .slice none 0 0, .int .i64 0, .int .i64 0, .int .i64 0, .int .i64 0, .int .i64 0, .string ⟨#[]⟩, .int .i64 0, .slice none 0 0, .slice none 0 0] 32 (0, 0))).drewN nd).heap.size = w.heap.size + 1 from Array.size_push _] at hbx; have HS1 := mk_ hbx.s2.s1; clear hbx) | (go_at_call 28; refine (HQ.out _ HS1.out).mono ?_; rintro e V ⟨v1, v7, v8, rfl, h⟩; obtain ⟨A1, c1, rfl, _, _⟩ := h.row; obtain ⟨A7, c7, rfl, _, _⟩ := h.tail.row; obtain ⟨A8, c8, rfl, _, _⟩ := h.tail.tail.row; have HS3 := mk_ h.s5; clear h) | ((with_reducible refine gate_st (ty := 32) (x := .tmp 8) (y := .tmp 20) rfl ?_); refine wpList_store_row rfl 32 (.tmp 8) (.tmp 20) rfl V.heap.size #[.int .i64 x.f0.f0, .int .i64 x.f0.f1, .slice A1 x.f1.length c1, .int .i64 x.f2.f0, .int .i64 x.f2.f1, .int .i64 x.f2.f2, .int .i64 x.f3, .int .i64 x.f4, .string x.f5, .int .i64 x.f6, .slice A7 x.f7.length c7, .slice A8 x.f8.length c8] rfl rfl 32 #[.int .i64 0, .int .i64 0, .slice none 0 0, .int .i64 0, .int .i64 0, .int .i64 0, .int .i64 0, .int .i64 0, .string ⟨#[]⟩, .int .i64 0, .slice none 0 0, .slice none 0 0] (HS3.out.box (.cells #[.int .i64 0, .int .i64 0, .slice none 0 0, .int .i64 0, .int .i64 0, .int .i64 0, .int .i64 0, .int .i64 0, .string ⟨#[]⟩, .int .i64 0, .slice none 0 0, .slice none 0 0] 32 (0, 0))).blk z0 rfl z6 ?_; have HS4 := mk_ (sp_storeRow (HS3.out.box (.cells #[.int .i64 0, .int .i64 0, .slice none 0 0, .int .i64 0, .int .i64 0, .int .i64 0, .int .i64 0, .int .i64 0, .string ⟨#[]⟩, .int .i64 0, .slice none 0 0, .slice none 0 0] 32 (0, 0))) #[.int .i64 x.f0.f0, .int .i64 x.f0.f1, .slice A1 x.f1.length c1, .int .i64 x.f2.f0, .int .i64 x.f2.f1, .int .i64 x.f2.f2, .int .i64 x.f3, .int .i64 x.f4, .string x.f5, .int .i64 x.f6, .slice A7 x.f7.length c7, .slice A8 x.f8.length c8]); have kr := blk_cell HS4.out.s5.blk; have kx := blk_cell HS4.out.blk) | ((with_reducible refine gate_st (ty := 32) (x := .tmp 4) (y := .tmp 25) rfl ?_); refine wpList_store_row rfl 32 (.tmp 4) (.tmp 25) rfl w.heap.size #[.int .i64 0, .int .i64 0, .slice none 0 0, .int .i64 0, .int .i64 0, .int .i64 0, .int .i64 0, .int .i64 0, .string ⟨#[]⟩, .int .i64 0, .slice none 0 0, .slice none 0 0] rfl rfl 32 #[.int .i64 0, .int .i64 0, .slice none 0 0, .int .i64 0, .int .i64 0, .int .i64 0, .int .i64 0, .int .i64 0, .string ⟨#[]⟩, .int .i64 0, .slice none 0 0, .slice none 0 0] HS4.out.s1.blk z0 rfl z6 ?_))
  refine bodyPost_ret (results_ctt rfl _ _ w.heap.size 32 #[.int .i64 0, .int .i64 0, .slice none 0 0, .int .i64 0, .int .i64 0, .int .i64 0, .int .i64 0, .int .i64 0, .string ⟨#[]⟩, .int .i64 0, .slice none 0 0, .slice none 0 0] (0, 0) _ rfl (sp_storeRow HS4.out.s1 _).blk Try.underlying32 rfl z0) rfl ?_
  exact ⟨_, _, _, rfl, sp_nil (sp_nil (sp_nil (sp_storeRow HS4.out.s1 #[.int .i64 0, .int .i64 0, .slice none 0 0, .int .i64 0, .int .i64 0, .int .i64 0, .int .i64 0, .int .i64 0, .string ⟨#[]⟩, .int .i64 0, .slice none 0 0, .slice none 0 0]).tail.tail.tail.tail.tail.tail))⟩
 | false =>
  rw [if_neg (by show ¬ (false = true); decide)]
  go_enter Try.func12, Try.ntmps12
  go_wp2_with (first | (go_at_call 27; refine (raddleref01_in.calls a1 0 (l.length : Int) true _ HIN.out).mono ?_; rintro e V0 ⟨rfl, ⟨nd, rfl⟩⟩; have hbx := (HS.out.drewN nd).box (.cells #[.slice A l.length c, .int .i64 a1, .bool false] 64 (0, 0)); rw [show ((w.alloc (.cells #[.int .i64 0, .int .i64 0, .slice none 0 0, .int .i64 0, .int .i64 0, .int .i64 0, .int .i64 0, .int .i64 0, .string ⟨#[]⟩, .int .i64 0, .slice none 0 0, .slice none 0 0] 32 (0, 0))).drewN nd).heap.size = w.heap.size + 1 from Array.size_push _] at hbx; have HS1 := mk_ hbx.s2.s1; clear hbx) | (go_at_call 28; refine (HQ.out _ HS1.out).mono ?_; rintro e V ⟨v1, v7, v8, rfl, h⟩; obtain ⟨A1, c1, rfl, _, _⟩ := h.row; obtain ⟨A7, c7, rfl, _, _⟩ := h.tail.row; obtain ⟨A8, c8, rfl, _, _⟩ := h.tail.tail.row; have HS3 := mk_ h.s5; clear h) | ((with_reducible refine gate_st (ty := 32) (x := .tmp 8) (y := .tmp 20) rfl ?_); refine wpList_store_row rfl 32 (.tmp 8) (.tmp 20) rfl V.heap.size #[.int .i64 x.f0.f0, .int .i64 x.f0.f1, .slice A1 x.f1.length c1, .int .i64 x.f2.f0, .int .i64 x.f2.f1, .int .i64 x.f2.f2, .int .i64 x.f3, .int .i64 x.f4, .string x.f5, .int .i64 x.f6, .slice A7 x.f7.length c7, .slice A8 x.f8.length c8] rfl rfl 32 #[.int .i64 0, .int .i64 0, .slice none 0 0, .int .i64 0, .int .i64 0, .int .i64 0, .int .i64 0, .int .i64 0, .string ⟨#[]⟩, .int .i64 0, .slice none 0 0, .slice none 0 0] (HS3.out.box (.cells #[.int .i64 0, .int .i64 0, .slice none 0 0, .int .i64 0, .int .i64 0, .int .i64 0, .int .i64 0, .int .i64 0, .string ⟨#[]⟩, .int .i64 0, .slice none 0 0, .slice none 0 0] 32 (0, 0))).blk z0 rfl z6 ?_; have HS4 := mk_ (sp_storeRow (HS3.out.box (.cells #[.int .i64 0, .int .i64 0, .slice none 0 0, .int .i64 0, .int .i64 0, .int .i64 0, .int .i64 0, .int .i64 0, .string ⟨#[]⟩, .int .i64 0, .slice none 0 0, .slice none 0 0] 32 (0, 0))) #[.int .i64 x.f0.f0, .int .i64 x.f0.f1, .slice A1 x.f1.length c1, .int .i64 x.f2.f0, .int .i64 x.f2.f1, .int .i64 x.f2.f2, .int .i64 x.f3, .int .i64 x.f4, .string x.f5, .int .i64 x.f6, .slice A7 x.f7.length c7, .slice A8 x.f8.length c8]); have kr := blk_cell HS4.out.s5.blk; have kx := blk_cell HS4.out.blk))
  have hSd := HS4.out.drew
  clear kr kx
  refine start_at (n := 8) (S := fun w' => w'.cell? ⟨V.heap.size, 0, none⟩ = some (.int .i64 x.f0.f0) ∧ w'.cell? ⟨V.heap.size, 1, none⟩ = some (.int .i64 x.f0.f1) ∧ w'.cell? ⟨V.heap.size, 2, none⟩ = some (.slice A1 x.f1.length c1) ∧ w'.cell? ⟨V.heap.size, 3, none⟩ = some (.int .i64 x.f2.f0) ∧ w'.cell? ⟨V.heap.size, 4, none⟩ = some (.int .i64 x.f2.f1) ∧ w'.cell? ⟨V.heap.size, 5, none⟩ = some (.int .i64 x.f2.f2) ∧ w'.cell? ⟨V.heap.size, 6, none⟩ = some (.int .i64 x.f3) ∧ w'.cell? ⟨V.heap.size, 7, none⟩ = some (.int .i64 x.f4) ∧ w'.cell? ⟨V.heap.size, 8, none⟩ = some (.string x.f5) ∧ w'.cell? ⟨V.heap.size, 9, none⟩ = some (.int .i64 x.f6) ∧ w'.cell? ⟨V.heap.size, 10, none⟩ = some (.slice A7 x.f7.length c7) ∧ w'.cell? ⟨V.heap.size, 11, none⟩ = some (.slice A8 x.f8.length c8) ∧ w'.cell? ⟨w.heap.size + 1, 1, none⟩ = some (.int .i64 at2) ∧ True) (ds := []) (fun W => Sp W [Blk V.heap.size (.cells #[.int .i64 x.f0.f0, .int .i64 x.f0.f1, .slice A1 x.f1.length c1, .int .i64 x.f2.f0, .int .i64 x.f2.f1, .int .i64 x.f2.f2, .int .i64 x.f3, .int .i64 x.f4, .string x.f5, .int .i64 x.f6, .slice A7 x.f7.length c7, .slice A8 x.f8.length c8] 32 (0, 0)), Blk w.heap.size (.cells #[.int .i64 0, .int .i64 0, .slice none 0 0, .int .i64 0, .int .i64 0, .int .i64 0, .int .i64 0, .int .i64 0, .string ⟨#[]⟩, .int .i64 0, .slice none 0 0, .slice none 0 0] 32 (0, 0)), Row (Kd.int .i64) 3 (.slice A1 x.f1.length c1) x.f1, Row k84 84 (.slice A7 x.f7.length c7) x.f7, Row k25 25 (.slice A8 x.f8.length c8) x.f8, CuP (w.heap.size + 1) A l.length c (at2, false), Old w]) (Steps.Bs 8 0) z0 rfl rfl hSd (fun W hJ => ⟨blk_cell hJ.blk 0, blk_cell hJ.blk 1, blk_cell hJ.blk 2, blk_cell hJ.blk 3, blk_cell hJ.blk 4, blk_cell hJ.blk 5, blk_cell hJ.blk 6, blk_cell hJ.blk 7, blk_cell hJ.blk 8, blk_cell hJ.blk 9, blk_cell hJ.blk 10, blk_cell hJ.blk 11, blk_cell hJ.s5.blk 1, trivial⟩) (fun W0 hJ => ?_)
  clear hSd HS4 HS3
  have hHeld : W0.cell? ⟨V.heap.size, 0, none⟩ = some (.int .i64 x.f0.f0) ∧ W0.cell? ⟨V.heap.size, 1, none⟩ = some (.int .i64 x.f0.f1) ∧ W0.cell? ⟨V.heap.size, 2, none⟩ = some (.slice A1 x.f1.length c1) ∧ W0.cell? ⟨V.heap.size, 3, none⟩ = some (.int .i64 x.f2.f0) ∧ W0.cell? ⟨V.heap.size, 4, none⟩ = some (.int .i64 x.f2.f1) ∧ W0.cell? ⟨V.heap.size, 5, none⟩ = some (.int .i64 x.f2.f2) ∧ W0.cell? ⟨V.heap.size, 6, none⟩ = some (.int .i64 x.f3) ∧ W0.cell? ⟨V.heap.size, 7, none⟩ = some (.int .i64 x.f4) ∧ W0.cell? ⟨V.heap.size, 8, none⟩ = some (.string x.f5) ∧ W0.cell? ⟨V.heap.size, 9, none⟩ = some (.int .i64 x.f6) ∧ W0.cell? ⟨V.heap.size, 10, none⟩ = some (.slice A7 x.f7.length c7) ∧ W0.cell? ⟨V.heap.size, 11, none⟩ = some (.slice A8 x.f8.length c8) ∧ W0.cell? ⟨w.heap.size + 1, 1, none⟩ = some (.int .i64 at2) ∧ True := ⟨blk_cell hJ.blk 0, blk_cell hJ.blk 1, blk_cell hJ.blk 2, blk_cell hJ.blk 3, blk_cell hJ.blk 4, blk_cell hJ.blk 5, blk_cell hJ.blk 6, blk_cell hJ.blk 7, blk_cell hJ.blk 8, blk_cell hJ.blk 9, blk_cell hJ.blk 10, blk_cell hJ.blk 11, blk_cell hJ.s5.blk 1, trivial⟩
  refine sI 1 27 8 2 ?_
  refine sI 2 28 8 6 ?_
  refine sI 3 29 8 14 ?_
  refine sT hHeld 0 26 8 15 ?_
  refine sT hHeld 4 30 8 31 ?_
  refine one_ (i := 5) (N := none) (Steps.Bs 8 63) rfl rfl z0 z5 (fun K hK => ?_)
  refine store_row_step (by rfl) 32 (.tmp 4) (.tmp 26) rfl w.heap.size #[.int .i64 x.f0.f0, .int .i64 x.f0.f1, .slice A1 x.f1.length c1, .int .i64 x.f2.f0, .int .i64 x.f2.f1, .int .i64 x.f2.f2, .int .i64 x.f3, .int .i64 x.f4, .string x.f5, .int .i64 x.f6, .slice A7 x.f7.length c7, .slice A8 x.f8.length c8] rfl rfl 32 #[.int .i64 0, .int .i64 0, .slice none 0 0, .int .i64 0, .int .i64 0, .int .i64 0, .int .i64 0, .int .i64 0, .string ⟨#[]⟩, .int .i64 0, .slice none 0 0, .slice none 0 0] hJ.s1.blk z0 rfl z6 ?_
  have hS5 := sp_storeRow hJ.s1 #[.int .i64 x.f0.f0, .int .i64 x.f0.f1, .slice A1 x.f1.length c1, .int .i64 x.f2.f0, .int .i64 x.f2.f1, .int .i64 x.f2.f2, .int .i64 x.f3, .int .i64 x.f4, .string x.f5, .int .i64 x.f6, .slice A7 x.f7.length c7, .slice A8 x.f8.length c8]
  refine hK.out _ _ ⟨blk_cell hS5.s1.blk 0, blk_cell hS5.s1.blk 1, blk_cell hS5.s1.blk 2, blk_cell hS5.s1.blk 3, blk_cell hS5.s1.blk 4, blk_cell hS5.s1.blk 5, blk_cell hS5.s1.blk 6, blk_cell hS5.s1.blk 7, blk_cell hS5.s1.blk 8, blk_cell hS5.s1.blk 9, blk_cell hS5.s1.blk 10, blk_cell hS5.s1.blk 11, blk_cell hS5.s5.blk 1, trivial⟩ (fun _ => ?_)
  clear hK K
  refine norm_ (a' := ?_) ?_ ?_
  rotate_left
  ·
   show Act.put _ none _ = _
   rfl
  refine sI 6 5 8 127 ?_
  refine sI 7 6 8 255 ?_
  refine done_ z0 ?_
  go_wp2
  refine bodyPost_ret (results_ctt rfl _ _ w.heap.size 32 #[.int .i64 x.f0.f0, .int .i64 x.f0.f1, .slice A1 x.f1.length c1, .int .i64 x.f2.f0, .int .i64 x.f2.f1, .int .i64 x.f2.f2, .int .i64 x.f3, .int .i64 x.f4, .string x.f5, .int .i64 x.f6, .slice A7 x.f7.length c7, .slice A8 x.f8.length c8] (0, 0) _ rfl hS5.blk Try.underlying32 rfl z0) rfl ?_
  exact ⟨_, _, _, rfl, hS5.tail.tail.s3.tail⟩
end
end Go.Proofs.Ytjnjfogfpmeacaa.Ops
namespace Go.Proofs.Ytjnjfogfpmeacaa.PAll
open Go.RowKit PAll Ops Plain PrintWords PrintLast PrintMore Go.Proofs.Ytjnjfogfpmeacaa.Sep ZipT PrintWords.Kd PrintMore.Kd
def raddleref01_ReadOp.f (l0 : List Int) (a1 : Int) : Option (Int × Int × List Int × Int × Int × Int × Int × Int × ByteArray × Int × List V × List Dt × Int × Int) := if Bytes l0 ∧ l0.length ≤ 1000000 then some ((sOpRead l0 a1).1.f0.f0, (sOpRead l0 a1).1.f0.f1, (sOpRead l0 a1).1.f1, (sOpRead l0 a1).1.f2.f0, (sOpRead l0 a1).1.f2.f1, (sOpRead l0 a1).1.f2.f2, (sOpRead l0 a1).1.f3, (sOpRead l0 a1).1.f4, (sOpRead l0 a1).1.f5, (sOpRead l0 a1).1.f6, (sOpRead l0 a1).1.f7, (sOpRead l0 a1).1.f8, (sOpRead l0 a1).2.1, (sOpRead l0 a1).2.2) else none
theorem raddleref01_ReadOp.calls (A0 : Option Addr) (c0 : Nat) (l0 : List Int) (a1 : Int) (r1 : Int) (r2 : Int) (r3 : List Int) (r4 : Int) (r5 : Int) (r6 : Int) (r7 : Int) (r8 : Int) (r9 : ByteArray) (r10 : Int) (r11 : List V) (r12 : List Dt) (r13 : Int) (r14 : Int) (w : World) (hr0 : Kd.C (Kd.int .u8) w A0 l0.length l0) (hc0 : l0.length ≤ c0) (h : raddleref01_ReadOp.f l0 a1 = some (r1, r2, r3, r4, r5, r6, r7, r8, r9, r10, r11, r12, r13, r14)) :
  Calls Try.prog 12 #[.slice A0 l0.length c0, .int .i64 a1] w fun e w' => ∃ v2_ v10_ v11_ : Value, e = .returned (.tuple #[.agg #[.int .i64 r1, .int .i64 r2, v2_, .int .i64 r4, .int .i64 r5, .int .i64 r6, .int .i64 r7, .int .i64 r8, .string r9, .int .i64 r10, v10_, v11_], .int .i64 r13, .int .i64 r14]) ∧ Kd.R (Kd.int .i64) 3 w' w.heap.size (fun _ => True) v2_ r3 ∧ Kd.R k84 84 w' w.heap.size (fun _ => True) v10_ r11 ∧ Kd.R k25 25 w' w.heap.size (fun _ => True) v11_ r12 ∧ Below w.heap.size w w' := by
 unfold raddleref01_ReadOp.f at h
 split at h
 ·
  rename_i hs
  have he := Option.some.inj h
  simp only [Prod.mk.injEq] at he
  obtain ⟨rfl, rfl, rfl, rfl, rfl, rfl, rfl, rfl, rfl, rfl, rfl, rfl, rfl, rfl⟩ := he
  refine (rread_sp hr0 hc0 hs.1 hs.2 a1).mono ?_
  rintro e w' ⟨v1, v7, v8, rfl, h1⟩
  exact ⟨v1, v7, v8, rfl, Sp.rowOut (fun h => h) h1.s1.tail.s1.tail, Sp.rowOut (fun h => h) h1.tail.s1.tail, Sp.rowOut (fun h => h) h1.tail.tail, h1.tail.tail.tail.old⟩
 ·
  cases h
end Go.Proofs.Ytjnjfogfpmeacaa.PAll
end
section
namespace Go.Proofs.Ytjnjfogfpmeacaa.Ops
open Go.RowKit PAll Plain PrintWords PrintMore ZipT PrintWords.Kd PrintMore.Kd
set_option linter.unusedVariables false
set_option linter.unusedSimpArgs false
abbrev Tb := S51
theorem rdB_drop {l : List Tb} {i : Nat} {v : Tb} {m : List Tb} (h : l.drop i = v :: m) : rd_T51 l (i : Int) = v := by
 show l.getD ((i : Int).toNat) _ = v
 rw [Int.toNat_natCast, List.getD_eq_getElem?_getD]
 have : l[i]? = (l.drop i)[0]? := by rw [List.getElem?_drop]; simp
 rw [this, h]; rfl
def formsE (f : List Tb) : Int :=
 if f.length < 1 ∨ f.length > 3 then 2 else if (f.any fun t => decide (t.f0.length < 1 ∨ t.f0.length > 4)) = true then 2
 else if (f.any fun t => t.f0.any fun c => decide (c < 2 ∨ c > 4)) = true then 10 else 0
def badLen (t : Tb) : Bool := decide (t.f0.length < 1 ∨ t.f0.length > 4)
def badType (c : Int) : Bool := decide (c < 2 ∨ c > 4)
theorem formsE_eq (f : List Tb) : formsE f = if f.length < 1 ∨ f.length > 3 then 2 else if f.any badLen = true then 2 else if (f.any fun t => t.f0.any badType) = true then 10 else 0 := rfl
theorem forms1_eq (t : Tb) : op_Forms_1.f t.f0 = some (badLen t) := by
 unfold op_Forms_1.f badLen
 by_cases h : (t.f0.length : Int) < 1
 ·
  rw [if_pos h, decide_eq_true z4]
 rw [if_neg h]; congr 1; rw [decide_eq_decide]; omega
theorem forms2_eq (c : Int) : op_Forms_2.f c = some (badType c) := by
 unfold op_Forms_2.f badType
 by_cases h : c < 2
 ·
  rw [if_pos h, decide_eq_true (.inl h)]
 rw [if_neg h]; congr 1; rw [decide_eq_decide]; omega
theorem index1 (l : List Tb) (hl : l.length ≤ 1000000) (m : List Tb) : ∀ (k i : Nat), l.drop i = m → m.length < k →
  ∃ r, slices_IndexFunc_at_op_Forms_1.l0 k l (l.length : Int) (i : Int) = some r ∧ (r ≥ 0 ↔ m.any badLen = true) := by
 induction m with
 | nil =>
  intro k i h hk
  obtain ⟨k, rfl⟩ : ∃ j, k = j + 1 := ⟨k - 1, by omega⟩
  have := dropL_end h
  refine ⟨-1, ?_, by simp⟩
  simp only [slices_IndexFunc_at_op_Forms_1.l0]
  rw [if_neg z4]
 | cons v m ih =>
  intro k i h hk
  obtain ⟨k, rfl⟩ : ∃ j, k = j + 1 := ⟨k - 1, by omega⟩
  have hi := dropL_lt h
  simp only [slices_IndexFunc_at_op_Forms_1.l0]
  rw [if_pos z4, if_pos z4, if_pos z4, rdB_drop h, forms1_eq, Option.bind_some]
  cases ho : badLen v
  ·
   obtain ⟨r, h1, h2⟩ := ih k (i + 1) (dropL_tail h) (by simp at hk; omega)
   refine ⟨r, ?_, ?_⟩
   ·
    rw [if_neg z5, w64 z4 z4]; exact h1
   ·
    rw [h2, List.any_cons, ho, Bool.false_or]
  ·
   refine ⟨i, ?_, ?_⟩
   ·
    rw [if_pos rfl]
   ·
    rw [List.any_cons, ho, Bool.true_or]; simp
theorem contains1 (k : Nat) (l : List Tb) (hl : l.length ≤ 1000000) (hk : l.length < k) : slices_ContainsFunc_at_op_Forms_1.f k l () = some (l.any badLen) := by
 obtain ⟨r, h1, h2⟩ := index1 l hl l k 0 rfl hk
 unfold slices_ContainsFunc_at_op_Forms_1.f slices_IndexFunc_at_op_Forms_1.f
 rw [show ((0 : Nat) : Int) = 0 from rfl] at h1
 rw [h1, Option.bind_some]
 congr 1
 cases hz : l.any badLen
 ·
  rw [hz] at h2; exact decide_eq_false (fun h => by simpa using h2.1 h)
 ·
  rw [hz] at h2; exact decide_eq_true (h2.2 rfl)
theorem index2 (l : List Int) (hl : l.length ≤ 1000000) (m : List Int) : ∀ (k i : Nat), l.drop i = m → m.length < k →
  ∃ r, slices_IndexFunc_at_op_Forms_2.l0 k l (l.length : Int) (i : Int) = some r ∧ (r ≥ 0 ↔ m.any badType = true) := by
 induction m with
 | nil =>
  intro k i h hk
  obtain ⟨k, rfl⟩ : ∃ j, k = j + 1 := ⟨k - 1, by omega⟩
  have := dropL_end h
  refine ⟨-1, ?_, by simp⟩
  simp only [slices_IndexFunc_at_op_Forms_2.l0]
  rw [if_neg z4]
 | cons v m ih =>
  intro k i h hk
  obtain ⟨k, rfl⟩ : ∃ j, k = j + 1 := ⟨k - 1, by omega⟩
  have hi := dropL_lt h
  simp only [slices_IndexFunc_at_op_Forms_2.l0]
  rw [if_pos z4, if_pos z4, if_pos z4, rd_drop h, forms2_eq, Option.bind_some]
  cases ho : badType v
  ·
   obtain ⟨r, h1, h2⟩ := ih k (i + 1) (dropL_tail h) (by simp at hk; omega)
   refine ⟨r, ?_, ?_⟩
   ·
    rw [if_neg z5, w64 z4 z4]; exact h1
   ·
    rw [h2, List.any_cons, ho, Bool.false_or]
  ·
   refine ⟨i, ?_, ?_⟩
   ·
    rw [if_pos rfl]
   ·
    rw [List.any_cons, ho, Bool.true_or]; simp
theorem contains2 (k : Nat) (l : List Int) (hl : l.length ≤ 1000000) (hk : l.length < k) : slices_ContainsFunc_at_op_Forms_2.f k l () = some (l.any badType) := by
 obtain ⟨r, h1, h2⟩ := index2 l hl l k 0 rfl hk
 unfold slices_ContainsFunc_at_op_Forms_2.f slices_IndexFunc_at_op_Forms_2.f
 rw [show ((0 : Nat) : Int) = 0 from rfl] at h1
 rw [h1, Option.bind_some]
 congr 1
 cases hz : l.any badType
 ·
  rw [hz] at h2; exact decide_eq_false (fun h => by simpa using h2.1 h)
 ·
  rw [hz] at h2; exact decide_eq_true (h2.2 rfl)
theorem forms_l0 (l : List Tb) (hl : l.length ≤ 1000000) (hb : l.any badLen = false) (m : List Tb) : ∀ (k i : Nat), l.drop i = m → m.length + 5 < k →
  op_Forms.l0 k l (l.length : Int) (i : Int) = some (if (m.any fun t => t.f0.any badType) = true then 10 else 0) := by
 induction m with
 | nil =>
  intro k i h hk
  obtain ⟨k, rfl⟩ : ∃ j, k = j + 1 := ⟨k - 1, by omega⟩
  have := dropL_end h
  simp only [op_Forms.l0]
  rw [if_neg z4]; rfl
 | cons v m ih =>
  intro k i h hk
  obtain ⟨k, rfl⟩ : ∃ j, k = j + 1 := ⟨k - 1, by omega⟩
  have hi := dropL_lt h
  have hv : v.f0.length ≤ 4 := by
   have hm : v ∈ l := List.mem_of_mem_drop (i := i) (by rw [h]; exact List.mem_cons_self)
   have := List.any_eq_false.1 hb v hm
   unfold badLen at this
   simp at this
   omega
  simp only [List.length_cons] at hk
  simp only [op_Forms.l0]
  rw [if_pos z4, if_pos z4, if_pos z4, rdB_drop h, contains2 _ _ z4 z4, Option.bind_some, List.any_cons]
  cases ho : v.f0.any badType
  ·
   rw [if_neg z5, w64 z4 z4, Bool.false_or]
   exact ih k (i + 1) (dropL_tail h) z4
  ·
   rw [if_pos rfl, Bool.true_or, if_pos rfl]
theorem forms_eq (k : Nat) (f : List Tb) (hl : f.length ≤ 1000) (hk : f.length + 10 ≤ k) : op_Forms.f k f = some (formsE f) := by
 obtain ⟨k, rfl⟩ : ∃ j, k = j + 1 := ⟨k - 1, by omega⟩
 rw [formsE_eq]
 unfold op_Forms.f
 have hj : ∀ b : Bool, op_Forms.j0 (k + 1) f b = if b = true then some 2 else some (if f.any badLen = true then 2 else if (f.any fun t => t.f0.any badType) = true then 10 else 0) := fun b => by
  simp only [op_Forms.j0]
  cases b
  ·
   rw [if_neg z5, if_neg z5, contains1 _ _ z4 z4, Option.bind_some]
   cases hb : f.any badLen
   ·
    rw [if_neg z5, if_neg z5]
    exact forms_l0 f z4 hb f k 0 rfl z4
   ·
    rw [if_pos rfl, if_pos rfl]
  ·
   rfl
 rw [hj, hj]
 by_cases h1 : (f.length : Int) < 1
 ·
  rw [if_pos h1, if_pos rfl, if_pos z4]
 rw [if_neg h1]
 by_cases h2 : (f.length : Int) > 3
 ·
  rw [decide_eq_true h2, if_pos rfl, if_pos z4]
 rw [decide_eq_false h2, if_neg z5, if_neg (show ¬ (f.length < 1 ∨ f.length > 3) by omega)]
end Go.Proofs.Ytjnjfogfpmeacaa.Ops
end
section
namespace Go.Proofs.Ytjnjfogfpmeacaa.Ops
open Go.RowKit PAll Plain PrintWords PrintMore ZipT PrintWords.Kd PrintMore.Kd
set_option linter.unusedVariables false
set_option linter.unusedSimpArgs false
def keyB (t : ByteArray) : Bool := decide (1 ≤ t.size ∧ t.size ≤ 12)
theorem key_eq (t : ByteArray) : op_Key.f t = some (keyB t) := by
 unfold op_Key.f keyB
 by_cases h : (t.size : Int) ≥ 1
 ·
  rw [if_pos h]; congr 1; rw [decide_eq_decide]; omega
 rw [if_neg h, decide_eq_false z4]
def badSeq (c : Int) : Bool := decide (c < 0 ∨ c > 1073741824)
def vecE (l : List Int) : Int := if l.length < 1 ∨ l.length > 5 then 2 else if l.any badSeq = true then 1 else 0
theorem seq_eq (c : Int) : dot_Check_1.f c = some (badSeq c) := by
 unfold dot_Check_1.f badSeq
 by_cases h : c < 0
 ·
  rw [if_pos h, decide_eq_true (.inl h)]
 rw [if_neg h]; congr 1; rw [decide_eq_decide]; omega
theorem index_seq (l : List Int) (hl : l.length ≤ 1000000) (m : List Int) : ∀ (k i : Nat), l.drop i = m → m.length < k →
  ∃ r, slices_IndexFunc_at_dot_Check_1.l0 k l (l.length : Int) (i : Int) = some r ∧ (r ≥ 0 ↔ m.any badSeq = true) := by
 induction m with
 | nil =>
  intro k i h hk
  obtain ⟨k, rfl⟩ : ∃ j, k = j + 1 := ⟨k - 1, by omega⟩
  have := dropL_end h
  refine ⟨-1, ?_, by simp⟩
  simp only [slices_IndexFunc_at_dot_Check_1.l0]
  rw [if_neg z4]
 | cons v m ih =>
  intro k i h hk
  obtain ⟨k, rfl⟩ : ∃ j, k = j + 1 := ⟨k - 1, by omega⟩
  have hi := dropL_lt h
  simp only [slices_IndexFunc_at_dot_Check_1.l0]
  rw [if_pos z4, if_pos z4, if_pos z4, rd_drop h, seq_eq, Option.bind_some]
  cases ho : badSeq v
  ·
   obtain ⟨r, h1, h2⟩ := ih k (i + 1) (dropL_tail h) (by simp at hk; omega)
   refine ⟨r, ?_, ?_⟩
   ·
    rw [if_neg z5, w64 z4 z4]; exact h1
   ·
    rw [h2, List.any_cons, ho, Bool.false_or]
  ·
   refine ⟨i, ?_, ?_⟩
   ·
    rw [if_pos rfl]
   ·
    rw [List.any_cons, ho, Bool.true_or]; simp
theorem contains_seq (k : Nat) (l : List Int) (hl : l.length ≤ 1000000) (hk : l.length < k) : slices_ContainsFunc_at_dot_Check_1.f k l () = some (l.any badSeq) := by
 obtain ⟨r, h1, h2⟩ := index_seq l hl l k 0 rfl hk
 unfold slices_ContainsFunc_at_dot_Check_1.f slices_IndexFunc_at_dot_Check_1.f
 rw [show ((0 : Nat) : Int) = 0 from rfl] at h1
 rw [h1, Option.bind_some]
 congr 1
 cases hz : l.any badSeq
 ·
  rw [hz] at h2; exact decide_eq_false (fun h => by simpa using h2.1 h)
 ·
  rw [hz] at h2; exact decide_eq_true (h2.2 rfl)
theorem vec_eq (k : Nat) (l : List Int) (hl : l.length ≤ 1000000) (hk : l.length + 2 ≤ k) : dot_Check.f k l = some (vecE l) := by
 obtain ⟨k, rfl⟩ : ∃ j, k = j + 1 := ⟨k - 1, by omega⟩
 unfold dot_Check.f vecE
 have hj : ∀ b : Bool, dot_Check.j0 (k + 1) l b = if b = true then some 2 else some (if l.any badSeq = true then 1 else 0) := fun b => by
  simp only [dot_Check.j0]
  cases b
  ·
   rw [if_neg z5, if_neg z5, contains_seq _ _ z4 z4, Option.bind_some]
   cases l.any badSeq <;> rfl
  ·
   rfl
 rw [hj, hj]
 by_cases h1 : (l.length : Int) < 1
 ·
  rw [if_pos h1, if_pos rfl, if_pos z4]
 rw [if_neg h1]
 by_cases h2 : (l.length : Int) > 5
 ·
  rw [decide_eq_true h2, if_pos rfl, if_pos z4]
 rw [decide_eq_false h2, if_neg z5, if_neg (show ¬ (l.length < 1 ∨ l.length > 5) by omega)]
def stampOk (t : St) : Prop := ((0 ≤ t.f0 ∧ t.f0 ≤ 1099511627776) ∧ (0 ≤ t.f1 ∧ t.f1 ≤ 65536)) ∧ (0 ≤ t.f2 ∧ t.f2 ≤ 4)
instance (t : St) : Decidable (stampOk t) := by unfold stampOk; infer_instance
theorem hin_eq (a b : Int) : hlc_in.f a b = some (decide (0 ≤ a ∧ a ≤ b)) := by
 unfold hlc_in.f
 by_cases h : a ≥ 0
 ·
  rw [if_pos h]; congr 1; rw [decide_eq_decide]; omega
 rw [if_neg h, decide_eq_false z4]
theorem hlc_eq (t : St) : hlc_Check.f t.f0 t.f1 t.f2 = some (if stampOk t then 0 else 1) := by
 unfold hlc_Check.f stampOk
 simp only [hin_eq, Option.bind_some, decide_eq_true_eq]
 by_cases h1 : 0 ≤ t.f0 ∧ t.f0 ≤ 1099511627776 <;> by_cases h2 : 0 ≤ t.f1 ∧ t.f1 ≤ 65536 <;> by_cases h3 : 0 ≤ t.f2 ∧ t.f2 ≤ 4 <;> simp only [h1, h2, h3, if_true, if_false, and_true, and_false, and_self, true_and, false_and]
def hasB (v : List Int) (d : Dt) : Bool := decide ((0 ≤ d.f0 ∧ d.f0 < v.length) ∧ 1 ≤ d.f1 ∧ d.f1 ≤ rd v d.f0)
theorem has_eq (v : List Int) (d : Dt) : dot_Has.f v d.f0 d.f1 = some (hasB v d) := by
 have hin : dot_in.f v d.f0 = some (decide (0 ≤ d.f0 ∧ d.f0 < (v.length : Int))) := by
  unfold dot_in.f
  by_cases h : d.f0 ≥ 0
  ·
   rw [if_pos h]; congr 1; rw [decide_eq_decide]; omega
  ·
   rw [if_neg h, decide_eq_false z4]
 unfold dot_Has.f hasB
 rw [hin, Option.bind_some]
 by_cases h : 0 ≤ d.f0 ∧ d.f0 < (v.length : Int)
 rotate_left
 ·
  rw [decide_eq_false h, if_neg z5, decide_eq_false (fun e => h e.1)]
 rw [decide_eq_true h, if_pos rfl, if_pos h.1, if_pos h.2]
 by_cases h1 : d.f1 ≥ 1
 ·
  rw [if_pos h1]; congr 1; rw [decide_eq_decide]; exact ⟨fun e => ⟨h, h1, e⟩, fun e => e.2.2⟩
 rw [if_neg h1, decide_eq_false (fun e => h1 e.2.1)]
def lessD (a b : Dt) : Bool := decide (a.f0 < b.f0 ∨ a.f0 = b.f0 ∧ a.f1 < b.f1)
theorem cmpi_eq (a b : Int) : cmp_Compare_int.f a b = some (if a < b then -1 else if a > b then 1 else 0) := by
 unfold cmp_Compare_int.f cmp_isNaN_int.f
 simp only [bne_self_eq_false, Option.bind_some]
 rw [if_neg z5, if_neg z5]
 split
 ·
  rfl
 ·
  split <;> rfl
theorem ori_eq (k : Nat) (a b : Int) (hk : 3 ≤ k) : cmp_Or_int.f k [a, b] = some (if a = 0 then b else a) := by
 obtain ⟨k, rfl⟩ : ∃ j, k = j + 3 := ⟨k - 3, by omega⟩
 have e1 : wrap64 ((0 : Int) + 1) = 1 := w64 z4 z4
 have e2 : wrap64 ((1 : Int) + 1) = 2 := w64 z4 z4
 have r0 : rd [a, b] 0 = a := rfl
 have r1 : rd [a, b] 1 = b := rfl
 unfold cmp_Or_int.f
 simp only [cmp_Or_int.l0, List.length_cons, List.length_nil]
 rw [if_pos z4, if_pos z4, if_pos z4, r0, e1]
 by_cases h : a = 0
 rotate_left
 ·
  rw [if_neg h, if_neg h]
 rw [if_pos h, if_pos h, if_pos z4, if_pos z4, if_pos z4, r1, e2]
 by_cases h2 : b = 0
 ·
  rw [if_pos h2, h2, if_neg z4]
 rw [if_neg h2]
theorem less_eq (k : Nat) (a b : Dt) (hk : 3 ≤ k) : dot_Less.f k a.f0 a.f1 b.f0 b.f1 = some (lessD a b) := by
 unfold dot_Less.f dot_Compare.f lessD
 rw [cmpi_eq, Option.bind_some, cmpi_eq, Option.bind_some, ori_eq _ _ _ hk, Option.bind_some, Option.bind_some]
 congr 1
 rw [decide_eq_decide]
 repeat' split
 all_goals omega
def hadG (v : List Int) : Option Dt → List Dt → Bool
 | _, [] => true
 | p, d :: m => hasB v d && (match p with | none => true | some q => lessD q d) && hadG v (some d) m
theorem hadG_cons (v : List Int) (p : Option Dt) (d : Dt) (m : List Dt) : hadG v p (d :: m) = (hasB v d && (match p with | none => true | some q => lessD q d) && hadG v (some d) m) := rfl
def ahead? (l : List Dt) (i : Nat) : Option Dt := if i = 0 then none else l[i - 1]?
theorem ahead_next {l : List Dt} {i : Nat} {d : Dt} {m : List Dt} (h : l.drop i = d :: m) : ahead? l (i + 1) = some d := by
 unfold ahead?
 rw [if_neg z4, Nat.add_sub_cancel]
 have : l[i]? = (l.drop i)[0]? := by rw [List.getElem?_drop]; simp
 rw [this, h]; rfl
theorem rdD_drop {l : List Dt} {i : Nat} {v : Dt} {m : List Dt} (h : l.drop i = v :: m) : rd_T25 l (i : Int) = v := by
 show l.getD ((i : Int).toNat) _ = v
 rw [Int.toNat_natCast, List.getD_eq_getElem?_getD]
 have : l[i]? = (l.drop i)[0]? := by rw [List.getElem?_drop]; simp
 rw [this, h]; rfl
theorem rdD_ahead {l : List Dt} {i : Nat} (h0 : 0 < i) (h : i ≤ l.length) : ahead? l i = some (rd_T25 l ((i : Int) - 1)) := by
 unfold ahead?
 rw [if_neg z4, List.getElem?_eq_getElem z4]
 congr 1
 show _ = l.getD (((i : Int) - 1).toNat) _
 rw [show ((i : Int) - 1).toNat = i - 1 by omega, List.getD_eq_getElem?_getD, List.getElem?_eq_getElem z4]; rfl
theorem had_l0 (v : List Int) (l : List Dt) (hl : l.length ≤ 1000000) (m : List Dt) : ∀ (k i : Nat), l.drop i = m → m.length + 5 < k → op_had.l0 k v l l (l.length : Int) (i : Int) = some (hadG v (ahead? l i) m) := by
 induction m with
 | nil =>
  intro k i h hk
  obtain ⟨k, rfl⟩ : ∃ j, k = j + 1 := ⟨k - 1, by omega⟩
  have := dropL_end h
  simp only [op_had.l0]
  rw [if_neg z4]; rfl
 | cons d m ih =>
  intro k i h hk
  obtain ⟨k, rfl⟩ : ∃ j, k = j + 1 := ⟨k - 1, by omega⟩
  have hi := dropL_lt h
  simp only [List.length_cons] at hk
  have hn := ih k (i + 1) (dropL_tail h) z4
  rw [ahead_next h] at hn
  have hw : wrap64 ((i : Int) + 1) = ((i + 1 : Nat) : Int) := by rw [w64 z4 z4]; rfl
  simp only [op_had.l0]
  rw [if_pos z4, if_pos z4, if_pos z4, rdD_drop h, has_eq, Option.bind_some, hw, hn]
  rw [hadG_cons]
  cases hb : hasB v d
  ·
   rw [if_neg z5]; simp
  rw [if_pos rfl, Bool.true_and]
  by_cases h0 : (i : Int) > 0
  rotate_left
  ·
   rw [if_neg h0]
   have : ahead? l i = none := by unfold ahead?; rw [if_pos z4]
   rw [this]; simp
  rw [if_pos h0, w64 z4 z4, if_pos z4, if_pos z4, less_eq _ _ _ z4, Option.bind_some, rdD_ahead z4 z4]
  simp only
  cases lessD (rd_T25 l ((i : Int) - 1)) d
  ·
   rw [if_neg z5]; simp
  ·
   rw [if_pos rfl, Bool.true_and]
theorem had_eq (k : Nat) (v : List Int) (l : List Dt) (hl : l.length ≤ 1000000) (hk : l.length + 6 ≤ k) : op_had.f k v l = some (hadG v none l) := had_l0 v l hl l k 0 rfl z4
def smallV (v : V) : Bool := decide (vSmall v.f0 v.f1 v.f2)
def smallB (l : List V) (c : List Int) : Bool := fitsL l c && l.all smallV
def bigV (v : V) : Bool := !smallV v
theorem big_eq (v : V) : op_small_1.f v.f0 v.f1 v.f2 = some (bigV v) := by
 unfold op_small_1.f bigV smallV
 rw [small_eq, Option.bind_some]
theorem index_big (l : List V) (hl : l.length ≤ 1000000) (m : List V) : ∀ (k i : Nat), l.drop i = m → m.length < k →
  ∃ r, slices_IndexFunc_at_op_small_1.l0 k l (l.length : Int) (i : Int) = some r ∧ (r ≥ 0 ↔ m.any bigV = true) := by
 induction m with
 | nil =>
  intro k i h hk
  obtain ⟨k, rfl⟩ : ∃ j, k = j + 1 := ⟨k - 1, by omega⟩
  have := dropL_end h
  refine ⟨-1, ?_, by simp⟩
  simp only [slices_IndexFunc_at_op_small_1.l0]
  rw [if_neg z4]
 | cons v m ih =>
  intro k i h hk
  obtain ⟨k, rfl⟩ : ∃ j, k = j + 1 := ⟨k - 1, by omega⟩
  have hi := dropL_lt h
  simp only [slices_IndexFunc_at_op_small_1.l0]
  rw [if_pos z4, if_pos z4, if_pos z4, rdT_drop h, big_eq, Option.bind_some]
  cases ho : bigV v
  ·
   obtain ⟨r, h1, h2⟩ := ih k (i + 1) (dropL_tail h) (by simp at hk; omega)
   refine ⟨r, ?_, ?_⟩
   ·
    rw [if_neg z5, w64 z4 z4]; exact h1
   ·
    rw [h2, List.any_cons, ho, Bool.false_or]
  ·
   refine ⟨i, ?_, ?_⟩
   ·
    rw [if_pos rfl]
   ·
    rw [List.any_cons, ho, Bool.true_or]; simp
theorem contains_big (k : Nat) (l : List V) (hl : l.length ≤ 1000000) (hk : l.length < k) : slices_ContainsFunc_at_op_small_1.f k l () = some (l.any bigV) := by
 obtain ⟨r, h1, h2⟩ := index_big l hl l k 0 rfl hk
 unfold slices_ContainsFunc_at_op_small_1.f slices_IndexFunc_at_op_small_1.f
 rw [show ((0 : Nat) : Int) = 0 from rfl] at h1
 rw [h1, Option.bind_some]
 congr 1
 cases hz : l.any bigV
 ·
  rw [hz] at h2; exact decide_eq_false (fun h => by simpa using h2.1 h)
 ·
  rw [hz] at h2; exact decide_eq_true (h2.2 rfl)
theorem smallL_eq (k : Nat) (l : List V) (c : List Int) (hl : l.length ≤ 1000000) (hk : l.length + 1 ≤ k) : op_small.f k l c = some (smallB l c) := by
 unfold op_small.f smallB
 rw [rowFits_eq _ _ _ hl hk, Option.bind_some]
 cases fitsL l c
 ·
  rfl
 ·
  rw [if_pos rfl, contains_big _ _ hl hk, Option.bind_some, Bool.true_and]
  congr 1
  have : ∀ l : List V, (!l.any bigV) = l.all smallV := fun l => by
   induction l with
   | nil => rfl
   | cons v l ih => rw [List.any_cons, List.all_cons, Bool.not_or, ih]; unfold bigV; rw [Bool.not_not]
  exact this l
def wholeP (n : Int) (x : Ox) : Prop := (0 ≤ x.f0.f0 ∧ x.f0.f0 < n) ∧ (1 ≤ x.f0.f1 ∧ x.f0.f1 ≤ 1073741824) ∧ (x.f1.length : Int) = n ∧ vecE x.f1 = 0 ∧ rd x.f1 x.f0.f0 = x.f0.f1 - 1 ∧ stampOk x.f2 ∧ x.f2.f2 = x.f0.f0
instance (n : Int) (x : Ox) : Decidable (wholeP n x) := by unfold wholeP; infer_instance
theorem whole_eq (k : Nat) (n : Int) (x : Ox) (hl : x.f1.length ≤ 1000000) (hk : x.f1.length + 2 ≤ k) : op_whole.f k n x.f0.f0 x.f0.f1 x.f1 x.f2.f0 x.f2.f1 x.f2.f2 x.f3 x.f4 x.f5 x.f6 x.f7 x.f8 = some (decide (wholeP n x)) := by
 unfold op_whole.f
 by_cases h1 : x.f0.f0 ≥ 0
 rotate_left
 ·
  rw [if_neg h1, decide_eq_false (fun e => h1 e.1.1)]
 rw [if_pos h1]
 by_cases h2 : x.f0.f0 < n
 rotate_left
 ·
  rw [if_neg h2, decide_eq_false (fun e => h2 e.1.2)]
 rw [if_pos h2]
 by_cases h3 : x.f0.f1 ≥ 1
 rotate_left
 ·
  rw [if_neg h3, decide_eq_false (fun e => h3 e.2.1.1)]
 rw [if_pos h3]
 by_cases h4 : x.f0.f1 ≤ 1073741824
 rotate_left
 ·
  rw [if_neg h4, decide_eq_false (fun e => h4 e.2.1.2)]
 rw [if_pos h4]
 by_cases h5 : (x.f1.length : Int) = n
 rotate_left
 ·
  rw [if_neg h5, decide_eq_false (fun e => h5 e.2.2.1)]
 rw [if_pos h5, vec_eq _ _ hl hk, Option.bind_some]
 by_cases h6 : vecE x.f1 = 0
 rotate_left
 ·
  rw [if_neg h6, decide_eq_false (fun e => h6 e.2.2.2.1)]
 rw [if_pos h6, if_pos h1, if_pos z4, w64 z4 z4]
 by_cases h7 : rd x.f1 x.f0.f0 = x.f0.f1 - 1
 rotate_left
 ·
  rw [if_neg h7, decide_eq_false (fun e => h7 e.2.2.2.2.1)]
 rw [if_pos h7, hlc_eq, Option.bind_some]
 by_cases h8 : stampOk x.f2
 rotate_left
 ·
  rw [if_neg h8, if_neg z5, decide_eq_false (fun e => h8 e.2.2.2.2.2.1)]
 rw [if_pos h8, if_pos rfl]
 congr 1
 by_cases h9 : x.f2.f2 = x.f0.f0
 ·
  rw [decide_eq_true (show wholeP n x from ⟨⟨h1, h2⟩, ⟨h3, h4⟩, h5, h6, h7, h8, h9⟩)]; exact beq_iff_eq.2 h9
 rw [decide_eq_false (fun e => h9 e.2.2.2.2.2.2)]; exact beq_eq_false_iff_ne.2 h9
def colsOf (f : List Tb) (x : Ox) : List Int := (rd_T51 f x.f4).f0
def kindB (c : List Int) (x : Ox) : Bool :=
 if x.f3 = 1 then smallB x.f7 c && decide (x.f6 = 0) && decide (x.f8.length = 0)
 else if x.f3 = 2 then decide (0 ≤ x.f6 ∧ x.f6 < c.length) && smallB x.f7 [rd c x.f6] && decide (x.f8.length = 0)
 else if x.f3 = 3 then decide (1 ≤ x.f8.length ∧ x.f8.length ≤ 64) && hadG x.f1 none x.f8 && decide (x.f6 = 0) && decide (x.f7.length = 0)
 else false
def rightB (n : Int) (f : List Tb) (x : Ox) : Bool := decide (wholeP n x) && decide (0 ≤ x.f4 ∧ x.f4 < f.length) && keyB x.f5 && kindB (colsOf f x) x
theorem cut1 (c : List Int) (i : Int) (h0 : 0 ≤ i) (h1 : i < c.length) : (c.take (i + 1).toNat).drop i.toNat = [rd c i] := by
 obtain ⟨j, rfl⟩ := Int.eq_ofNat_of_zero_le h0
 rw [show ((j : Int) + 1).toNat = j + 1 by omega, Int.toNat_natCast]
 have hj : j < c.length := by omega
 have hr : rd c (j : Int) = c[j] := by
  show c.getD (j : Int).toNat 0 = _
  rw [Int.toNat_natCast, List.getD_eq_getElem?_getD, List.getElem?_eq_getElem hj]; rfl
 rw [hr, List.take_add_one, List.getElem?_eq_getElem hj, List.drop_append, List.drop_eq_nil_iff.2 (by rw [List.length_take]; omega)]
 rw [List.length_take, Nat.min_eq_left z4, Nat.sub_self]; rfl
theorem right_eq (k : Nat) (n : Int) (f : List Tb) (x : Ox) (hx : x.f1.length ≤ 1000 ∧ x.f7.length ≤ 1000 ∧ x.f8.length ≤ 1000) (hf : f.length ≤ 1000 ∧ ∀ t ∈ f, t.f0.length ≤ 1000) (hk : 1100 ≤ k) :
  op_right.f k n f x.f0.f0 x.f0.f1 x.f1 x.f2.f0 x.f2.f1 x.f2.f2 x.f3 x.f4 x.f5 x.f6 x.f7 x.f8 = some (rightB n f x) := by
 obtain ⟨k, rfl⟩ : ∃ j, k = j + 1 := ⟨k - 1, by omega⟩
 unfold op_right.f rightB
 rw [whole_eq _ _ _ z4 z4, Option.bind_some]
 have hT : op_right.j0 (k + 1) f true x.f0.f0 x.f0.f1 x.f1 x.f2.f0 x.f2.f1 x.f2.f2 x.f3 x.f4 x.f5 x.f6 x.f7 x.f8 = some false := by simp only [op_right.j0, if_true]
 by_cases h1 : wholeP n x
 rotate_left
 ·
  rw [decide_eq_false h1, if_neg z5, hT]; rfl
 rw [decide_eq_true h1, if_pos rfl, Bool.true_and]
 by_cases h2 : x.f4 < 0
 ·
  rw [if_pos h2, hT, decide_eq_false (show ¬ (0 ≤ x.f4 ∧ x.f4 < (f.length : Int)) by omega)]; rfl
 rw [if_neg h2]
 by_cases h3 : x.f4 ≥ (f.length : Int)
 ·
  rw [if_pos h3, hT, decide_eq_false (show ¬ (0 ≤ x.f4 ∧ x.f4 < (f.length : Int)) by omega)]; rfl
 rw [if_neg h3, key_eq, Option.bind_some, decide_eq_true (show 0 ≤ x.f4 ∧ x.f4 < (f.length : Int) by omega), Bool.true_and]
 cases hkb : keyB x.f5
 ·
  exact hT
 rw [Bool.true_and]
 have hc : (colsOf f x).length ≤ 1000 := by
  unfold colsOf
  obtain ⟨i, hi⟩ := Int.eq_ofNat_of_zero_le (show 0 ≤ x.f4 by omega)
  rw [hi]
  show (f.getD ((i : Int).toNat) _).f0.length ≤ _
  rw [Int.toNat_natCast, List.getD_eq_getElem?_getD, List.getElem?_eq_getElem (show i < f.length by omega)]
  exact hf.2 _ (List.getElem_mem _)
 simp only [op_right.j0, Bool.not_true]
 rw [if_neg z5, if_pos (show 0 ≤ x.f4 by omega), if_pos (show x.f4 < (f.length : Int) by omega)]
 show (if x.f3 = 1 then _ else _) = _
 unfold kindB
 rw [show (rd_T51 f x.f4).f0 = colsOf f x from rfl]
 generalize colsOf f x = c at hc ⊢
 have e0 : ∀ n : Nat, ((n : Int) == 0) = decide (n = 0) := fun n => by cases n <;> simp; omega
 by_cases k1 : x.f3 = 1
 ·
  rw [if_pos k1, if_pos k1, smallL_eq _ _ _ z4 z4, Option.bind_some]
  cases smallB x.f7 c
  ·
   rfl
  rw [if_pos rfl, Bool.true_and, e0]
  by_cases h : x.f6 = 0
  ·
   rw [if_pos h, decide_eq_true h, Bool.true_and]
  rw [if_neg h, decide_eq_false h]; rfl
 rw [if_neg k1, if_neg k1]
 by_cases k2 : x.f3 = 2
 ·
  rw [if_pos k2, if_pos k2]
  by_cases h4 : x.f6 ≥ 0
  rotate_left
  ·
   rw [if_neg h4, decide_eq_false (show ¬ (0 ≤ x.f6 ∧ x.f6 < (c.length : Int)) by omega)]; rfl
  rw [if_pos h4]
  by_cases h5 : x.f6 < (c.length : Int)
  rotate_left
  ·
   rw [if_neg h5, decide_eq_false (show ¬ (0 ≤ x.f6 ∧ x.f6 < (c.length : Int)) by omega)]; rfl
  rw [if_pos h5, if_pos h4, w64 z4 z4, if_pos z4, if_pos z4, cut1 c _ h4 h5, smallL_eq _ _ _ z4 z4, Option.bind_some, decide_eq_true (show 0 ≤ x.f6 ∧ x.f6 < (c.length : Int) from ⟨h4, h5⟩), Bool.true_and, e0]
  cases smallB x.f7 [rd c x.f6]
  ·
   rfl
  ·
   rfl
 rw [if_neg k2, if_neg k2]
 by_cases k3 : x.f3 = 3
 ·
  rw [if_pos k3, if_pos k3]
  by_cases h4 : (x.f8.length : Int) ≥ 1
  rotate_left
  ·
   rw [if_neg h4, decide_eq_false (show ¬ (1 ≤ x.f8.length ∧ x.f8.length ≤ 64) by omega)]; rfl
  rw [if_pos h4]
  by_cases h5 : (x.f8.length : Int) ≤ 64
  rotate_left
  ·
   rw [if_neg h5, decide_eq_false (show ¬ (1 ≤ x.f8.length ∧ x.f8.length ≤ 64) by omega)]; rfl
  rw [if_pos h5, had_eq _ _ _ z4 z4, Option.bind_some, decide_eq_true (show 1 ≤ x.f8.length ∧ x.f8.length ≤ 64 by omega), Bool.true_and, e0]
  cases hadG x.f1 none x.f8
  ·
   rfl
  rw [if_pos rfl, Bool.true_and]
  by_cases h : x.f6 = 0
  ·
   rw [if_pos h, decide_eq_true h, Bool.true_and]
  rw [if_neg h, decide_eq_false h]; rfl
 rw [if_neg k3, if_neg k3]
def checkE (n : Int) (f : List Tb) (x : Ox) : Int := if formsE f ≠ 0 then formsE f else if n < 1 ∨ n > 5 then 1 else if rightB n f x = true then 0 else 1
theorem check_op_eq (k : Nat) (n : Int) (f : List Tb) (x : Ox) (hx : x.f1.length ≤ 1000 ∧ x.f7.length ≤ 1000 ∧ x.f8.length ≤ 1000) (hf : f.length ≤ 1000 ∧ ∀ t ∈ f, t.f0.length ≤ 1000) (hk : 1100 ≤ k) :
  op_Check.f k n f x.f0.f0 x.f0.f1 x.f1 x.f2.f0 x.f2.f1 x.f2.f2 x.f3 x.f4 x.f5 x.f6 x.f7 x.f8 = some (checkE n f x) := by
 unfold op_Check.f checkE
 rw [forms_eq _ _ hf.1 z4, Option.bind_some]
 by_cases h0 : formsE f = 0
 rotate_left
 ·
  rw [if_neg h0, if_pos (show formsE f ≠ 0 from h0)]
 rw [if_pos h0, if_neg (show ¬ formsE f ≠ 0 from fun e => e h0)]
 by_cases h1 : n < 1
 ·
  rw [if_pos h1, if_pos (.inl h1)]
 rw [if_neg h1]
 by_cases h2 : n > 5
 ·
  rw [if_pos h2, if_pos (.inr h2)]
 rw [if_neg h2, if_neg z4, right_eq _ _ _ _ hx hf hk, Option.bind_some]
 cases rightB n f x <;> rfl
end Go.Proofs.Ytjnjfogfpmeacaa.Ops
end
section
namespace Go.Proofs.Ytjnjfogfpmeacaa.Ops
open Go.RowKit PAll Plain PrintWords PrintMore ZipT PrintWords.Kd PrintMore.Kd
set_option linter.unusedVariables false
set_option linter.unusedSimpArgs false
instance : DecidableEq Dt := fun a b => decidable_of_iff (a.f0 = b.f0 ∧ a.f1 = b.f1) ⟨fun ⟨h0, h1⟩ => by cases a; cases b; simp_all, fun h => by subst h; exact ⟨rfl, rfl⟩⟩
instance : DecidableEq St := fun a b => decidable_of_iff (a.f0 = b.f0 ∧ a.f1 = b.f1 ∧ a.f2 = b.f2) ⟨fun ⟨h0, h1, h2⟩ => by cases a; cases b; simp_all, fun h => by subst h; exact ⟨rfl, rfl, rfl⟩⟩
instance : DecidableEq Ox := fun a b => decidable_of_iff (a.f0 = b.f0 ∧ a.f1 = b.f1 ∧ a.f2 = b.f2 ∧ a.f3 = b.f3 ∧ a.f4 = b.f4 ∧ a.f5 = b.f5 ∧ a.f6 = b.f6 ∧ a.f7 = b.f7 ∧ a.f8 = b.f8) ⟨fun ⟨h0, h1, h2, h3, h4, h5, h6, h7, h8⟩ => by cases a; cases b; simp_all, fun h => by subst h; exact ⟨rfl, rfl, rfl, rfl, rfl, rfl, rfl, rfl, rfl⟩⟩
theorem keepDot_eq (a b : Dt) : raddlekeep_Dot.f a.f0 a.f1 b.f0 b.f1 = some (decide (a = b)) := by
 obtain ⟨a0, a1⟩ := a
 obtain ⟨b0, b1⟩ := b
 unfold raddlekeep_Dot.f
 simp only
 by_cases h : a0 = b0
 rotate_left
 ·
  rw [if_neg h, decide_eq_false (fun e => h (by injection e))]
 rw [if_pos h]; subst h
 by_cases h1 : a1 = b1
 ·
  subst h1; rw [decide_eq_true rfl, beq_self_eq_true]
 rw [decide_eq_false (fun e => h1 (by injection e)), beq_eq_false_iff_ne.2 h1]
theorem keepStamp_eq (a b : St) : raddlekeep_Stamp.f a.f0 a.f1 a.f2 b.f0 b.f1 b.f2 = some (decide (a = b)) := by
 obtain ⟨a0, a1, a2⟩ := a
 obtain ⟨b0, b1, b2⟩ := b
 unfold raddlekeep_Stamp.f
 simp only
 by_cases h : a0 = b0
 rotate_left
 ·
  rw [if_neg h, decide_eq_false (fun e => h (by injection e))]
 rw [if_pos h]; subst h
 by_cases h1 : a1 = b1
 rotate_left
 ·
  rw [if_neg h1, decide_eq_false (fun e => h1 (by injection e))]
 rw [if_pos h1]; subst h1
 by_cases h2 : a2 = b2
 ·
  subst h2; rw [decide_eq_true rfl, beq_self_eq_true]
 rw [decide_eq_false (fun e => h2 (by injection e)), beq_eq_false_iff_ne.2 h2]
theorem keepDots_l0 (a b : List Dt) (ha : a.length ≤ 1000000) (hl : a.length = b.length) (m : List Dt) : ∀ (k i : Nat), a.drop i = m → m.length < k →
  raddlekeep_Dots.l0 k a b (i : Int) = some (decide (m = b.drop i)) := by
 induction m with
 | nil =>
  intro k i h hk
  obtain ⟨k, rfl⟩ : ∃ j, k = j + 1 := ⟨k - 1, by omega⟩
  have h1 := dropL_end h
  simp only [raddlekeep_Dots.l0]
  rw [if_neg z4, List.drop_eq_nil_iff.2 z4]; simp
 | cons v m ih =>
  intro k i h hk
  obtain ⟨k, rfl⟩ : ∃ j, k = j + 1 := ⟨k - 1, by omega⟩
  have h1 := dropL_lt h
  simp only [raddlekeep_Dots.l0]
  cases hd : b.drop i with
  | nil => have h2 := dropL_end hd; omega
  | cons t n =>
   rw [if_pos z4, if_pos z4, if_pos z4, rdD_drop h, rdD_drop hd, keepDot_eq, Option.bind_some, w64 z4 z4]
   by_cases hz : v = t
   rotate_left
   ·
    rw [decide_eq_false hz, if_neg z5]
    simp [hz]
   have := ih k (i + 1) (dropL_tail h) (by simp at hk; omega)
   rw [decide_eq_true hz, if_pos rfl, show ((i : Int) + 1) = ((i + 1 : Nat) : Int) from rfl, this, dropL_tail hd, hz]
   simp
theorem keepDots_eq (k : Nat) (a b : List Dt) (ha : a.length ≤ 1000000) (hk : a.length + 1 ≤ k) : raddlekeep_Dots.f k a b = some (decide (a = b)) := by
 unfold raddlekeep_Dots.f
 by_cases hl : (a.length : Int) = b.length
 rotate_left
 ·
  rw [if_neg hl, decide_eq_false (fun e => hl (by rw [e]))]
 rw [if_pos hl]
 exact keepDots_l0 a b ha z4 a k 0 rfl z4
theorem keepOp_eq (k : Nat) (x y : Ox) (h1 : x.f1.length ≤ 1000000) (h7 : x.f7.length ≤ 1000000) (h8 : x.f8.length ≤ 1000000) (hk : x.f1.length + 1 ≤ k ∧ x.f7.length + 1 ≤ k ∧ x.f8.length + 1 ≤ k) :
  raddlekeep_Op.f k x.f0.f0 x.f0.f1 x.f1 x.f2.f0 x.f2.f1 x.f2.f2 x.f3 x.f4 x.f5 x.f6 x.f7 x.f8 y.f0.f0 y.f0.f1 y.f1 y.f2.f0 y.f2.f1 y.f2.f2 y.f3 y.f4 y.f5 y.f6 y.f7 y.f8 = some (decide (x = y)) := by
 unfold raddlekeep_Op.f
 rw [keepDot_eq, Option.bind_some]
 by_cases e0 : x.f0 = y.f0
 rotate_left
 ·
  rw [decide_eq_false e0, if_neg z5, decide_eq_false (fun e => e0 (by rw [e]))]
 rw [decide_eq_true e0, if_pos rfl, keepInts_eq _ _ _ h1 hk.1, Option.bind_some]
 by_cases e1 : x.f1 = y.f1
 rotate_left
 ·
  rw [decide_eq_false e1, if_neg z5, decide_eq_false (fun e => e1 (by rw [e]))]
 rw [decide_eq_true e1, if_pos rfl, keepStamp_eq, Option.bind_some]
 by_cases e2 : x.f2 = y.f2
 rotate_left
 ·
  rw [decide_eq_false e2, if_neg z5, decide_eq_false (fun e => e2 (by rw [e]))]
 rw [decide_eq_true e2, if_pos rfl]
 by_cases e3 : x.f3 = y.f3
 rotate_left
 ·
  rw [if_neg e3, decide_eq_false (fun e => e3 (by rw [e]))]
 rw [if_pos e3]
 by_cases e4 : x.f4 = y.f4
 rotate_left
 ·
  rw [if_neg e4, decide_eq_false (fun e => e4 (by rw [e]))]
 rw [if_pos e4]
 by_cases e5 : x.f5 = y.f5
 rotate_left
 ·
  rw [if_neg (fun e => e5 (toList_inj.1 e)), decide_eq_false (fun e => e5 (by rw [e]))]
 rw [if_pos (toList_inj.2 e5)]
 by_cases e6 : x.f6 = y.f6
 rotate_left
 ·
  rw [if_neg e6, decide_eq_false (fun e => e6 (by rw [e]))]
 rw [if_pos e6, keepRow_eq _ _ _ h7 hk.2.1, Option.bind_some]
 by_cases e7 : x.f7 = y.f7
 rotate_left
 ·
  rw [decide_eq_false e7, if_neg z5, decide_eq_false (fun e => e7 (by rw [e]))]
 rw [decide_eq_true e7, if_pos rfl, keepDots_eq _ _ _ h8 hk.2.2, Option.bind_some]
 by_cases e8 : x.f8 = y.f8
 rotate_left
 ·
  rw [decide_eq_false e8, decide_eq_false (fun e => e8 (by rw [e]))]
 rw [decide_eq_true e8, decide_eq_true]
 cases x; cases y; simp_all
theorem bytes_f (x : Ox) (h : opSmall x) : op_Bytes.f x.f0.f0 x.f0.f1 x.f1 x.f2.f0 x.f2.f1 x.f2.f2 x.f3 x.f4 x.f5 x.f6 x.f7 x.f8 = some (sOpBytes x) := by
 unfold op_Bytes.f
 rw [if_pos h]
theorem read_f (l : List Int) (a : Int) (hb : Bytes l) (hl : l.length ≤ 1000000) : op_Read.f l a = some ((sOpRead l a).1.f0.f0, (sOpRead l a).1.f0.f1, (sOpRead l a).1.f1, (sOpRead l a).1.f2.f0, (sOpRead l a).1.f2.f1, (sOpRead l a).1.f2.f2, (sOpRead l a).1.f3, (sOpRead l a).1.f4, (sOpRead l a).1.f5, (sOpRead l a).1.f6, (sOpRead l a).1.f7, (sOpRead l a).1.f8, (sOpRead l a).2.1, (sOpRead l a).2.2) := by
 unfold op_Read.f
 rw [if_pos ⟨hb, hl⟩]
theorem opFit_small {x : Ox} (h : opFit x) : opSmall x := by
 have h1 := h.1.1.1.1.1.1.2.1
 have h7 := ((rowE_zero x.f7).1 h.1.2).1
 have h8 := h.2.1
 exact ⟨by omega, by omega, by omega⟩
theorem encT_bytes (t : ByteArray) (h : t.size ≤ 24) : Bytes (encT t) := Bytes.cons ⟨by omega, by omega⟩ (bytesOf_bytes t)
theorem flat_bytes {α : Type} {f : α → List Int} (h : ∀ x, Bytes (f x)) : ∀ l : List α, Bytes (l.flatMap f)
 | [] => Bytes.nil
 | x :: l => by rw [List.flatMap_cons]; exact (h x).append (flat_bytes h l)
theorem opB_bytes {x : Ox} (h : opFit x) : Bytes (opB x) := by
 have hd : ∀ d : Dt, Bytes (dotB d) := fun d => (big_bytes _ _).append (big_bytes _ _)
 unfold opB numsB stampB dotsB
 exact ((((((((big_bytes _ _).append (hd _)).append ((big_bytes _ _).append (flat_bytes (fun n => big_bytes _ _) _))).append (((big_bytes _ _).append (big_bytes _ _)).append (big_bytes _ _))).append (big_bytes _ _)).append (encT_bytes _ h.1.1.1.2)).append (big_bytes _ _)).append (rowB_bytes h.1.2)).append ((big_bytes _ _).append (flat_bytes hd _))
theorem read_back {x : Ox} (h : opFit x) : sOpRead (opB x) 0 = (x, ((opB x).length : Int), 0) := by
 have := opRead_put [] [] x h
 simpa using this
def wakeOp : Ox := ⟨⟨0, 2⟩, [1], ⟨0, 0, 0⟩, 3, 0, ⟨#[107]⟩, 0, [], [⟨0, 1⟩]⟩
theorem wake_fit : opFit wakeOp := by decide
end Go.Proofs.Ytjnjfogfpmeacaa.Ops
end
section
namespace Go.Proofs.Ytjnjfogfpmeacaa.PAll
open Go.RowKit PAll Ops Plain PrintWords PrintLast PrintMore Go.Proofs.Ytjnjfogfpmeacaa.Sep ZipT PrintWords.Kd PrintMore.Kd
set_option linter.unusedVariables false
set_option linter.unusedSimpArgs false
theorem sp_lit1 {α : Type} {d : Kd α} {e : Nat} {p : α} {cs : List Value} {w : World} {F : List Part} (h : Sp w (El d p cs :: F)) (hs : 0 < d.sz) : Sp (w.alloc (.cells cs.toArray e (0, 0))) (Row d e (.slice (some ⟨w.heap.size, 0, none⟩) 1 1) [p] :: F) := by
 obtain ⟨ok, h1, h2, h3⟩ := h.head1
 have hl : cs.length = d.sz := d.K_len (d.K_of_M h2)
 have hz : cs.length = 1 * d.sz := by rw [Nat.one_mul]; exact hl
 refine h3 _ _ ((Moved.refl w ok).alloc _) ⟨fun k hk => ?_, cs, ⟨hz, .inr ⟨w.heap.size, 1, cs.toArray, rfl, Nat.zero_le _, blk_new w _, Nat.le_refl _, by simp only [maxLen]; omega, by rw [List.size_toArray]; exact hz, by show cs.take (1 * d.sz) = cs; rw [← hz, List.take_length]⟩⟩, ?_⟩
 ·
  have hk : w.heap.size = k := Option.some.inj hk
  subst hk
  exact .inr ⟨Nat.le_refl _, by rw [show (w.alloc (.cells cs.toArray e (0, 0))).heap.size = w.heap.size + 1 from Array.size_push _]; omega⟩
 ·
  have hM : d.M (w.alloc (.cells cs.toArray e (0, 0))) 0 (fun k => (ok k ∨ w.heap.size ≤ k ∧ k < (w.alloc (.cells cs.toArray e (0, 0))).heap.size) ∧ some k ≠ (Value.slice (some ⟨w.heap.size, 0, none⟩) 1 1).ownBlock) p cs :=
   d.M_mono (fun k hk => ⟨.inl hk.1, fun e => by have := hk.2; have he : k = w.heap.size := Option.some.inj e; omega⟩) (Kd.M_step (ok := fun k => ok k ∧ k < w.heap.size) (d.M_mono (fun k hk => ⟨hk, h1 k hk⟩) h2) (fun k hk hlt => (Moved.alloc (Moved.refl w (fun _ => False)) _).block k hlt (fun e => e)))
  have := Reps.snoc (Reps.none _ d.sz) hM hl
  simpa using this
def raddlelaw07_wakes.f : Option Bool := some true
theorem wakes7_eq : raddlelaw07_wakes.f = some true := rfl
theorem raddlelaw07_wakes.calls (r : Bool) (w : World) (h : raddlelaw07_wakes.f = some r) :
  Calls Try.prog 15 #[] w fun e w' => e = .returned (.bool r) ∧ Below w.heap.size w w' := by
 obtain rfl : true = r := Option.some.inj h
 clear h
 have h1 := sp_lit1 (e := 3) (sp_el (d := Kd.int .i64) (p := 1) (cs := [.int .i64 1]) (fun _ _ => rfl) (Sp.start w)) z5
 have h2 := sp_lit1 (e := 25) (sp_el (d := k25) (p := ⟨0, 1⟩) (cs := [.int .i64 0, .int .i64 1]) (fun W ok => k25_mkM W 0 ok ⟨0, 1⟩) h1) z5
 have h3 := h2.box (.cells #[.int .i64 0, .int .i64 0, .slice none 0 0, .int .i64 0, .int .i64 0, .int .i64 0, .int .i64 0, .int .i64 0, .string ⟨#[]⟩, .int .i64 0, .slice none 0 0, .slice none 0 0] 32 (0, 0))
 have e1 : (w.alloc (.cells #[.int .i64 1] 3 (0, 0))).heap.size = w.heap.size + 1 := Array.size_push _
 have e2 : ((w.alloc (.cells #[.int .i64 1] 3 (0, 0))).alloc (.cells #[.int .i64 0, .int .i64 1] 25 (0, 0))).heap.size = w.heap.size + 1 + 1 := by rw [show ((w.alloc (.cells #[.int .i64 1] 3 (0, 0))).alloc (.cells #[.int .i64 0, .int .i64 1] 25 (0, 0))).heap.size = (w.alloc (.cells #[.int .i64 1] 3 (0, 0))).heap.size + 1 from Array.size_push _, e1]
 replace h3 : Sp (((w.alloc (.cells #[.int .i64 1] 3 (0, 0))).alloc (.cells #[.int .i64 0, .int .i64 1] 25 (0, 0))).alloc (.cells #[.int .i64 0, .int .i64 0, .slice none 0 0, .int .i64 0, .int .i64 0, .int .i64 0, .int .i64 0, .int .i64 0, .string ⟨#[]⟩, .int .i64 0, .slice none 0 0, .slice none 0 0] 32 (0, 0))) [Blk (w.heap.size + 1 + 1) (.cells #[.int .i64 0, .int .i64 0, .slice none 0 0, .int .i64 0, .int .i64 0, .int .i64 0, .int .i64 0, .int .i64 0, .string ⟨#[]⟩, .int .i64 0, .slice none 0 0, .slice none 0 0] 32 (0, 0)), Row k25 25 (.slice (some ⟨w.heap.size + 1, 0, none⟩) 1 1) [⟨0, 1⟩], Row (Kd.int .i64) 3 (.slice (some ⟨w.heap.size, 0, none⟩) 1 1) [1], Old w] := by
  rw [← e2, ← e1]; exact h3
 have h4 := sp_storeRow h3 #[.int .i64 0, .int .i64 2, .slice (some ⟨w.heap.size, 0, none⟩) 1 1, .int .i64 0, .int .i64 0, .int .i64 0, .int .i64 3, .int .i64 0, .string ⟨#[107]⟩, .int .i64 0, .slice none 0 0, .slice (some ⟨w.heap.size + 1, 0, none⟩) 1 1]
 have HX := mk_ h4
 obtain ⟨b, hb⟩ : ∃ b, opB wakeOp = b := ⟨_, rfl⟩
 have hl := (opB_len _ wake_fit).2
 have hbb := opB_bytes wake_fit
 have hrb := read_back wake_fit
 have hQ : ∀ W : World, Kd.C (Kd.int .i64) W (some ⟨w.heap.size, 0, none⟩) 1 [1] → Kd.C k84 W none 0 [] → Kd.C k25 W (some ⟨w.heap.size + 1, 0, none⟩) 1 [⟨0, 1⟩] → Calls Try.prog 16 #[.agg #[.int .i64 0, .int .i64 2, .slice (some ⟨w.heap.size, 0, none⟩) 1 1, .int .i64 0, .int .i64 0, .int .i64 0, .int .i64 3, .int .i64 0, .string ⟨#[107]⟩, .int .i64 0, .slice none 0 0, .slice (some ⟨w.heap.size + 1, 0, none⟩) 1 1]] W fun e w' => ∃ v, e = .returned (.tuple #[v, .int .i64 0]) ∧ Sp w' [Row (Kd.int .u8) 5 v b, Old W] := fun W a1 a7 a8 => by
  have := bytes_sp wakeOp (some ⟨w.heap.size, 0, none⟩) none (some ⟨w.heap.size + 1, 0, none⟩) 1 0 1 a1 (Nat.le_refl _) a7 (Nat.le_refl _) a8 (Nat.le_refl _) (opFit_small wake_fit)
  rw [opBytes_eq, if_pos wake_fit, hb] at this
  exact this
 have hR : ∀ (W : World) (A : Option Addr) (c : Nat), Kd.C (Kd.int .u8) W A b.length b → b.length ≤ c → Calls Try.prog 11 #[.slice A b.length c, .int .i64 0] W fun e w' => ∃ v1 v7 v8, e = .returned (.tuple #[.agg #[.int .i64 0, .int .i64 2, v1, .int .i64 0, .int .i64 0, .int .i64 0, .int .i64 3, .int .i64 0, .string ⟨#[107]⟩, .int .i64 0, v7, v8], .int .i64 (b.length : Int), .int .i64 0]) ∧
   Sp w' [Row (Kd.int .i64) 3 v1 [1], Row k84 84 v7 [], Row k25 25 v8 [⟨0, 1⟩], Old W] := fun W A c a1 a2 => by
  have := read_sp a1 a2 (by rw [← hb]; exact hbb) (by rw [← hb]; omega) 0
  rw [← hb] at this ⊢
  rw [hrb] at this
  exact this
 have HQ := mk_ hQ
 have HR := mk_ hR
 have HK := mk_ (show raddlekeep_Op.f 100 0 2 [1] 0 0 0 3 0 (⟨#[107]⟩ : ByteArray) 0 ([] : List S84) [⟨0, 1⟩] 0 2 [1] 0 0 0 3 0 (⟨#[107]⟩ : ByteArray) 0 ([] : List S84) [⟨0, 1⟩] = some true from (keepOp_eq 100 wakeOp wakeOp z5 z5 z5 z5).trans (congrArg some (decide_eq_true rfl)))
 have HCK := mk_ (show op_Check.f 1100 1 [⟨[3]⟩] 0 2 [1] 0 0 0 3 0 (⟨#[107]⟩ : ByteArray) 0 ([] : List S84) [⟨0, 1⟩] = some 0 from (check_op_eq 1100 1 [⟨[3]⟩] wakeOp z5 z5 (Nat.le_refl _)).trans (congrArg some z5))
 have HY := mk_ (show op_Key.f (⟨#[107]⟩ : ByteArray) = some true from by rw [key_eq]; rfl)
 have hC : ∀ {α : Type} {d : Kd α} {e n c : Nat} {A : Option Addr} {xs : List α} {W : World} {F : List Part}, Sp W (Row d e (.slice A n c) xs :: F) → n = xs.length ∧ xs.length ≤ c ∧ Kd.C d W A xs.length xs := fun h => by
  obtain ⟨A', c', he, hc, hC⟩ := h.row
  injection he with e1 e2 e3
  subst e1; subst e3
  exact ⟨e2, hc, hC⟩
 clear h1 h2 h4 hl hbb hrb hb hQ hR e1 e2
 go_enter Try.func15, Try.ntmps15
 go_wp2_with (first
  | ((with_reducible refine gate_st (ty := 32) (x := .tmp 1) (y := .tmp 11) rfl ?_); refine wpList_store_row rfl 32 (.tmp 1) (.tmp 11) rfl (w.heap.size + 1 + 1) #[.int .i64 0, .int .i64 2, .slice (some ⟨w.heap.size, 0, none⟩) 1 1, .int .i64 0, .int .i64 0, .int .i64 0, .int .i64 3, .int .i64 0, .string ⟨#[107]⟩, .int .i64 0, .slice none 0 0, .slice (some ⟨w.heap.size + 1, 0, none⟩) 1 1] rfl rfl 32 #[.int .i64 0, .int .i64 0, .slice none 0 0, .int .i64 0, .int .i64 0, .int .i64 0, .int .i64 0, .int .i64 0, .string ⟨#[]⟩, .int .i64 0, .slice none 0 0, .slice none 0 0] h3.blk z0 rfl z6 ?_; have kx := blk_cell HX.out.blk)
  | (go_at_call 16; refine (HQ.out _ (hC HX.out.s2).2.2 (hC (sp_nil (d := k84) (e := 84) HX.out)).2.2 (hC HX.out.s1).2.2).mono ?_; rintro e V1 ⟨v, rfl, h5⟩; obtain ⟨Ab, cb, rfl, hcb, hCb⟩ := h5.row; have HX1 := mk_ (Sp.frame HX.out (X := [_]) h5); have HCB := mk_ hCb; have HLB := mk_ hcb; clear h5 hcb hCb kx)
  | (go_at_call 11; refine (HR.out _ Ab cb HCB.out HLB.out).mono ?_; rintro e V2 ⟨v1, v7, v8, rfl, h6⟩; obtain ⟨B1, d1, rfl, _, _⟩ := h6.row; obtain ⟨B7, d7, rfl, _, _⟩ := h6.s1.row; obtain ⟨B8, d8, rfl, _, _⟩ := h6.s2.row; have HX2 := mk_ (Sp.frame HX1.out (X := [_, _, _]) h6); clear h6)
  | ((with_reducible refine gate_st (ty := 32) (x := .tmp 4) (y := .tmp 20) rfl ?_); refine wpList_store_row rfl 32 (.tmp 4) (.tmp 20) rfl V2.heap.size #[.int .i64 0, .int .i64 2, .slice B1 1 d1, .int .i64 0, .int .i64 0, .int .i64 0, .int .i64 3, .int .i64 0, .string ⟨#[107]⟩, .int .i64 0, .slice B7 0 d7, .slice B8 1 d8] rfl rfl 32 #[.int .i64 0, .int .i64 0, .slice none 0 0, .int .i64 0, .int .i64 0, .int .i64 0, .int .i64 0, .int .i64 0, .string ⟨#[]⟩, .int .i64 0, .slice none 0 0, .slice none 0 0] (HX2.out.box (.cells #[.int .i64 0, .int .i64 0, .slice none 0 0, .int .i64 0, .int .i64 0, .int .i64 0, .int .i64 0, .int .i64 0, .string ⟨#[]⟩, .int .i64 0, .slice none 0 0, .slice none 0 0] 32 (0, 0))).blk z0 rfl z6 ?_; have HX3 := mk_ (sp_storeRow (HX2.out.box (.cells #[.int .i64 0, .int .i64 0, .slice none 0 0, .int .i64 0, .int .i64 0, .int .i64 0, .int .i64 0, .int .i64 0, .string ⟨#[]⟩, .int .i64 0, .slice none 0 0, .slice none 0 0] 32 (0, 0))) #[.int .i64 0, .int .i64 2, .slice B1 1 d1, .int .i64 0, .int .i64 0, .int .i64 0, .int .i64 3, .int .i64 0, .string ⟨#[107]⟩, .int .i64 0, .slice B7 0 d7, .slice B8 1 d8]); have ky := blk_cell HX3.out.blk; have kx := blk_cell HX3.out.s5.blk)
  | (go_at_call 13; refine (raddlekeep_Op.calls 100 0 2 (some ⟨w.heap.size, 0, none⟩) 1 [1] 0 0 0 3 0 ⟨#[107]⟩ 0 none 0 [] (some ⟨w.heap.size + 1, 0, none⟩) 1 [⟨0, 1⟩] 0 2 B1 d1 [1] 0 0 0 3 0 ⟨#[107]⟩ 0 B7 d7 [] B8 d8 [⟨0, 1⟩] true _ (hC HX3.out.tail.tail.tail.tail.tail.s2).2.2 (Nat.le_refl _) (hC (sp_nil (d := k84) (e := 84) HX3.out)).2.2 (Nat.le_refl _) (hC HX3.out.tail.tail.tail.tail.tail.s1).2.2 (Nat.le_refl _) (hC HX3.out.s1).2.2 (hC HX3.out.s1).2.1 (hC HX3.out.s2).2.2 (hC HX3.out.s2).2.1 (hC HX3.out.s3).2.2 (hC HX3.out.s3).2.1 HK.out).mono ?_; rintro e V3 ⟨rfl, h7⟩; have HX4 := mk_ (HX3.out.below h7); have kx := blk_cell ((HX4.out.alloc (.cells #[.int .i64 3] 3 (0, 0))).alloc (.cells #[.slice (some ⟨V3.heap.size, 0, none⟩) 1 1] 51 (0, 0))).s5.blk; clear h7 ky)
  | (go_at_call 19; have hF := sp_lit1 (e := 51) (Sp.as (sp_lit1 (e := 3) (sp_el (d := Kd.int .i64) (p := 3) (cs := [.int .i64 3]) (fun _ _ => rfl) HX4.out) z5) (b := El k51 ⟨[3]⟩ [.slice (some ⟨V3.heap.size, 0, none⟩) 1 1]) (fun ok h => ⟨_, rfl, h⟩)) z5; rw [show (V3.alloc (.cells #[.int .i64 3] 3 (0, 0))).heap.size = V3.heap.size + 1 from Array.size_push _] at hF; refine (op_Check.calls 1100 1 (some ⟨V3.heap.size + 1, 0, none⟩) 1 [⟨[3]⟩] 0 2 (some ⟨w.heap.size, 0, none⟩) 1 [1] 0 0 0 3 0 ⟨#[107]⟩ 0 none 0 [] (some ⟨w.heap.size + 1, 0, none⟩) 1 [⟨0, 1⟩] 0 _ (hC hF).2.2 (Nat.le_refl _) (hC hF.tail.tail.tail.tail.tail.tail.s2).2.2 (Nat.le_refl _) (hC (sp_nil (d := k84) (e := 84) hF)).2.2 (Nat.le_refl _) (hC hF.tail.tail.tail.tail.tail.tail.s1).2.2 (Nat.le_refl _) HCK.out).mono ?_; rintro e V4 ⟨rfl, h8⟩; have HX5 := mk_ (hF.below h8); clear h8 hF kx) | (go_at_call 25; refine (op_Key.calls ⟨#[107]⟩ true _ HY.out).mono ?_; rintro e V5 ⟨rfl, h9⟩; have HX6 := mk_ (HX5.out.below h9.below); clear h9))
 go_ret
 exact ⟨rfl, HX6.out.tail.tail.tail.tail.tail.tail.tail.tail.tail.old⟩
end Go.Proofs.Ytjnjfogfpmeacaa.PAll
end
section
namespace Go.Proofs.Ytjnjfogfpmeacaa.PAll
open Go.RowKit PrintWords PrintLast PrintMore ZipT PrintWords.Kd PrintMore.Kd
attribute [local go_sem] max2_int min2_int max_two min_two max_three min_three max_four min_four   -- for this text's walks alone
set_option linter.unusedVariables false
set_option linter.unusedSimpArgs false
def raddlelaw07_OpReads.j0 : Nat → List Int → Int → Int → Int → Bool → Int → Int → List Int → Int → Int → Int → Int → Int → ByteArray → Int → List (S84) → List (S25) → Option (Bool)
 | 0, _, _, _, _, _, _, _, _, _, _, _, _, _, _, _, _, _ => none
 | k + 1, x0, x1, x7, x8, x51, x481000, x481001, x481002, x481003, x481004, x481005, x481006, x481007, x481008, x481009, x481010, x481011 => if x51 = true then (some false) else (if x8 = 0 then ((op_Bytes.f x481000 x481001 x481002 x481003 x481004 x481005 x481006 x481007 x481008 x481009 x481010 x481011).bind fun bt505 => (if bt505.2 = 0 then (if x7 ≤ (x0.length : Int) then (if x1 ≥ 0 then (if x1 ≤ x7 then (if 0 ≤ x1 then ((raddlekeep_Bytes.f k bt505.1 ((x0.take (x7 : Int).toNat).drop (x1 : Int).toNat)).bind fun t510 => (if t510 = true then ((raddlelaw07_wakes.f).bind fun t511 => (some t511)) else (some false))) else (none)) else (some false)) else (some false)) else (some false)) else (some false))) else ((raddlelaw07_wakes.f).bind fun t504 => (some t504)))
def raddlelaw07_OpReads.f (k : Nat) (l0 : List Int) (a1 : Int) : Option (Bool) := if (l0.length : Int) > 800 then (some true) else ((raddlekeep_Twin.f l0).bind fun t457 => ((op_Read.f t457 a1).bind fun bt460 => ((raddleref01_ReadOp.f l0 a1).bind fun bt481 => (if bt460.2.2.2.2.2.2.2.2.2.2.2.2.2 = bt481.2.2.2.2.2.2.2.2.2.2.2.2.2 then (if bt460.2.2.2.2.2.2.2.2.2.2.2.2.1 = bt481.2.2.2.2.2.2.2.2.2.2.2.2.1 then ((raddlekeep_Op.f k bt460.1 bt460.2.1 bt460.2.2.1 bt460.2.2.2.1 bt460.2.2.2.2.1 bt460.2.2.2.2.2.1 bt460.2.2.2.2.2.2.1 bt460.2.2.2.2.2.2.2.1 bt460.2.2.2.2.2.2.2.2.1 bt460.2.2.2.2.2.2.2.2.2.1 bt460.2.2.2.2.2.2.2.2.2.2.1 bt460.2.2.2.2.2.2.2.2.2.2.2.1 bt481.1 bt481.2.1 bt481.2.2.1 bt481.2.2.2.1 bt481.2.2.2.2.1 bt481.2.2.2.2.2.1 bt481.2.2.2.2.2.2.1 bt481.2.2.2.2.2.2.2.1 bt481.2.2.2.2.2.2.2.2.1 bt481.2.2.2.2.2.2.2.2.2.1 bt481.2.2.2.2.2.2.2.2.2.2.1 bt481.2.2.2.2.2.2.2.2.2.2.2.1).bind fun t502 => (if t502 = true then ((raddlekeep_Bytes.f k t457 l0).bind fun t503 => (raddlelaw07_OpReads.j0 k l0 a1 bt460.2.2.2.2.2.2.2.2.2.2.2.2.1 bt460.2.2.2.2.2.2.2.2.2.2.2.2.2 (!t503) bt460.1 bt460.2.1 bt460.2.2.1 bt460.2.2.2.1 bt460.2.2.2.2.1 bt460.2.2.2.2.2.1 bt460.2.2.2.2.2.2.1 bt460.2.2.2.2.2.2.2.1 bt460.2.2.2.2.2.2.2.2.1 bt460.2.2.2.2.2.2.2.2.2.1 bt460.2.2.2.2.2.2.2.2.2.2.1 bt460.2.2.2.2.2.2.2.2.2.2.2.1)) else (raddlelaw07_OpReads.j0 k l0 a1 bt460.2.2.2.2.2.2.2.2.2.2.2.2.1 bt460.2.2.2.2.2.2.2.2.2.2.2.2.2 true bt460.1 bt460.2.1 bt460.2.2.1 bt460.2.2.2.1 bt460.2.2.2.2.1 bt460.2.2.2.2.2.1 bt460.2.2.2.2.2.2.1 bt460.2.2.2.2.2.2.2.1 bt460.2.2.2.2.2.2.2.2.1 bt460.2.2.2.2.2.2.2.2.2.1 bt460.2.2.2.2.2.2.2.2.2.2.1 bt460.2.2.2.2.2.2.2.2.2.2.2.1))) else (raddlelaw07_OpReads.j0 k l0 a1 bt460.2.2.2.2.2.2.2.2.2.2.2.2.1 bt460.2.2.2.2.2.2.2.2.2.2.2.2.2 true bt460.1 bt460.2.1 bt460.2.2.1 bt460.2.2.2.1 bt460.2.2.2.2.1 bt460.2.2.2.2.2.1 bt460.2.2.2.2.2.2.1 bt460.2.2.2.2.2.2.2.1 bt460.2.2.2.2.2.2.2.2.1 bt460.2.2.2.2.2.2.2.2.2.1 bt460.2.2.2.2.2.2.2.2.2.2.1 bt460.2.2.2.2.2.2.2.2.2.2.2.1)) else (raddlelaw07_OpReads.j0 k l0 a1 bt460.2.2.2.2.2.2.2.2.2.2.2.2.1 bt460.2.2.2.2.2.2.2.2.2.2.2.2.2 true bt460.1 bt460.2.1 bt460.2.2.1 bt460.2.2.2.1 bt460.2.2.2.2.1 bt460.2.2.2.2.2.1 bt460.2.2.2.2.2.2.1 bt460.2.2.2.2.2.2.2.1 bt460.2.2.2.2.2.2.2.2.1 bt460.2.2.2.2.2.2.2.2.2.1 bt460.2.2.2.2.2.2.2.2.2.2.1 bt460.2.2.2.2.2.2.2.2.2.2.2.1)))))
theorem raddlelaw07_OpReads.calls (k : Nat) (A0 : Option Addr) (c0 : Nat) (l0 : List Int) (a1 : Int) (r : Bool) (w : World) (hr0 : Kd.C (Kd.int .u8) w A0 l0.length l0) (hc0 : l0.length ≤ c0) (hrt : r = true) (h : raddlelaw07_OpReads.f k l0 a1 = some r) :
  Calls Try.prog 3 #[.slice A0 l0.length c0, .int .i64 a1] w fun e w' => e = .returned (.bool r) ∧ Below w.heap.size w w' := by
 have hu32 := Try.underlying32
 have HR0 := mk_ hr0
 have HC0 := mk_ hc0
 clear hr0 hc0
 have HB := mk_ (Below.refl w.heap.size w)
 have H : (if (l0.length : Int) > 800 then (some true) else ((raddlekeep_Twin.f l0).bind fun t457 => ((op_Read.f t457 a1).bind fun bt460 => ((raddleref01_ReadOp.f l0 a1).bind fun bt481 => (if bt460.2.2.2.2.2.2.2.2.2.2.2.2.2 = bt481.2.2.2.2.2.2.2.2.2.2.2.2.2 then (if bt460.2.2.2.2.2.2.2.2.2.2.2.2.1 = bt481.2.2.2.2.2.2.2.2.2.2.2.2.1 then ((raddlekeep_Op.f k bt460.1 bt460.2.1 bt460.2.2.1 bt460.2.2.2.1 bt460.2.2.2.2.1 bt460.2.2.2.2.2.1 bt460.2.2.2.2.2.2.1 bt460.2.2.2.2.2.2.2.1 bt460.2.2.2.2.2.2.2.2.1 bt460.2.2.2.2.2.2.2.2.2.1 bt460.2.2.2.2.2.2.2.2.2.2.1 bt460.2.2.2.2.2.2.2.2.2.2.2.1 bt481.1 bt481.2.1 bt481.2.2.1 bt481.2.2.2.1 bt481.2.2.2.2.1 bt481.2.2.2.2.2.1 bt481.2.2.2.2.2.2.1 bt481.2.2.2.2.2.2.2.1 bt481.2.2.2.2.2.2.2.2.1 bt481.2.2.2.2.2.2.2.2.2.1 bt481.2.2.2.2.2.2.2.2.2.2.1 bt481.2.2.2.2.2.2.2.2.2.2.2.1).bind fun t502 => (if t502 = true then ((raddlekeep_Bytes.f k t457 l0).bind fun t503 => (raddlelaw07_OpReads.j0 k l0 a1 bt460.2.2.2.2.2.2.2.2.2.2.2.2.1 bt460.2.2.2.2.2.2.2.2.2.2.2.2.2 (!t503) bt460.1 bt460.2.1 bt460.2.2.1 bt460.2.2.2.1 bt460.2.2.2.2.1 bt460.2.2.2.2.2.1 bt460.2.2.2.2.2.2.1 bt460.2.2.2.2.2.2.2.1 bt460.2.2.2.2.2.2.2.2.1 bt460.2.2.2.2.2.2.2.2.2.1 bt460.2.2.2.2.2.2.2.2.2.2.1 bt460.2.2.2.2.2.2.2.2.2.2.2.1)) else (raddlelaw07_OpReads.j0 k l0 a1 bt460.2.2.2.2.2.2.2.2.2.2.2.2.1 bt460.2.2.2.2.2.2.2.2.2.2.2.2.2 true bt460.1 bt460.2.1 bt460.2.2.1 bt460.2.2.2.1 bt460.2.2.2.2.1 bt460.2.2.2.2.2.1 bt460.2.2.2.2.2.2.1 bt460.2.2.2.2.2.2.2.1 bt460.2.2.2.2.2.2.2.2.1 bt460.2.2.2.2.2.2.2.2.2.1 bt460.2.2.2.2.2.2.2.2.2.2.1 bt460.2.2.2.2.2.2.2.2.2.2.2.1))) else (raddlelaw07_OpReads.j0 k l0 a1 bt460.2.2.2.2.2.2.2.2.2.2.2.2.1 bt460.2.2.2.2.2.2.2.2.2.2.2.2.2 true bt460.1 bt460.2.1 bt460.2.2.1 bt460.2.2.2.1 bt460.2.2.2.2.1 bt460.2.2.2.2.2.1 bt460.2.2.2.2.2.2.1 bt460.2.2.2.2.2.2.2.1 bt460.2.2.2.2.2.2.2.2.1 bt460.2.2.2.2.2.2.2.2.2.1 bt460.2.2.2.2.2.2.2.2.2.2.1 bt460.2.2.2.2.2.2.2.2.2.2.2.1)) else (raddlelaw07_OpReads.j0 k l0 a1 bt460.2.2.2.2.2.2.2.2.2.2.2.2.1 bt460.2.2.2.2.2.2.2.2.2.2.2.2.2 true bt460.1 bt460.2.1 bt460.2.2.1 bt460.2.2.2.1 bt460.2.2.2.2.1 bt460.2.2.2.2.2.1 bt460.2.2.2.2.2.2.1 bt460.2.2.2.2.2.2.2.1 bt460.2.2.2.2.2.2.2.2.1 bt460.2.2.2.2.2.2.2.2.2.1 bt460.2.2.2.2.2.2.2.2.2.2.1 bt460.2.2.2.2.2.2.2.2.2.2.2.1)))))) = some r := h
 clear h
 by_cases c3 : (l0.length : Int) > 800
 ·
  rw [if_pos c3] at H
  have c3b0 : decide (800 < (l0.length : Int)) = true := decide_eq_true c3
  have c3b1 : decide (800 < l0.length) = true := decide_eq_true z4
  clear c3
  obtain rfl := Option.some.inj H
  go_enter Try.func3, Try.ntmps3
  go_wp2
  go_ret
  exact ⟨q0, Short.hB HB⟩
 rw [if_neg c3] at H
 have c3b0 : decide (800 < (l0.length : Int)) = false := decide_eq_false c3
 have c3b1 : decide (800 < l0.length) = false := decide_eq_false z4
 clear c3
 replace H := Option.bind_eq_some_iff.mp H
 obtain ⟨t457, A40, H⟩ := H
 replace H : ((op_Read.f t457 a1).bind fun bt460 => ((raddleref01_ReadOp.f l0 a1).bind fun bt481 => (if bt460.2.2.2.2.2.2.2.2.2.2.2.2.2 = bt481.2.2.2.2.2.2.2.2.2.2.2.2.2 then (if bt460.2.2.2.2.2.2.2.2.2.2.2.2.1 = bt481.2.2.2.2.2.2.2.2.2.2.2.2.1 then ((raddlekeep_Op.f k bt460.1 bt460.2.1 bt460.2.2.1 bt460.2.2.2.1 bt460.2.2.2.2.1 bt460.2.2.2.2.2.1 bt460.2.2.2.2.2.2.1 bt460.2.2.2.2.2.2.2.1 bt460.2.2.2.2.2.2.2.2.1 bt460.2.2.2.2.2.2.2.2.2.1 bt460.2.2.2.2.2.2.2.2.2.2.1 bt460.2.2.2.2.2.2.2.2.2.2.2.1 bt481.1 bt481.2.1 bt481.2.2.1 bt481.2.2.2.1 bt481.2.2.2.2.1 bt481.2.2.2.2.2.1 bt481.2.2.2.2.2.2.1 bt481.2.2.2.2.2.2.2.1 bt481.2.2.2.2.2.2.2.2.1 bt481.2.2.2.2.2.2.2.2.2.1 bt481.2.2.2.2.2.2.2.2.2.2.1 bt481.2.2.2.2.2.2.2.2.2.2.2.1).bind fun t502 => (if t502 = true then ((raddlekeep_Bytes.f k t457 l0).bind fun t503 => (raddlelaw07_OpReads.j0 k l0 a1 bt460.2.2.2.2.2.2.2.2.2.2.2.2.1 bt460.2.2.2.2.2.2.2.2.2.2.2.2.2 (!t503) bt460.1 bt460.2.1 bt460.2.2.1 bt460.2.2.2.1 bt460.2.2.2.2.1 bt460.2.2.2.2.2.1 bt460.2.2.2.2.2.2.1 bt460.2.2.2.2.2.2.2.1 bt460.2.2.2.2.2.2.2.2.1 bt460.2.2.2.2.2.2.2.2.2.1 bt460.2.2.2.2.2.2.2.2.2.2.1 bt460.2.2.2.2.2.2.2.2.2.2.2.1)) else (raddlelaw07_OpReads.j0 k l0 a1 bt460.2.2.2.2.2.2.2.2.2.2.2.2.1 bt460.2.2.2.2.2.2.2.2.2.2.2.2.2 true bt460.1 bt460.2.1 bt460.2.2.1 bt460.2.2.2.1 bt460.2.2.2.2.1 bt460.2.2.2.2.2.1 bt460.2.2.2.2.2.2.1 bt460.2.2.2.2.2.2.2.1 bt460.2.2.2.2.2.2.2.2.1 bt460.2.2.2.2.2.2.2.2.2.1 bt460.2.2.2.2.2.2.2.2.2.2.1 bt460.2.2.2.2.2.2.2.2.2.2.2.1))) else (raddlelaw07_OpReads.j0 k l0 a1 bt460.2.2.2.2.2.2.2.2.2.2.2.2.1 bt460.2.2.2.2.2.2.2.2.2.2.2.2.2 true bt460.1 bt460.2.1 bt460.2.2.1 bt460.2.2.2.1 bt460.2.2.2.2.1 bt460.2.2.2.2.2.1 bt460.2.2.2.2.2.2.1 bt460.2.2.2.2.2.2.2.1 bt460.2.2.2.2.2.2.2.2.1 bt460.2.2.2.2.2.2.2.2.2.1 bt460.2.2.2.2.2.2.2.2.2.2.1 bt460.2.2.2.2.2.2.2.2.2.2.2.1)) else (raddlelaw07_OpReads.j0 k l0 a1 bt460.2.2.2.2.2.2.2.2.2.2.2.2.1 bt460.2.2.2.2.2.2.2.2.2.2.2.2.2 true bt460.1 bt460.2.1 bt460.2.2.1 bt460.2.2.2.1 bt460.2.2.2.2.1 bt460.2.2.2.2.2.1 bt460.2.2.2.2.2.2.1 bt460.2.2.2.2.2.2.2.1 bt460.2.2.2.2.2.2.2.2.1 bt460.2.2.2.2.2.2.2.2.2.1 bt460.2.2.2.2.2.2.2.2.2.2.1 bt460.2.2.2.2.2.2.2.2.2.2.2.1)))) = some r := H
 have A4 := mk_ A40
 clear A40
 replace H := Option.bind_eq_some_iff.mp H
 obtain ⟨⟨t460, t461, t462, t465, t466, t467, t468, t469, t470, t471, t472, t475, t478, t479⟩, A50, H⟩ := H
 replace H : ((raddleref01_ReadOp.f l0 a1).bind fun bt481 => (if t479 = bt481.2.2.2.2.2.2.2.2.2.2.2.2.2 then (if t478 = bt481.2.2.2.2.2.2.2.2.2.2.2.2.1 then ((raddlekeep_Op.f k t460 t461 t462 t465 t466 t467 t468 t469 t470 t471 t472 t475 bt481.1 bt481.2.1 bt481.2.2.1 bt481.2.2.2.1 bt481.2.2.2.2.1 bt481.2.2.2.2.2.1 bt481.2.2.2.2.2.2.1 bt481.2.2.2.2.2.2.2.1 bt481.2.2.2.2.2.2.2.2.1 bt481.2.2.2.2.2.2.2.2.2.1 bt481.2.2.2.2.2.2.2.2.2.2.1 bt481.2.2.2.2.2.2.2.2.2.2.2.1).bind fun t502 => (if t502 = true then ((raddlekeep_Bytes.f k t457 l0).bind fun t503 => (raddlelaw07_OpReads.j0 k l0 a1 t478 t479 (!t503) t460 t461 t462 t465 t466 t467 t468 t469 t470 t471 t472 t475)) else (raddlelaw07_OpReads.j0 k l0 a1 t478 t479 true t460 t461 t462 t465 t466 t467 t468 t469 t470 t471 t472 t475))) else (raddlelaw07_OpReads.j0 k l0 a1 t478 t479 true t460 t461 t462 t465 t466 t467 t468 t469 t470 t471 t472 t475)) else (raddlelaw07_OpReads.j0 k l0 a1 t478 t479 true t460 t461 t462 t465 t466 t467 t468 t469 t470 t471 t472 t475))) = some r := H
 have A5 := mk_ A50
 clear A50
 replace H := Option.bind_eq_some_iff.mp H
 obtain ⟨⟨t481, t482, t483, t486, t487, t488, t489, t490, t491, t492, t493, t496, t499, t500⟩, A60, H⟩ := H
 replace H : (if t479 = t500 then (if t478 = t499 then ((raddlekeep_Op.f k t460 t461 t462 t465 t466 t467 t468 t469 t470 t471 t472 t475 t481 t482 t483 t486 t487 t488 t489 t490 t491 t492 t493 t496).bind fun t502 => (if t502 = true then ((raddlekeep_Bytes.f k t457 l0).bind fun t503 => (raddlelaw07_OpReads.j0 k l0 a1 t478 t479 (!t503) t460 t461 t462 t465 t466 t467 t468 t469 t470 t471 t472 t475)) else (raddlelaw07_OpReads.j0 k l0 a1 t478 t479 true t460 t461 t462 t465 t466 t467 t468 t469 t470 t471 t472 t475))) else (raddlelaw07_OpReads.j0 k l0 a1 t478 t479 true t460 t461 t462 t465 t466 t467 t468 t469 t470 t471 t472 t475)) else (raddlelaw07_OpReads.j0 k l0 a1 t478 t479 true t460 t461 t462 t465 t466 t467 t468 t469 t470 t471 t472 t475)) = some r := H
 have A6 := mk_ A60
 clear A60
 have HC7 := mk_ H
 clear H
 go_enter Try.func3, Try.ntmps3
 go_upto_region 6 with (first | ((with_reducible refine gate_callee (f := 10) rfl ?_); refine Short.gL (some 17) Try.func10 #[.slice A0 l0.length c0] (h := ?_); (with_reducible refine (raddlekeep_Twin.calls _ _ l0 t457 _ ?side1 ?side2 A4.out).mono ?_); (case side1 => repeat (first | exact HR0.out | (with_reducible refine C_alloc ?_ _) | (with_reducible refine C_drewN ?_ _) | (with_reducible refine C_drew ?_))); (case side2 => exact HC0.out); rintro e w8 ⟨v458, rfl, ho0, hb⟩; refine ⟨_, rfl, ?_⟩; have n0_ := mk_ (R_lower ho0 (below_size (Short.hB HB))); have n1_ := mk_ (below_step (Short.hB HB) hb); clear HB; revert n0_ n1_; intro HO459 HB; (try clear hb ho0); obtain ⟨Ao9, co9, eo9⟩ := R_slice HO459.out; subst eo9) | ((with_reducible refine gate_callee (f := 11) rfl ?_); refine Short.gL (some 21) Try.func11 #[.slice Ao9 t457.length co9, .int .i64 a1] (h := ?_); (with_reducible refine (op_Read.calls _ _ t457 a1 t460 t461 t462 t465 t466 t467 t468 t469 t470 t471 t472 t475 t478 t479 _ ?side1 ?side2 A5.out).mono ?_); (case side1 => exact cX_ (R_reads' HO459.out).2.2); (case side2 => exact (R_reads' HO459.out).2.1); rintro e w10 ⟨v463, v473, v476, rfl, ho0, ho1, ho2, hb⟩; refine ⟨_, rfl, ?_⟩; have n0_ := mk_ (R_below (ZKR HO459) hb); have n1_ := mk_ (R_lower ho0 (below_size (Short.hB HB))); have n2_ := mk_ (R_lower ho1 (below_size (Short.hB HB))); have n3_ := mk_ (R_lower ho2 (below_size (Short.hB HB))); have n4_ := mk_ (below_step (Short.hB HB) hb); clear HO459 HB; revert n0_ n1_ n2_ n3_ n4_; intro HO459 HO464 HO474 HO477 HB; (try clear hb ho0); (try clear ho1); (try clear ho2)) | ((with_reducible refine gate_dst (N := 6) rfl ?_); refine box_event ?hg (N := 6) ?hd (cs := #[.int .i64 0, .int .i64 0, .slice none 0 0, .int .i64 0, .int .i64 0, .int .i64 0, .int .i64 0, .int .i64 0, .string (⟨#[]⟩ : ByteArray), .int .i64 0, .slice none 0 0, .slice none 0 0]) (t := 32) ?hr ?_; (case hd => rfl); (case hg => rfl); (case hr => first | (go_simp; done) | (go_simp; rfl)); intro gb480 hg w11 hbox hb; have n0_ := mk_ (R_below (ZKR HO459) hb); have n1_ := mk_ (R_below (ZKR HO464) hb); have n2_ := mk_ (R_below (ZKR HO474) hb); have n3_ := mk_ (R_below (ZKR HO477) hb); have n4_ := mk_ (below_step (Short.hB HB) hb); have n5_ := mk_ (hbox); have n6_ := mk_ ((by rw [hg]; exact (below_size (Short.hB HB)) : w.heap.size ≤ gb480)); have n7_ := mk_ ((by rw [hg]; exact (below_size (Short.hB HB)) : w.heap.size ≤ gb480)); clear HO459 HO464 HO474 HO477 HB; revert n0_ n1_ n2_ n3_ n4_ n5_ n6_ n7_; intro HO459 HO464 HO474 HO477 HB BK480 GW480 GE480; clear hb hbox hg; have hcz12_0 : w11.cell? ⟨gb480, 0, none⟩ = some (.int .i64 0) := kc_ BK480 0; have hcz12_1 : w11.cell? ⟨gb480, 1, none⟩ = some (.int .i64 0) := kc_ BK480 1; have hcz12_2 : w11.cell? ⟨gb480, 2, none⟩ = some (.slice none 0 0) := kc_ BK480 2; have hcz12_3 : w11.cell? ⟨gb480, 3, none⟩ = some (.int .i64 0) := kc_ BK480 3; have hcz12_4 : w11.cell? ⟨gb480, 4, none⟩ = some (.int .i64 0) := kc_ BK480 4; have hcz12_5 : w11.cell? ⟨gb480, 5, none⟩ = some (.int .i64 0) := kc_ BK480 5; have hcz12_6 : w11.cell? ⟨gb480, 6, none⟩ = some (.int .i64 0) := kc_ BK480 6; have hcz12_7 : w11.cell? ⟨gb480, 7, none⟩ = some (.int .i64 0) := kc_ BK480 7; have hcz12_8 : w11.cell? ⟨gb480, 8, none⟩ = some (.string (⟨#[]⟩ : ByteArray)) := kc_ BK480 8; have hcz12_9 : w11.cell? ⟨gb480, 9, none⟩ = some (.int .i64 0) := kc_ BK480 9; have hcz12_10 : w11.cell? ⟨gb480, 10, none⟩ = some (.slice none 0 0) := kc_ BK480 10; have hcz12_11 : w11.cell? ⟨gb480, 11, none⟩ = some (.slice none 0 0) := kc_ BK480 11; have hfz12_0 := blk_frozen BK480.out 0; have hfz12_1 := blk_frozen BK480.out 1; have hfz12_2 := blk_frozen BK480.out 2; have hfz12_3 := blk_frozen BK480.out 3; have hfz12_4 := blk_frozen BK480.out 4; have hfz12_5 := blk_frozen BK480.out 5; have hfz12_6 := blk_frozen BK480.out 6; have hfz12_7 := blk_frozen BK480.out 7; have hfz12_8 := blk_frozen BK480.out 8; have hfz12_9 := blk_frozen BK480.out 9; have hfz12_10 := blk_frozen BK480.out 10; have hfz12_11 := blk_frozen BK480.out 11; obtain ⟨Ao13, co13, eo13⟩ := R_slice HO464.out; subst eo13; obtain ⟨Ao14, co14, eo14⟩ := R_slice HO474.out; subst eo14; obtain ⟨Ao15, co15, eo15⟩ := R_slice HO477.out; subst eo15) | ((with_reducible refine gate_callee (f := 12) rfl ?_); refine Short.gL (some 28) Try.func12 #[.slice A0 l0.length c0, .int .i64 a1] (h := ?_); (with_reducible refine (raddleref01_ReadOp.calls _ _ l0 a1 t481 t482 t483 t486 t487 t488 t489 t490 t491 t492 t493 t496 t499 t500 _ ?side1 ?side2 A6.out).mono ?_); (case side1 => exact C_below HR0.out (Short.hB HB)); (case side2 => exact HC0.out); rintro e w16 ⟨v484, v494, v497, rfl, ho0, ho1, ho2, hb⟩; refine ⟨_, rfl, ?_⟩; have n0_ := mk_ (R_below (by (with_reducible repeat (first | apply R_alloc | apply R_drewN | apply R_drew)); exact (R_mono (R_far (p := ⟨gb480, 11, none⟩) (R_far (p := ⟨gb480, 10, none⟩) (R_far (p := ⟨gb480, 9, none⟩) (R_far (p := ⟨gb480, 8, none⟩) (R_far (p := ⟨gb480, 7, none⟩) (R_far (p := ⟨gb480, 6, none⟩) (R_far (p := ⟨gb480, 5, none⟩) (R_far (p := ⟨gb480, 4, none⟩) (R_far (p := ⟨gb480, 3, none⟩) (R_far (p := ⟨gb480, 2, none⟩) (R_far (p := ⟨gb480, 1, none⟩) (R_far (p := ⟨gb480, 0, none⟩) (R_types HO459.out BK480.out z5) (fun _ hk => hk.2) (.int .i64 t460)) (fun _ hk => hk.2) (.int .i64 t461)) (fun _ hk => hk.2) (.slice Ao13 t462.length co13)) (fun _ hk => hk.2) (.int .i64 t465)) (fun _ hk => hk.2) (.int .i64 t466)) (fun _ hk => hk.2) (.int .i64 t467)) (fun _ hk => hk.2) (.int .i64 t468)) (fun _ hk => hk.2) (.int .i64 t469)) (fun _ hk => hk.2) (.string t470)) (fun _ hk => hk.2) (.int .i64 t471)) (fun _ hk => hk.2) (.slice Ao14 t472.length co14)) (fun _ hk => hk.2) (.slice Ao15 t475.length co15)) (fun _ h_ => h_.1))) hb); have n1_ := mk_ (R_elder' (by (with_reducible repeat (first | apply R_alloc | apply R_drewN | apply R_drew)); exact (R_mono (R_far (p := ⟨gb480, 11, none⟩) (R_far (p := ⟨gb480, 10, none⟩) (R_far (p := ⟨gb480, 9, none⟩) (R_far (p := ⟨gb480, 8, none⟩) (R_far (p := ⟨gb480, 7, none⟩) (R_far (p := ⟨gb480, 6, none⟩) (R_far (p := ⟨gb480, 5, none⟩) (R_far (p := ⟨gb480, 4, none⟩) (R_far (p := ⟨gb480, 3, none⟩) (R_far (p := ⟨gb480, 2, none⟩) (R_far (p := ⟨gb480, 1, none⟩) (R_far (p := ⟨gb480, 0, none⟩) (R_types HO464.out BK480.out z5) (fun _ hk => hk.2) (.int .i64 t460)) (fun _ hk => hk.2) (.int .i64 t461)) (fun _ hk => hk.2) (.slice Ao13 t462.length co13)) (fun _ hk => hk.2) (.int .i64 t465)) (fun _ hk => hk.2) (.int .i64 t466)) (fun _ hk => hk.2) (.int .i64 t467)) (fun _ hk => hk.2) (.int .i64 t468)) (fun _ hk => hk.2) (.int .i64 t469)) (fun _ hk => hk.2) (.string t470)) (fun _ hk => hk.2) (.int .i64 t471)) (fun _ hk => hk.2) (.slice Ao14 t472.length co14)) (fun _ hk => hk.2) (.slice Ao15 t475.length co15)) (fun _ h_ => h_.1))) (R_base ho0) hb); have n2_ := mk_ (R_elder' (by (with_reducible repeat (first | apply R_alloc | apply R_drewN | apply R_drew)); exact (R_mono (R_far (p := ⟨gb480, 11, none⟩) (R_far (p := ⟨gb480, 10, none⟩) (R_far (p := ⟨gb480, 9, none⟩) (R_far (p := ⟨gb480, 8, none⟩) (R_far (p := ⟨gb480, 7, none⟩) (R_far (p := ⟨gb480, 6, none⟩) (R_far (p := ⟨gb480, 5, none⟩) (R_far (p := ⟨gb480, 4, none⟩) (R_far (p := ⟨gb480, 3, none⟩) (R_far (p := ⟨gb480, 2, none⟩) (R_far (p := ⟨gb480, 1, none⟩) (R_far (p := ⟨gb480, 0, none⟩) (R_types HO474.out BK480.out z5) (fun _ hk => hk.2) (.int .i64 t460)) (fun _ hk => hk.2) (.int .i64 t461)) (fun _ hk => hk.2) (.slice Ao13 t462.length co13)) (fun _ hk => hk.2) (.int .i64 t465)) (fun _ hk => hk.2) (.int .i64 t466)) (fun _ hk => hk.2) (.int .i64 t467)) (fun _ hk => hk.2) (.int .i64 t468)) (fun _ hk => hk.2) (.int .i64 t469)) (fun _ hk => hk.2) (.string t470)) (fun _ hk => hk.2) (.int .i64 t471)) (fun _ hk => hk.2) (.slice Ao14 t472.length co14)) (fun _ hk => hk.2) (.slice Ao15 t475.length co15)) (fun _ h_ => h_.1))) (R_base ho1) hb); have n3_ := mk_ (R_elder' (by (with_reducible repeat (first | apply R_alloc | apply R_drewN | apply R_drew)); exact (R_mono (R_far (p := ⟨gb480, 11, none⟩) (R_far (p := ⟨gb480, 10, none⟩) (R_far (p := ⟨gb480, 9, none⟩) (R_far (p := ⟨gb480, 8, none⟩) (R_far (p := ⟨gb480, 7, none⟩) (R_far (p := ⟨gb480, 6, none⟩) (R_far (p := ⟨gb480, 5, none⟩) (R_far (p := ⟨gb480, 4, none⟩) (R_far (p := ⟨gb480, 3, none⟩) (R_far (p := ⟨gb480, 2, none⟩) (R_far (p := ⟨gb480, 1, none⟩) (R_far (p := ⟨gb480, 0, none⟩) (R_types HO477.out BK480.out z5) (fun _ hk => hk.2) (.int .i64 t460)) (fun _ hk => hk.2) (.int .i64 t461)) (fun _ hk => hk.2) (.slice Ao13 t462.length co13)) (fun _ hk => hk.2) (.int .i64 t465)) (fun _ hk => hk.2) (.int .i64 t466)) (fun _ hk => hk.2) (.int .i64 t467)) (fun _ hk => hk.2) (.int .i64 t468)) (fun _ hk => hk.2) (.int .i64 t469)) (fun _ hk => hk.2) (.string t470)) (fun _ hk => hk.2) (.int .i64 t471)) (fun _ hk => hk.2) (.slice Ao14 t472.length co14)) (fun _ hk => hk.2) (.slice Ao15 t475.length co15)) (fun _ h_ => h_.1))) (R_base ho2) hb); have n4_ := mk_ (R_lower (R_new' ho0 (R_lt (by (with_reducible repeat (first | apply R_alloc | apply R_drewN | apply R_drew)); exact (R_mono (R_far (p := ⟨gb480, 11, none⟩) (R_far (p := ⟨gb480, 10, none⟩) (R_far (p := ⟨gb480, 9, none⟩) (R_far (p := ⟨gb480, 8, none⟩) (R_far (p := ⟨gb480, 7, none⟩) (R_far (p := ⟨gb480, 6, none⟩) (R_far (p := ⟨gb480, 5, none⟩) (R_far (p := ⟨gb480, 4, none⟩) (R_far (p := ⟨gb480, 3, none⟩) (R_far (p := ⟨gb480, 2, none⟩) (R_far (p := ⟨gb480, 1, none⟩) (R_far (p := ⟨gb480, 0, none⟩) (R_types HO464.out BK480.out z5) (fun _ hk => hk.2) (.int .i64 t460)) (fun _ hk => hk.2) (.int .i64 t461)) (fun _ hk => hk.2) (.slice Ao13 t462.length co13)) (fun _ hk => hk.2) (.int .i64 t465)) (fun _ hk => hk.2) (.int .i64 t466)) (fun _ hk => hk.2) (.int .i64 t467)) (fun _ hk => hk.2) (.int .i64 t468)) (fun _ hk => hk.2) (.int .i64 t469)) (fun _ hk => hk.2) (.string t470)) (fun _ hk => hk.2) (.int .i64 t471)) (fun _ hk => hk.2) (.slice Ao14 t472.length co14)) (fun _ hk => hk.2) (.slice Ao15 t475.length co15)) (fun _ h_ => h_.1))))) (below_size (Short.hB HB))); have n5_ := mk_ (R_lower (R_new' ho1 (R_lt (by (with_reducible repeat (first | apply R_alloc | apply R_drewN | apply R_drew)); exact (R_mono (R_far (p := ⟨gb480, 11, none⟩) (R_far (p := ⟨gb480, 10, none⟩) (R_far (p := ⟨gb480, 9, none⟩) (R_far (p := ⟨gb480, 8, none⟩) (R_far (p := ⟨gb480, 7, none⟩) (R_far (p := ⟨gb480, 6, none⟩) (R_far (p := ⟨gb480, 5, none⟩) (R_far (p := ⟨gb480, 4, none⟩) (R_far (p := ⟨gb480, 3, none⟩) (R_far (p := ⟨gb480, 2, none⟩) (R_far (p := ⟨gb480, 1, none⟩) (R_far (p := ⟨gb480, 0, none⟩) (R_types HO474.out BK480.out z5) (fun _ hk => hk.2) (.int .i64 t460)) (fun _ hk => hk.2) (.int .i64 t461)) (fun _ hk => hk.2) (.slice Ao13 t462.length co13)) (fun _ hk => hk.2) (.int .i64 t465)) (fun _ hk => hk.2) (.int .i64 t466)) (fun _ hk => hk.2) (.int .i64 t467)) (fun _ hk => hk.2) (.int .i64 t468)) (fun _ hk => hk.2) (.int .i64 t469)) (fun _ hk => hk.2) (.string t470)) (fun _ hk => hk.2) (.int .i64 t471)) (fun _ hk => hk.2) (.slice Ao14 t472.length co14)) (fun _ hk => hk.2) (.slice Ao15 t475.length co15)) (fun _ h_ => h_.1))))) (below_size (Short.hB HB))); have n6_ := mk_ (R_lower (R_new' ho2 (R_lt (by (with_reducible repeat (first | apply R_alloc | apply R_drewN | apply R_drew)); exact (R_mono (R_far (p := ⟨gb480, 11, none⟩) (R_far (p := ⟨gb480, 10, none⟩) (R_far (p := ⟨gb480, 9, none⟩) (R_far (p := ⟨gb480, 8, none⟩) (R_far (p := ⟨gb480, 7, none⟩) (R_far (p := ⟨gb480, 6, none⟩) (R_far (p := ⟨gb480, 5, none⟩) (R_far (p := ⟨gb480, 4, none⟩) (R_far (p := ⟨gb480, 3, none⟩) (R_far (p := ⟨gb480, 2, none⟩) (R_far (p := ⟨gb480, 1, none⟩) (R_far (p := ⟨gb480, 0, none⟩) (R_types HO477.out BK480.out z5) (fun _ hk => hk.2) (.int .i64 t460)) (fun _ hk => hk.2) (.int .i64 t461)) (fun _ hk => hk.2) (.slice Ao13 t462.length co13)) (fun _ hk => hk.2) (.int .i64 t465)) (fun _ hk => hk.2) (.int .i64 t466)) (fun _ hk => hk.2) (.int .i64 t467)) (fun _ hk => hk.2) (.int .i64 t468)) (fun _ hk => hk.2) (.int .i64 t469)) (fun _ hk => hk.2) (.string t470)) (fun _ hk => hk.2) (.int .i64 t471)) (fun _ hk => hk.2) (.slice Ao14 t472.length co14)) (fun _ hk => hk.2) (.slice Ao15 t475.length co15)) (fun _ h_ => h_.1))))) (below_size (Short.hB HB))); have n7_ := mk_ (blk_below (g := gb480) (o := .cells #[.int .i64 t460, .int .i64 t461, .slice Ao13 t462.length co13, .int .i64 t465, .int .i64 t466, .int .i64 t467, .int .i64 t468, .int .i64 t469, .string t470, .int .i64 t471, .slice Ao14 t472.length co14, .slice Ao15 t475.length co15] 32 (0, 0)) (by (with_reducible repeat (first | refine blk_drewN ?_ _ | refine blk_drew ?_ | refine blk_alloc ?_ _)); refine blk_put (cs := #[.int .i64 t460, .int .i64 t461, .slice Ao13 t462.length co13, .int .i64 t465, .int .i64 t466, .int .i64 t467, .int .i64 t468, .int .i64 t469, .string t470, .int .i64 t471, .slice Ao14 t472.length co14, .slice none 0 0]) ?_ 11 _ rfl; (with_reducible repeat (first | refine blk_drewN ?_ _ | refine blk_drew ?_ | refine blk_alloc ?_ _)); refine blk_put (cs := #[.int .i64 t460, .int .i64 t461, .slice Ao13 t462.length co13, .int .i64 t465, .int .i64 t466, .int .i64 t467, .int .i64 t468, .int .i64 t469, .string t470, .int .i64 t471, .slice none 0 0, .slice none 0 0]) ?_ 10 _ rfl; (with_reducible repeat (first | refine blk_drewN ?_ _ | refine blk_drew ?_ | refine blk_alloc ?_ _)); refine blk_put (cs := #[.int .i64 t460, .int .i64 t461, .slice Ao13 t462.length co13, .int .i64 t465, .int .i64 t466, .int .i64 t467, .int .i64 t468, .int .i64 t469, .string t470, .int .i64 0, .slice none 0 0, .slice none 0 0]) ?_ 9 _ rfl; (with_reducible repeat (first | refine blk_drewN ?_ _ | refine blk_drew ?_ | refine blk_alloc ?_ _)); refine blk_put (cs := #[.int .i64 t460, .int .i64 t461, .slice Ao13 t462.length co13, .int .i64 t465, .int .i64 t466, .int .i64 t467, .int .i64 t468, .int .i64 t469, .string (⟨#[]⟩ : ByteArray), .int .i64 0, .slice none 0 0, .slice none 0 0]) ?_ 8 _ rfl; (with_reducible repeat (first | refine blk_drewN ?_ _ | refine blk_drew ?_ | refine blk_alloc ?_ _)); refine blk_put (cs := #[.int .i64 t460, .int .i64 t461, .slice Ao13 t462.length co13, .int .i64 t465, .int .i64 t466, .int .i64 t467, .int .i64 t468, .int .i64 0, .string (⟨#[]⟩ : ByteArray), .int .i64 0, .slice none 0 0, .slice none 0 0]) ?_ 7 _ rfl; (with_reducible repeat (first | refine blk_drewN ?_ _ | refine blk_drew ?_ | refine blk_alloc ?_ _)); refine blk_put (cs := #[.int .i64 t460, .int .i64 t461, .slice Ao13 t462.length co13, .int .i64 t465, .int .i64 t466, .int .i64 t467, .int .i64 0, .int .i64 0, .string (⟨#[]⟩ : ByteArray), .int .i64 0, .slice none 0 0, .slice none 0 0]) ?_ 6 _ rfl; (with_reducible repeat (first | refine blk_drewN ?_ _ | refine blk_drew ?_ | refine blk_alloc ?_ _)); refine blk_put (cs := #[.int .i64 t460, .int .i64 t461, .slice Ao13 t462.length co13, .int .i64 t465, .int .i64 t466, .int .i64 0, .int .i64 0, .int .i64 0, .string (⟨#[]⟩ : ByteArray), .int .i64 0, .slice none 0 0, .slice none 0 0]) ?_ 5 _ rfl; (with_reducible repeat (first | refine blk_drewN ?_ _ | refine blk_drew ?_ | refine blk_alloc ?_ _)); refine blk_put (cs := #[.int .i64 t460, .int .i64 t461, .slice Ao13 t462.length co13, .int .i64 t465, .int .i64 0, .int .i64 0, .int .i64 0, .int .i64 0, .string (⟨#[]⟩ : ByteArray), .int .i64 0, .slice none 0 0, .slice none 0 0]) ?_ 4 _ rfl; (with_reducible repeat (first | refine blk_drewN ?_ _ | refine blk_drew ?_ | refine blk_alloc ?_ _)); refine blk_put (cs := #[.int .i64 t460, .int .i64 t461, .slice Ao13 t462.length co13, .int .i64 0, .int .i64 0, .int .i64 0, .int .i64 0, .int .i64 0, .string (⟨#[]⟩ : ByteArray), .int .i64 0, .slice none 0 0, .slice none 0 0]) ?_ 3 _ rfl; (with_reducible repeat (first | refine blk_drewN ?_ _ | refine blk_drew ?_ | refine blk_alloc ?_ _)); refine blk_put (cs := #[.int .i64 t460, .int .i64 t461, .slice none 0 0, .int .i64 0, .int .i64 0, .int .i64 0, .int .i64 0, .int .i64 0, .string (⟨#[]⟩ : ByteArray), .int .i64 0, .slice none 0 0, .slice none 0 0]) ?_ 2 _ rfl; (with_reducible repeat (first | refine blk_drewN ?_ _ | refine blk_drew ?_ | refine blk_alloc ?_ _)); refine blk_put (cs := #[.int .i64 t460, .int .i64 0, .slice none 0 0, .int .i64 0, .int .i64 0, .int .i64 0, .int .i64 0, .int .i64 0, .string (⟨#[]⟩ : ByteArray), .int .i64 0, .slice none 0 0, .slice none 0 0]) ?_ 1 _ rfl; (with_reducible repeat (first | refine blk_drewN ?_ _ | refine blk_drew ?_ | refine blk_alloc ?_ _)); refine blk_put (cs := #[.int .i64 0, .int .i64 0, .slice none 0 0, .int .i64 0, .int .i64 0, .int .i64 0, .int .i64 0, .int .i64 0, .string (⟨#[]⟩ : ByteArray), .int .i64 0, .slice none 0 0, .slice none 0 0]) ?_ 0 _ rfl; (with_reducible repeat (first | refine blk_drewN ?_ _ | refine blk_drew ?_ | refine blk_alloc ?_ _)); exact BK480.out) hb); have n8_ := mk_ (below_step (Short.hB HB) hb); clear HO459 HO464 HO474 HO477 BK480 HB; revert n0_ n1_ n2_ n3_ n4_ n5_ n6_ n7_ n8_; intro HO459 HO464 HO474 HO477 HO485 HO495 HO498 BK480 HB; (try clear hb ho0); (try clear ho1); (try clear ho2)) | ((with_reducible refine gate_dst (N := 9) rfl ?_); refine box_event ?hg (N := 9) ?hd (cs := #[.int .i64 0, .int .i64 0, .slice none 0 0, .int .i64 0, .int .i64 0, .int .i64 0, .int .i64 0, .int .i64 0, .string (⟨#[]⟩ : ByteArray), .int .i64 0, .slice none 0 0, .slice none 0 0]) (t := 32) ?hr ?_; (case hd => rfl); (case hg => rfl); (case hr => first | (go_simp; done) | (go_simp; rfl)); intro gb501 hg w17 hbox hb; have n0_ := mk_ (R_below (ZKR HO459) hb); have n1_ := mk_ (R_below (ZKR HO464) hb); have n2_ := mk_ (R_below (ZKR HO474) hb); have n3_ := mk_ (R_below (ZKR HO477) hb); have n4_ := mk_ (R_below (ZKR HO485) hb); have n5_ := mk_ (R_below (ZKR HO495) hb); have n6_ := mk_ (R_below (ZKR HO498) hb); have n7_ := mk_ (bB_ BK480 hb); have n8_ := mk_ (below_step (Short.hB HB) hb); have n9_ := mk_ (hbox); have n10_ := mk_ ((by rw [hg]; exact (below_size (Short.hB HB)) : w.heap.size ≤ gb501)); have n11_ := mk_ ((by rw [hg]; exact (below_size (Short.hB HB)) : w.heap.size ≤ gb501)); have n12_ := mk_ ((by rw [hg]; exact Nat.ne_of_lt (blk_lt (Short.bK BK480)) : gb480 ≠ gb501)); have n13_ := mk_ ((by rw [hg]; exact Nat.ne_of_gt (blk_lt (Short.bK BK480)) : gb501 ≠ gb480)); clear HO459 HO464 HO474 HO477 HO485 HO495 HO498 BK480 HB; revert n0_ n1_ n2_ n3_ n4_ n5_ n6_ n7_ n8_ n9_ n10_ n11_ n12_ n13_; intro HO459 HO464 HO474 HO477 HO485 HO495 HO498 BK480 HB BK501 GW501 GE501 NB480_501 NB501_480; clear hb hbox hg; have hnb18 := NB501_480.out; have hnc18 := NB480_501.out; have hcz19_0 : w17.cell? ⟨gb501, 0, none⟩ = some (.int .i64 0) := kc_ BK501 0; have hcz19_1 : w17.cell? ⟨gb501, 1, none⟩ = some (.int .i64 0) := kc_ BK501 1; have hcz19_2 : w17.cell? ⟨gb501, 2, none⟩ = some (.slice none 0 0) := kc_ BK501 2; have hcz19_3 : w17.cell? ⟨gb501, 3, none⟩ = some (.int .i64 0) := kc_ BK501 3; have hcz19_4 : w17.cell? ⟨gb501, 4, none⟩ = some (.int .i64 0) := kc_ BK501 4; have hcz19_5 : w17.cell? ⟨gb501, 5, none⟩ = some (.int .i64 0) := kc_ BK501 5; have hcz19_6 : w17.cell? ⟨gb501, 6, none⟩ = some (.int .i64 0) := kc_ BK501 6; have hcz19_7 : w17.cell? ⟨gb501, 7, none⟩ = some (.int .i64 0) := kc_ BK501 7; have hcz19_8 : w17.cell? ⟨gb501, 8, none⟩ = some (.string (⟨#[]⟩ : ByteArray)) := kc_ BK501 8; have hcz19_9 : w17.cell? ⟨gb501, 9, none⟩ = some (.int .i64 0) := kc_ BK501 9; have hcz19_10 : w17.cell? ⟨gb501, 10, none⟩ = some (.slice none 0 0) := kc_ BK501 10; have hcz19_11 : w17.cell? ⟨gb501, 11, none⟩ = some (.slice none 0 0) := kc_ BK501 11; have hfz19_0 := blk_frozen BK501.out 0; have hfz19_1 := blk_frozen BK501.out 1; have hfz19_2 := blk_frozen BK501.out 2; have hfz19_3 := blk_frozen BK501.out 3; have hfz19_4 := blk_frozen BK501.out 4; have hfz19_5 := blk_frozen BK501.out 5; have hfz19_6 := blk_frozen BK501.out 6; have hfz19_7 := blk_frozen BK501.out 7; have hfz19_8 := blk_frozen BK501.out 8; have hfz19_9 := blk_frozen BK501.out 9; have hfz19_10 := blk_frozen BK501.out 10; have hfz19_11 := blk_frozen BK501.out 11; obtain ⟨Ao20, co20, eo20⟩ := R_slice HO485.out; subst eo20; obtain ⟨Ao21, co21, eo21⟩ := R_slice HO495.out; subst eo21; obtain ⟨Ao22, co22, eo22⟩ := R_slice HO498.out; subst eo22))
 (try simp only [Act.put, List.setIfInBounds_toArray, List.set_cons_zero, List.set_cons_succ])
 go_cut [51] (fun v51 wc => ∃ (kq : Nat) (x51_6 : Bool), v51 = .bool x51_6 ∧ Aside0 (raddlelaw07_OpReads.j0 kq l0 a1 t478 t479 x51_6 t460 t461 t462 t465 t466 t467 t468 t469 t470 t471 t472 t475 = some r) ∧ Aside0 (kq ≤ k) ∧ Aside0 (Kd.R (Kd.int .i64) 3 wc w.heap.size (fun k_ => nb_ k_ ((.slice Ao20 t483.length co20))) (.slice Ao13 t462.length co13) t462) ∧ Aside0 (Kd.R k84 84 wc w.heap.size (fun k_ => nb_ k_ ((.slice Ao21 t493.length co21))) (.slice Ao14 t472.length co14) t472) ∧ Aside0 (Kd.R k25 25 wc w.heap.size (fun k_ => nb_ k_ ((.slice Ao22 t496.length co22))) (.slice Ao15 t475.length co15) t475) ∧ Aside0 (Kd.R (Kd.int .i64) 3 wc w.heap.size (fun k_ => nb_ k_ ((.slice Ao13 t462.length co13))) (.slice Ao20 t483.length co20) t483) ∧ Aside0 (Kd.R k84 84 wc w.heap.size (fun k_ => nb_ k_ ((.slice Ao14 t472.length co14))) (.slice Ao21 t493.length co21) t493) ∧ Aside0 (Kd.R k25 25 wc w.heap.size (fun k_ => nb_ k_ ((.slice Ao15 t475.length co15))) (.slice Ao22 t496.length co22) t496) ∧ Aside0 (wc.heap[gb480]? = some (.cells #[.int .i64 t460, .int .i64 t461, (.slice Ao13 t462.length co13), .int .i64 t465, .int .i64 t466, .int .i64 t467, .int .i64 t468, .int .i64 t469, .string t470, .int .i64 t471, (.slice Ao14 t472.length co14), (.slice Ao15 t475.length co15)] 32 (0, 0))) ∧ Aside0 (wc.heap[gb501]? = some (.cells #[.int .i64 t481, .int .i64 t482, (.slice Ao20 t483.length co20), .int .i64 t486, .int .i64 t487, .int .i64 t488, .int .i64 t489, .int .i64 t490, .string t491, .int .i64 t492, (.slice Ao21 t493.length co21), (.slice Ao22 t496.length co22)] 32 (0, 0))) ∧ Aside0 (Below w.heap.size w wc))
 case first =>
  have H := HC7.out
  clear HC7
  by_cases c23 : t479 = t500
  rotate_left
  ·
   rw [if_neg c23] at H
   have c23b0 : (t479 == t500) = false := beq_eq_false_iff_ne.mpr c23
   have c23b1 : (t479 != t500) = true := bne_iff_ne.mpr c23
   (first | rw [c23b0] | (simp only [i64_w, i32_w]; rw [c23b0]) | skip)
   exact absurd H (by rw [hrt]; cases k <;> simp [raddlelaw07_OpReads.j0])
  rw [if_pos c23] at H
  have c23b0 : (t479 == t500) = true := beq_iff_eq.mpr c23
  have c23b1 : (t479 != t500) = false := bne_eq_false_iff_eq.mpr c23
  clear c23
  (first | rw [c23b0] | (simp only [i64_w, i32_w]; rw [c23b0]) | skip)
  by_cases c24 : t478 = t499
  rotate_left
  ·
   rw [if_neg c24] at H
   have c24b0 : (t478 == t499) = false := beq_eq_false_iff_ne.mpr c24
   have c24b1 : (t478 != t499) = true := bne_iff_ne.mpr c24
   exact absurd H (by rw [hrt]; cases k <;> simp [raddlelaw07_OpReads.j0])
  rw [if_pos c24] at H
  have c24b0 : (t478 == t499) = true := beq_iff_eq.mpr c24
  have c24b1 : (t478 != t499) = false := bne_eq_false_iff_eq.mpr c24
  clear c24
  replace H := Option.bind_eq_some_iff.mp H
  obtain ⟨t502, A250, H⟩ := H
  replace H : (if t502 = true then ((raddlekeep_Bytes.f k t457 l0).bind fun t503 => (raddlelaw07_OpReads.j0 k l0 a1 t478 t479 (!t503) t460 t461 t462 t465 t466 t467 t468 t469 t470 t471 t472 t475)) else (raddlelaw07_OpReads.j0 k l0 a1 t478 t479 true t460 t461 t462 t465 t466 t467 t468 t469 t470 t471 t472 t475)) = some r := H
  have A25 := mk_ A250
  clear A250
  by_cases c26 : t502 = true
  rotate_left
  ·
   replace c26 := Bool.eq_false_iff.mpr c26
   subst c26
   rw [if_neg (show ¬ (false = true) by decide)] at H
   exact absurd H (by rw [hrt]; cases k <;> simp [raddlelaw07_OpReads.j0])
  subst c26
  rw [if_pos rfl] at H
  replace H := Option.bind_eq_some_iff.mp H
  obtain ⟨t503, A270, H⟩ := H
  replace H : (raddlelaw07_OpReads.j0 k l0 a1 t478 t479 (!t503) t460 t461 t462 t465 t466 t467 t468 t469 t470 t471 t472 t475) = some r := H
  have A27 := mk_ A270
  clear A270
  have H' := mk_ H
  clear H
  have hnb28 := NB480_501.out
  have hnc28 := NB501_480.out
  have hcz29_0 : w17.cell? ⟨gb480, 0, none⟩ = some (.int .i64 t460) := kc_ BK480 0
  have hcz29_1 : w17.cell? ⟨gb480, 1, none⟩ = some (.int .i64 t461) := kc_ BK480 1
  have hcz29_2 : w17.cell? ⟨gb480, 2, none⟩ = some (.slice Ao13 t462.length co13) := kc_ BK480 2
  have hcz29_3 : w17.cell? ⟨gb480, 3, none⟩ = some (.int .i64 t465) := kc_ BK480 3
  have hcz29_4 : w17.cell? ⟨gb480, 4, none⟩ = some (.int .i64 t466) := kc_ BK480 4
  have hcz29_5 : w17.cell? ⟨gb480, 5, none⟩ = some (.int .i64 t467) := kc_ BK480 5
  have hcz29_6 : w17.cell? ⟨gb480, 6, none⟩ = some (.int .i64 t468) := kc_ BK480 6
  have hcz29_7 : w17.cell? ⟨gb480, 7, none⟩ = some (.int .i64 t469) := kc_ BK480 7
  have hcz29_8 : w17.cell? ⟨gb480, 8, none⟩ = some (.string t470) := kc_ BK480 8
  have hcz29_9 : w17.cell? ⟨gb480, 9, none⟩ = some (.int .i64 t471) := kc_ BK480 9
  have hcz29_10 : w17.cell? ⟨gb480, 10, none⟩ = some (.slice Ao14 t472.length co14) := kc_ BK480 10
  have hcz29_11 : w17.cell? ⟨gb480, 11, none⟩ = some (.slice Ao15 t475.length co15) := kc_ BK480 11
  have hfz29_0 := blk_frozen BK480.out 0
  have hfz29_1 := blk_frozen BK480.out 1
  have hfz29_2 := blk_frozen BK480.out 2
  have hfz29_3 := blk_frozen BK480.out 3
  have hfz29_4 := blk_frozen BK480.out 4
  have hfz29_5 := blk_frozen BK480.out 5
  have hfz29_6 := blk_frozen BK480.out 6
  have hfz29_7 := blk_frozen BK480.out 7
  have hfz29_8 := blk_frozen BK480.out 8
  have hfz29_9 := blk_frozen BK480.out 9
  have hfz29_10 := blk_frozen BK480.out 10
  have hfz29_11 := blk_frozen BK480.out 11
  have hcz30_0 : w17.cell? ⟨gb501, 0, none⟩ = some (.int .i64 0) := kc_ BK501 0
  have hcz30_1 : w17.cell? ⟨gb501, 1, none⟩ = some (.int .i64 0) := kc_ BK501 1
  have hcz30_2 : w17.cell? ⟨gb501, 2, none⟩ = some (.slice none 0 0) := kc_ BK501 2
  have hcz30_3 : w17.cell? ⟨gb501, 3, none⟩ = some (.int .i64 0) := kc_ BK501 3
  have hcz30_4 : w17.cell? ⟨gb501, 4, none⟩ = some (.int .i64 0) := kc_ BK501 4
  have hcz30_5 : w17.cell? ⟨gb501, 5, none⟩ = some (.int .i64 0) := kc_ BK501 5
  have hcz30_6 : w17.cell? ⟨gb501, 6, none⟩ = some (.int .i64 0) := kc_ BK501 6
  have hcz30_7 : w17.cell? ⟨gb501, 7, none⟩ = some (.int .i64 0) := kc_ BK501 7
  have hcz30_8 : w17.cell? ⟨gb501, 8, none⟩ = some (.string (⟨#[]⟩ : ByteArray)) := kc_ BK501 8
  have hcz30_9 : w17.cell? ⟨gb501, 9, none⟩ = some (.int .i64 0) := kc_ BK501 9
  have hcz30_10 : w17.cell? ⟨gb501, 10, none⟩ = some (.slice none 0 0) := kc_ BK501 10
  have hcz30_11 : w17.cell? ⟨gb501, 11, none⟩ = some (.slice none 0 0) := kc_ BK501 11
  have hfz30_0 := blk_frozen BK501.out 0
  have hfz30_1 := blk_frozen BK501.out 1
  have hfz30_2 := blk_frozen BK501.out 2
  have hfz30_3 := blk_frozen BK501.out 3
  have hfz30_4 := blk_frozen BK501.out 4
  have hfz30_5 := blk_frozen BK501.out 5
  have hfz30_6 := blk_frozen BK501.out 6
  have hfz30_7 := blk_frozen BK501.out 7
  have hfz30_8 := blk_frozen BK501.out 8
  have hfz30_9 := blk_frozen BK501.out 9
  have hfz30_10 := blk_frozen BK501.out 10
  have hfz30_11 := blk_frozen BK501.out 11
  go_wp2_with (first | (go_at_call 13; (with_reducible refine (raddlekeep_Op.calls k t460 t461 _ _ t462 t465 t466 t467 t468 t469 t470 t471 _ _ t472 _ _ t475 t481 t482 _ _ t483 t486 t487 t488 t489 t490 t491 t492 _ _ t493 _ _ t496 true _ ?side1 ?side2 ?side3 ?side4 ?side5 ?side6 ?side7 ?side8 ?side9 ?side10 ?side11 ?side12 A25.out).mono ?_); (case side1 => refine (R_reads' (e := 3) (base := w.heap.size) (ok := fun k_ => (True ∧ nb_ k_ (.slice Ao20 t483.length co20))) (n := t462.length) (c := co13) ?_).2.2; exact (by (with_reducible repeat (first | apply R_alloc | apply R_drewN | apply R_drew)); exact (R_mono (R_far (p := ⟨gb501, 11, none⟩) (R_far (p := ⟨gb501, 10, none⟩) (R_far (p := ⟨gb501, 9, none⟩) (R_far (p := ⟨gb501, 8, none⟩) (R_far (p := ⟨gb501, 7, none⟩) (R_far (p := ⟨gb501, 6, none⟩) (R_far (p := ⟨gb501, 5, none⟩) (R_far (p := ⟨gb501, 4, none⟩) (R_far (p := ⟨gb501, 3, none⟩) (R_far (p := ⟨gb501, 2, none⟩) (R_far (p := ⟨gb501, 1, none⟩) (R_far (p := ⟨gb501, 0, none⟩) (R_types HO464.out BK501.out z5) (fun _ hk => hk.2) (.int .i64 t481)) (fun _ hk => hk.2) (.int .i64 t482)) (fun _ hk => hk.2) (.slice Ao20 t483.length co20)) (fun _ hk => hk.2) (.int .i64 t486)) (fun _ hk => hk.2) (.int .i64 t487)) (fun _ hk => hk.2) (.int .i64 t488)) (fun _ hk => hk.2) (.int .i64 t489)) (fun _ hk => hk.2) (.int .i64 t490)) (fun _ hk => hk.2) (.string t491)) (fun _ hk => hk.2) (.int .i64 t492)) (fun _ hk => hk.2) (.slice Ao21 t493.length co21)) (fun _ hk => hk.2) (.slice Ao22 t496.length co22)) (fun _ h_ => h_.1)))); (case side2 => exact (R_reads' HO464.out).2.1); (case side3 => refine (R_reads' (e := 84) (base := w.heap.size) (ok := fun k_ => (True ∧ nb_ k_ (.slice Ao21 t493.length co21))) (n := t472.length) (c := co14) ?_).2.2; exact (by (with_reducible repeat (first | apply R_alloc | apply R_drewN | apply R_drew)); exact (R_mono (R_far (p := ⟨gb501, 11, none⟩) (R_far (p := ⟨gb501, 10, none⟩) (R_far (p := ⟨gb501, 9, none⟩) (R_far (p := ⟨gb501, 8, none⟩) (R_far (p := ⟨gb501, 7, none⟩) (R_far (p := ⟨gb501, 6, none⟩) (R_far (p := ⟨gb501, 5, none⟩) (R_far (p := ⟨gb501, 4, none⟩) (R_far (p := ⟨gb501, 3, none⟩) (R_far (p := ⟨gb501, 2, none⟩) (R_far (p := ⟨gb501, 1, none⟩) (R_far (p := ⟨gb501, 0, none⟩) (R_types HO474.out BK501.out z5) (fun _ hk => hk.2) (.int .i64 t481)) (fun _ hk => hk.2) (.int .i64 t482)) (fun _ hk => hk.2) (.slice Ao20 t483.length co20)) (fun _ hk => hk.2) (.int .i64 t486)) (fun _ hk => hk.2) (.int .i64 t487)) (fun _ hk => hk.2) (.int .i64 t488)) (fun _ hk => hk.2) (.int .i64 t489)) (fun _ hk => hk.2) (.int .i64 t490)) (fun _ hk => hk.2) (.string t491)) (fun _ hk => hk.2) (.int .i64 t492)) (fun _ hk => hk.2) (.slice Ao21 t493.length co21)) (fun _ hk => hk.2) (.slice Ao22 t496.length co22)) (fun _ h_ => h_.1)))); (case side4 => exact (R_reads' HO474.out).2.1); (case side5 => refine (R_reads' (e := 25) (base := w.heap.size) (ok := fun k_ => (True ∧ nb_ k_ (.slice Ao22 t496.length co22))) (n := t475.length) (c := co15) ?_).2.2; exact (by (with_reducible repeat (first | apply R_alloc | apply R_drewN | apply R_drew)); exact (R_mono (R_far (p := ⟨gb501, 11, none⟩) (R_far (p := ⟨gb501, 10, none⟩) (R_far (p := ⟨gb501, 9, none⟩) (R_far (p := ⟨gb501, 8, none⟩) (R_far (p := ⟨gb501, 7, none⟩) (R_far (p := ⟨gb501, 6, none⟩) (R_far (p := ⟨gb501, 5, none⟩) (R_far (p := ⟨gb501, 4, none⟩) (R_far (p := ⟨gb501, 3, none⟩) (R_far (p := ⟨gb501, 2, none⟩) (R_far (p := ⟨gb501, 1, none⟩) (R_far (p := ⟨gb501, 0, none⟩) (R_types HO477.out BK501.out z5) (fun _ hk => hk.2) (.int .i64 t481)) (fun _ hk => hk.2) (.int .i64 t482)) (fun _ hk => hk.2) (.slice Ao20 t483.length co20)) (fun _ hk => hk.2) (.int .i64 t486)) (fun _ hk => hk.2) (.int .i64 t487)) (fun _ hk => hk.2) (.int .i64 t488)) (fun _ hk => hk.2) (.int .i64 t489)) (fun _ hk => hk.2) (.int .i64 t490)) (fun _ hk => hk.2) (.string t491)) (fun _ hk => hk.2) (.int .i64 t492)) (fun _ hk => hk.2) (.slice Ao21 t493.length co21)) (fun _ hk => hk.2) (.slice Ao22 t496.length co22)) (fun _ h_ => h_.1)))); (case side6 => exact (R_reads' HO477.out).2.1); (case side7 => refine (R_reads' (e := 3) (base := w.heap.size) (ok := fun k_ => (True ∧ nb_ k_ (.slice Ao13 t462.length co13))) (n := t483.length) (c := co20) ?_).2.2; exact (by (with_reducible repeat (first | apply R_alloc | apply R_drewN | apply R_drew)); exact (R_mono (R_far (p := ⟨gb501, 11, none⟩) (R_far (p := ⟨gb501, 10, none⟩) (R_far (p := ⟨gb501, 9, none⟩) (R_far (p := ⟨gb501, 8, none⟩) (R_far (p := ⟨gb501, 7, none⟩) (R_far (p := ⟨gb501, 6, none⟩) (R_far (p := ⟨gb501, 5, none⟩) (R_far (p := ⟨gb501, 4, none⟩) (R_far (p := ⟨gb501, 3, none⟩) (R_far (p := ⟨gb501, 2, none⟩) (R_far (p := ⟨gb501, 1, none⟩) (R_far (p := ⟨gb501, 0, none⟩) (R_types HO485.out BK501.out z5) (fun _ hk => hk.2) (.int .i64 t481)) (fun _ hk => hk.2) (.int .i64 t482)) (fun _ hk => hk.2) (.slice Ao20 t483.length co20)) (fun _ hk => hk.2) (.int .i64 t486)) (fun _ hk => hk.2) (.int .i64 t487)) (fun _ hk => hk.2) (.int .i64 t488)) (fun _ hk => hk.2) (.int .i64 t489)) (fun _ hk => hk.2) (.int .i64 t490)) (fun _ hk => hk.2) (.string t491)) (fun _ hk => hk.2) (.int .i64 t492)) (fun _ hk => hk.2) (.slice Ao21 t493.length co21)) (fun _ hk => hk.2) (.slice Ao22 t496.length co22)) (fun _ h_ => h_.1)))); (case side8 => exact (R_reads' HO485.out).2.1); (case side9 => refine (R_reads' (e := 84) (base := w.heap.size) (ok := fun k_ => (True ∧ nb_ k_ (.slice Ao14 t472.length co14))) (n := t493.length) (c := co21) ?_).2.2; exact (by (with_reducible repeat (first | apply R_alloc | apply R_drewN | apply R_drew)); exact (R_mono (R_far (p := ⟨gb501, 11, none⟩) (R_far (p := ⟨gb501, 10, none⟩) (R_far (p := ⟨gb501, 9, none⟩) (R_far (p := ⟨gb501, 8, none⟩) (R_far (p := ⟨gb501, 7, none⟩) (R_far (p := ⟨gb501, 6, none⟩) (R_far (p := ⟨gb501, 5, none⟩) (R_far (p := ⟨gb501, 4, none⟩) (R_far (p := ⟨gb501, 3, none⟩) (R_far (p := ⟨gb501, 2, none⟩) (R_far (p := ⟨gb501, 1, none⟩) (R_far (p := ⟨gb501, 0, none⟩) (R_types HO495.out BK501.out z5) (fun _ hk => hk.2) (.int .i64 t481)) (fun _ hk => hk.2) (.int .i64 t482)) (fun _ hk => hk.2) (.slice Ao20 t483.length co20)) (fun _ hk => hk.2) (.int .i64 t486)) (fun _ hk => hk.2) (.int .i64 t487)) (fun _ hk => hk.2) (.int .i64 t488)) (fun _ hk => hk.2) (.int .i64 t489)) (fun _ hk => hk.2) (.int .i64 t490)) (fun _ hk => hk.2) (.string t491)) (fun _ hk => hk.2) (.int .i64 t492)) (fun _ hk => hk.2) (.slice Ao21 t493.length co21)) (fun _ hk => hk.2) (.slice Ao22 t496.length co22)) (fun _ h_ => h_.1)))); (case side10 => exact (R_reads' HO495.out).2.1); (case side11 => refine (R_reads' (e := 25) (base := w.heap.size) (ok := fun k_ => (True ∧ nb_ k_ (.slice Ao15 t475.length co15))) (n := t496.length) (c := co22) ?_).2.2; exact (by (with_reducible repeat (first | apply R_alloc | apply R_drewN | apply R_drew)); exact (R_mono (R_far (p := ⟨gb501, 11, none⟩) (R_far (p := ⟨gb501, 10, none⟩) (R_far (p := ⟨gb501, 9, none⟩) (R_far (p := ⟨gb501, 8, none⟩) (R_far (p := ⟨gb501, 7, none⟩) (R_far (p := ⟨gb501, 6, none⟩) (R_far (p := ⟨gb501, 5, none⟩) (R_far (p := ⟨gb501, 4, none⟩) (R_far (p := ⟨gb501, 3, none⟩) (R_far (p := ⟨gb501, 2, none⟩) (R_far (p := ⟨gb501, 1, none⟩) (R_far (p := ⟨gb501, 0, none⟩) (R_types HO498.out BK501.out z5) (fun _ hk => hk.2) (.int .i64 t481)) (fun _ hk => hk.2) (.int .i64 t482)) (fun _ hk => hk.2) (.slice Ao20 t483.length co20)) (fun _ hk => hk.2) (.int .i64 t486)) (fun _ hk => hk.2) (.int .i64 t487)) (fun _ hk => hk.2) (.int .i64 t488)) (fun _ hk => hk.2) (.int .i64 t489)) (fun _ hk => hk.2) (.int .i64 t490)) (fun _ hk => hk.2) (.string t491)) (fun _ hk => hk.2) (.int .i64 t492)) (fun _ hk => hk.2) (.slice Ao21 t493.length co21)) (fun _ hk => hk.2) (.slice Ao22 t496.length co22)) (fun _ h_ => h_.1)))); (case side12 => exact (R_reads' HO498.out).2.1); rintro e w31 ⟨rfl, hb⟩; have n0_ := mk_ (R_below (by (with_reducible repeat (first | apply R_alloc | apply R_drewN | apply R_drew)); exact (R_mono (R_far (p := ⟨gb501, 11, none⟩) (R_far (p := ⟨gb501, 10, none⟩) (R_far (p := ⟨gb501, 9, none⟩) (R_far (p := ⟨gb501, 8, none⟩) (R_far (p := ⟨gb501, 7, none⟩) (R_far (p := ⟨gb501, 6, none⟩) (R_far (p := ⟨gb501, 5, none⟩) (R_far (p := ⟨gb501, 4, none⟩) (R_far (p := ⟨gb501, 3, none⟩) (R_far (p := ⟨gb501, 2, none⟩) (R_far (p := ⟨gb501, 1, none⟩) (R_far (p := ⟨gb501, 0, none⟩) (R_types HO459.out BK501.out z5) (fun _ hk => hk.2) (.int .i64 t481)) (fun _ hk => hk.2) (.int .i64 t482)) (fun _ hk => hk.2) (.slice Ao20 t483.length co20)) (fun _ hk => hk.2) (.int .i64 t486)) (fun _ hk => hk.2) (.int .i64 t487)) (fun _ hk => hk.2) (.int .i64 t488)) (fun _ hk => hk.2) (.int .i64 t489)) (fun _ hk => hk.2) (.int .i64 t490)) (fun _ hk => hk.2) (.string t491)) (fun _ hk => hk.2) (.int .i64 t492)) (fun _ hk => hk.2) (.slice Ao21 t493.length co21)) (fun _ hk => hk.2) (.slice Ao22 t496.length co22)) (fun _ h_ => h_.1))) hb); have n1_ := mk_ (R_below (by (with_reducible repeat (first | apply R_alloc | apply R_drewN | apply R_drew)); exact (R_mono (R_far (p := ⟨gb501, 11, none⟩) (R_far (p := ⟨gb501, 10, none⟩) (R_far (p := ⟨gb501, 9, none⟩) (R_far (p := ⟨gb501, 8, none⟩) (R_far (p := ⟨gb501, 7, none⟩) (R_far (p := ⟨gb501, 6, none⟩) (R_far (p := ⟨gb501, 5, none⟩) (R_far (p := ⟨gb501, 4, none⟩) (R_far (p := ⟨gb501, 3, none⟩) (R_far (p := ⟨gb501, 2, none⟩) (R_far (p := ⟨gb501, 1, none⟩) (R_far (p := ⟨gb501, 0, none⟩) (R_types HO464.out BK501.out z5) (fun _ hk => hk.2) (.int .i64 t481)) (fun _ hk => hk.2) (.int .i64 t482)) (fun _ hk => hk.2) (.slice Ao20 t483.length co20)) (fun _ hk => hk.2) (.int .i64 t486)) (fun _ hk => hk.2) (.int .i64 t487)) (fun _ hk => hk.2) (.int .i64 t488)) (fun _ hk => hk.2) (.int .i64 t489)) (fun _ hk => hk.2) (.int .i64 t490)) (fun _ hk => hk.2) (.string t491)) (fun _ hk => hk.2) (.int .i64 t492)) (fun _ hk => hk.2) (.slice Ao21 t493.length co21)) (fun _ hk => hk.2) (.slice Ao22 t496.length co22)) (fun _ h_ => h_.1))) hb); have n2_ := mk_ (R_below (by (with_reducible repeat (first | apply R_alloc | apply R_drewN | apply R_drew)); exact (R_mono (R_far (p := ⟨gb501, 11, none⟩) (R_far (p := ⟨gb501, 10, none⟩) (R_far (p := ⟨gb501, 9, none⟩) (R_far (p := ⟨gb501, 8, none⟩) (R_far (p := ⟨gb501, 7, none⟩) (R_far (p := ⟨gb501, 6, none⟩) (R_far (p := ⟨gb501, 5, none⟩) (R_far (p := ⟨gb501, 4, none⟩) (R_far (p := ⟨gb501, 3, none⟩) (R_far (p := ⟨gb501, 2, none⟩) (R_far (p := ⟨gb501, 1, none⟩) (R_far (p := ⟨gb501, 0, none⟩) (R_types HO474.out BK501.out z5) (fun _ hk => hk.2) (.int .i64 t481)) (fun _ hk => hk.2) (.int .i64 t482)) (fun _ hk => hk.2) (.slice Ao20 t483.length co20)) (fun _ hk => hk.2) (.int .i64 t486)) (fun _ hk => hk.2) (.int .i64 t487)) (fun _ hk => hk.2) (.int .i64 t488)) (fun _ hk => hk.2) (.int .i64 t489)) (fun _ hk => hk.2) (.int .i64 t490)) (fun _ hk => hk.2) (.string t491)) (fun _ hk => hk.2) (.int .i64 t492)) (fun _ hk => hk.2) (.slice Ao21 t493.length co21)) (fun _ hk => hk.2) (.slice Ao22 t496.length co22)) (fun _ h_ => h_.1))) hb); have n3_ := mk_ (R_below (by (with_reducible repeat (first | apply R_alloc | apply R_drewN | apply R_drew)); exact (R_mono (R_far (p := ⟨gb501, 11, none⟩) (R_far (p := ⟨gb501, 10, none⟩) (R_far (p := ⟨gb501, 9, none⟩) (R_far (p := ⟨gb501, 8, none⟩) (R_far (p := ⟨gb501, 7, none⟩) (R_far (p := ⟨gb501, 6, none⟩) (R_far (p := ⟨gb501, 5, none⟩) (R_far (p := ⟨gb501, 4, none⟩) (R_far (p := ⟨gb501, 3, none⟩) (R_far (p := ⟨gb501, 2, none⟩) (R_far (p := ⟨gb501, 1, none⟩) (R_far (p := ⟨gb501, 0, none⟩) (R_types HO477.out BK501.out z5) (fun _ hk => hk.2) (.int .i64 t481)) (fun _ hk => hk.2) (.int .i64 t482)) (fun _ hk => hk.2) (.slice Ao20 t483.length co20)) (fun _ hk => hk.2) (.int .i64 t486)) (fun _ hk => hk.2) (.int .i64 t487)) (fun _ hk => hk.2) (.int .i64 t488)) (fun _ hk => hk.2) (.int .i64 t489)) (fun _ hk => hk.2) (.int .i64 t490)) (fun _ hk => hk.2) (.string t491)) (fun _ hk => hk.2) (.int .i64 t492)) (fun _ hk => hk.2) (.slice Ao21 t493.length co21)) (fun _ hk => hk.2) (.slice Ao22 t496.length co22)) (fun _ h_ => h_.1))) hb); have n4_ := mk_ (R_below (by (with_reducible repeat (first | apply R_alloc | apply R_drewN | apply R_drew)); exact (R_mono (R_far (p := ⟨gb501, 11, none⟩) (R_far (p := ⟨gb501, 10, none⟩) (R_far (p := ⟨gb501, 9, none⟩) (R_far (p := ⟨gb501, 8, none⟩) (R_far (p := ⟨gb501, 7, none⟩) (R_far (p := ⟨gb501, 6, none⟩) (R_far (p := ⟨gb501, 5, none⟩) (R_far (p := ⟨gb501, 4, none⟩) (R_far (p := ⟨gb501, 3, none⟩) (R_far (p := ⟨gb501, 2, none⟩) (R_far (p := ⟨gb501, 1, none⟩) (R_far (p := ⟨gb501, 0, none⟩) (R_types HO485.out BK501.out z5) (fun _ hk => hk.2) (.int .i64 t481)) (fun _ hk => hk.2) (.int .i64 t482)) (fun _ hk => hk.2) (.slice Ao20 t483.length co20)) (fun _ hk => hk.2) (.int .i64 t486)) (fun _ hk => hk.2) (.int .i64 t487)) (fun _ hk => hk.2) (.int .i64 t488)) (fun _ hk => hk.2) (.int .i64 t489)) (fun _ hk => hk.2) (.int .i64 t490)) (fun _ hk => hk.2) (.string t491)) (fun _ hk => hk.2) (.int .i64 t492)) (fun _ hk => hk.2) (.slice Ao21 t493.length co21)) (fun _ hk => hk.2) (.slice Ao22 t496.length co22)) (fun _ h_ => h_.1))) hb); have n5_ := mk_ (R_below (by (with_reducible repeat (first | apply R_alloc | apply R_drewN | apply R_drew)); exact (R_mono (R_far (p := ⟨gb501, 11, none⟩) (R_far (p := ⟨gb501, 10, none⟩) (R_far (p := ⟨gb501, 9, none⟩) (R_far (p := ⟨gb501, 8, none⟩) (R_far (p := ⟨gb501, 7, none⟩) (R_far (p := ⟨gb501, 6, none⟩) (R_far (p := ⟨gb501, 5, none⟩) (R_far (p := ⟨gb501, 4, none⟩) (R_far (p := ⟨gb501, 3, none⟩) (R_far (p := ⟨gb501, 2, none⟩) (R_far (p := ⟨gb501, 1, none⟩) (R_far (p := ⟨gb501, 0, none⟩) (R_types HO495.out BK501.out z5) (fun _ hk => hk.2) (.int .i64 t481)) (fun _ hk => hk.2) (.int .i64 t482)) (fun _ hk => hk.2) (.slice Ao20 t483.length co20)) (fun _ hk => hk.2) (.int .i64 t486)) (fun _ hk => hk.2) (.int .i64 t487)) (fun _ hk => hk.2) (.int .i64 t488)) (fun _ hk => hk.2) (.int .i64 t489)) (fun _ hk => hk.2) (.int .i64 t490)) (fun _ hk => hk.2) (.string t491)) (fun _ hk => hk.2) (.int .i64 t492)) (fun _ hk => hk.2) (.slice Ao21 t493.length co21)) (fun _ hk => hk.2) (.slice Ao22 t496.length co22)) (fun _ h_ => h_.1))) hb); have n6_ := mk_ (R_below (by (with_reducible repeat (first | apply R_alloc | apply R_drewN | apply R_drew)); exact (R_mono (R_far (p := ⟨gb501, 11, none⟩) (R_far (p := ⟨gb501, 10, none⟩) (R_far (p := ⟨gb501, 9, none⟩) (R_far (p := ⟨gb501, 8, none⟩) (R_far (p := ⟨gb501, 7, none⟩) (R_far (p := ⟨gb501, 6, none⟩) (R_far (p := ⟨gb501, 5, none⟩) (R_far (p := ⟨gb501, 4, none⟩) (R_far (p := ⟨gb501, 3, none⟩) (R_far (p := ⟨gb501, 2, none⟩) (R_far (p := ⟨gb501, 1, none⟩) (R_far (p := ⟨gb501, 0, none⟩) (R_types HO498.out BK501.out z5) (fun _ hk => hk.2) (.int .i64 t481)) (fun _ hk => hk.2) (.int .i64 t482)) (fun _ hk => hk.2) (.slice Ao20 t483.length co20)) (fun _ hk => hk.2) (.int .i64 t486)) (fun _ hk => hk.2) (.int .i64 t487)) (fun _ hk => hk.2) (.int .i64 t488)) (fun _ hk => hk.2) (.int .i64 t489)) (fun _ hk => hk.2) (.int .i64 t490)) (fun _ hk => hk.2) (.string t491)) (fun _ hk => hk.2) (.int .i64 t492)) (fun _ hk => hk.2) (.slice Ao21 t493.length co21)) (fun _ hk => hk.2) (.slice Ao22 t496.length co22)) (fun _ h_ => h_.1))) hb); have n7_ := mk_ (blk_below (g := gb480) (o := .cells #[.int .i64 t460, .int .i64 t461, .slice Ao13 t462.length co13, .int .i64 t465, .int .i64 t466, .int .i64 t467, .int .i64 t468, .int .i64 t469, .string t470, .int .i64 t471, .slice Ao14 t472.length co14, .slice Ao15 t475.length co15] 32 (0, 0)) (by (with_reducible repeat (first | refine blk_drewN ?_ _ | refine blk_drew ?_ | refine blk_alloc ?_ _)); refine blk_far ?_ NB480_501.out _; (with_reducible repeat (first | refine blk_drewN ?_ _ | refine blk_drew ?_ | refine blk_alloc ?_ _)); refine blk_far ?_ NB480_501.out _; (with_reducible repeat (first | refine blk_drewN ?_ _ | refine blk_drew ?_ | refine blk_alloc ?_ _)); refine blk_far ?_ NB480_501.out _; (with_reducible repeat (first | refine blk_drewN ?_ _ | refine blk_drew ?_ | refine blk_alloc ?_ _)); refine blk_far ?_ NB480_501.out _; (with_reducible repeat (first | refine blk_drewN ?_ _ | refine blk_drew ?_ | refine blk_alloc ?_ _)); refine blk_far ?_ NB480_501.out _; (with_reducible repeat (first | refine blk_drewN ?_ _ | refine blk_drew ?_ | refine blk_alloc ?_ _)); refine blk_far ?_ NB480_501.out _; (with_reducible repeat (first | refine blk_drewN ?_ _ | refine blk_drew ?_ | refine blk_alloc ?_ _)); refine blk_far ?_ NB480_501.out _; (with_reducible repeat (first | refine blk_drewN ?_ _ | refine blk_drew ?_ | refine blk_alloc ?_ _)); refine blk_far ?_ NB480_501.out _; (with_reducible repeat (first | refine blk_drewN ?_ _ | refine blk_drew ?_ | refine blk_alloc ?_ _)); refine blk_far ?_ NB480_501.out _; (with_reducible repeat (first | refine blk_drewN ?_ _ | refine blk_drew ?_ | refine blk_alloc ?_ _)); refine blk_far ?_ NB480_501.out _; (with_reducible repeat (first | refine blk_drewN ?_ _ | refine blk_drew ?_ | refine blk_alloc ?_ _)); refine blk_far ?_ NB480_501.out _; (with_reducible repeat (first | refine blk_drewN ?_ _ | refine blk_drew ?_ | refine blk_alloc ?_ _)); refine blk_far ?_ NB480_501.out _; (with_reducible repeat (first | refine blk_drewN ?_ _ | refine blk_drew ?_ | refine blk_alloc ?_ _)); exact BK480.out) hb); have n8_ := mk_ (blk_below (g := gb501) (o := .cells #[.int .i64 t481, .int .i64 t482, .slice Ao20 t483.length co20, .int .i64 t486, .int .i64 t487, .int .i64 t488, .int .i64 t489, .int .i64 t490, .string t491, .int .i64 t492, .slice Ao21 t493.length co21, .slice Ao22 t496.length co22] 32 (0, 0)) (by (with_reducible repeat (first | refine blk_drewN ?_ _ | refine blk_drew ?_ | refine blk_alloc ?_ _)); refine blk_put (cs := #[.int .i64 t481, .int .i64 t482, .slice Ao20 t483.length co20, .int .i64 t486, .int .i64 t487, .int .i64 t488, .int .i64 t489, .int .i64 t490, .string t491, .int .i64 t492, .slice Ao21 t493.length co21, .slice none 0 0]) ?_ 11 _ rfl; (with_reducible repeat (first | refine blk_drewN ?_ _ | refine blk_drew ?_ | refine blk_alloc ?_ _)); refine blk_put (cs := #[.int .i64 t481, .int .i64 t482, .slice Ao20 t483.length co20, .int .i64 t486, .int .i64 t487, .int .i64 t488, .int .i64 t489, .int .i64 t490, .string t491, .int .i64 t492, .slice none 0 0, .slice none 0 0]) ?_ 10 _ rfl; (with_reducible repeat (first | refine blk_drewN ?_ _ | refine blk_drew ?_ | refine blk_alloc ?_ _)); refine blk_put (cs := #[.int .i64 t481, .int .i64 t482, .slice Ao20 t483.length co20, .int .i64 t486, .int .i64 t487, .int .i64 t488, .int .i64 t489, .int .i64 t490, .string t491, .int .i64 0, .slice none 0 0, .slice none 0 0]) ?_ 9 _ rfl; (with_reducible repeat (first | refine blk_drewN ?_ _ | refine blk_drew ?_ | refine blk_alloc ?_ _)); refine blk_put (cs := #[.int .i64 t481, .int .i64 t482, .slice Ao20 t483.length co20, .int .i64 t486, .int .i64 t487, .int .i64 t488, .int .i64 t489, .int .i64 t490, .string (⟨#[]⟩ : ByteArray), .int .i64 0, .slice none 0 0, .slice none 0 0]) ?_ 8 _ rfl; (with_reducible repeat (first | refine blk_drewN ?_ _ | refine blk_drew ?_ | refine blk_alloc ?_ _)); refine blk_put (cs := #[.int .i64 t481, .int .i64 t482, .slice Ao20 t483.length co20, .int .i64 t486, .int .i64 t487, .int .i64 t488, .int .i64 t489, .int .i64 0, .string (⟨#[]⟩ : ByteArray), .int .i64 0, .slice none 0 0, .slice none 0 0]) ?_ 7 _ rfl; (with_reducible repeat (first | refine blk_drewN ?_ _ | refine blk_drew ?_ | refine blk_alloc ?_ _)); refine blk_put (cs := #[.int .i64 t481, .int .i64 t482, .slice Ao20 t483.length co20, .int .i64 t486, .int .i64 t487, .int .i64 t488, .int .i64 0, .int .i64 0, .string (⟨#[]⟩ : ByteArray), .int .i64 0, .slice none 0 0, .slice none 0 0]) ?_ 6 _ rfl; (with_reducible repeat (first | refine blk_drewN ?_ _ | refine blk_drew ?_ | refine blk_alloc ?_ _)); refine blk_put (cs := #[.int .i64 t481, .int .i64 t482, .slice Ao20 t483.length co20, .int .i64 t486, .int .i64 t487, .int .i64 0, .int .i64 0, .int .i64 0, .string (⟨#[]⟩ : ByteArray), .int .i64 0, .slice none 0 0, .slice none 0 0]) ?_ 5 _ rfl; (with_reducible repeat (first | refine blk_drewN ?_ _ | refine blk_drew ?_ | refine blk_alloc ?_ _)); refine blk_put (cs := #[.int .i64 t481, .int .i64 t482, .slice Ao20 t483.length co20, .int .i64 t486, .int .i64 0, .int .i64 0, .int .i64 0, .int .i64 0, .string (⟨#[]⟩ : ByteArray), .int .i64 0, .slice none 0 0, .slice none 0 0]) ?_ 4 _ rfl; (with_reducible repeat (first | refine blk_drewN ?_ _ | refine blk_drew ?_ | refine blk_alloc ?_ _)); refine blk_put (cs := #[.int .i64 t481, .int .i64 t482, .slice Ao20 t483.length co20, .int .i64 0, .int .i64 0, .int .i64 0, .int .i64 0, .int .i64 0, .string (⟨#[]⟩ : ByteArray), .int .i64 0, .slice none 0 0, .slice none 0 0]) ?_ 3 _ rfl; (with_reducible repeat (first | refine blk_drewN ?_ _ | refine blk_drew ?_ | refine blk_alloc ?_ _)); refine blk_put (cs := #[.int .i64 t481, .int .i64 t482, .slice none 0 0, .int .i64 0, .int .i64 0, .int .i64 0, .int .i64 0, .int .i64 0, .string (⟨#[]⟩ : ByteArray), .int .i64 0, .slice none 0 0, .slice none 0 0]) ?_ 2 _ rfl; (with_reducible repeat (first | refine blk_drewN ?_ _ | refine blk_drew ?_ | refine blk_alloc ?_ _)); refine blk_put (cs := #[.int .i64 t481, .int .i64 0, .slice none 0 0, .int .i64 0, .int .i64 0, .int .i64 0, .int .i64 0, .int .i64 0, .string (⟨#[]⟩ : ByteArray), .int .i64 0, .slice none 0 0, .slice none 0 0]) ?_ 1 _ rfl; (with_reducible repeat (first | refine blk_drewN ?_ _ | refine blk_drew ?_ | refine blk_alloc ?_ _)); refine blk_put (cs := #[.int .i64 0, .int .i64 0, .slice none 0 0, .int .i64 0, .int .i64 0, .int .i64 0, .int .i64 0, .int .i64 0, .string (⟨#[]⟩ : ByteArray), .int .i64 0, .slice none 0 0, .slice none 0 0]) ?_ 0 _ rfl; (with_reducible repeat (first | refine blk_drewN ?_ _ | refine blk_drew ?_ | refine blk_alloc ?_ _)); exact BK501.out) hb); have n9_ := mk_ (below_step (Short.hB HB) hb); clear HO459 HO464 HO474 HO477 HO485 HO495 HO498 BK480 BK501 HB; revert n0_ n1_ n2_ n3_ n4_ n5_ n6_ n7_ n8_ n9_; intro HO459 HO464 HO474 HO477 HO485 HO495 HO498 BK480 BK501 HB; (try clear hb); (try clear hb2); (try clear hk); (try clear hi)) | (go_at_call 14; (with_reducible refine (raddlekeep_Bytes.calls k _ _ t457 _ _ l0 t503 _ ?side1 ?side2 ?side3 ?side4 A27.out).mono ?_); (case side1 => exact cX_ (R_reads' HO459.out).2.2); (case side2 => exact (R_reads' HO459.out).2.1); (case side3 => exact cX_ (C_below HR0.out HB.out)); (case side4 => exact HC0.out); rintro e w' ⟨rfl, ⟨nd, rfl⟩⟩))
  go_meet
  case rel => exact ⟨_, (!t503), z3, H', ⟨by first | omega | exact Nat.le_refl _⟩, ⟨by (with_reducible repeat (first | apply R_alloc | apply R_drewN | apply R_drew)); exact R_mono HO464.out (fun _ hk => hk.2)⟩, ⟨by (with_reducible repeat (first | apply R_alloc | apply R_drewN | apply R_drew)); exact R_mono HO474.out (fun _ hk => hk.2)⟩, ⟨by (with_reducible repeat (first | apply R_alloc | apply R_drewN | apply R_drew)); exact R_mono HO477.out (fun _ hk => hk.2)⟩, ⟨by (with_reducible repeat (first | apply R_alloc | apply R_drewN | apply R_drew)); exact R_mono HO485.out (fun _ hk => hk.2)⟩, ⟨by (with_reducible repeat (first | apply R_alloc | apply R_drewN | apply R_drew)); exact R_mono HO495.out (fun _ hk => hk.2)⟩, ⟨by (with_reducible repeat (first | apply R_alloc | apply R_drewN | apply R_drew)); exact R_mono HO498.out (fun _ hk => hk.2)⟩, ⟨by (with_reducible repeat (first | refine blk_drewN ?_ _ | refine blk_drew ?_ | refine blk_alloc ?_ _)); exact BK480.out⟩, ⟨by (with_reducible repeat (first | refine blk_drewN ?_ _ | refine blk_drew ?_ | refine blk_alloc ?_ _)); exact BK501.out⟩, ⟨Short.hB HB⟩⟩
 case rest =>
  clear HC7
  try clear c1
  try clear c2
  try clear p2
  try clear c3
  try clear c3b0
  try clear c3b1
  try clear c10
  try clear c11
  try clear c12
  try clear c18
  try clear c23
  try clear c23b0
  try clear c23b1
  try clear c24
  try clear c24b0
  try clear c24b1
  try clear c26
  try clear c28
  try clear hcz12_0
  try clear hcz12_1
  try clear hcz12_10
  try clear hcz12_11
  try clear hcz12_2
  try clear hcz12_3
  try clear hcz12_4
  try clear hcz12_5
  try clear hcz12_6
  try clear hcz12_7
  try clear hcz12_8
  try clear hcz12_9
  try clear hcz19_0
  try clear hcz19_1
  try clear hcz19_10
  try clear hcz19_11
  try clear hcz19_2
  try clear hcz19_3
  try clear hcz19_4
  try clear hcz19_5
  try clear hcz19_6
  try clear hcz19_7
  try clear hcz19_8
  try clear hcz19_9
  try clear hcz29_0
  try clear hcz29_1
  try clear hcz29_10
  try clear hcz29_11
  try clear hcz29_2
  try clear hcz29_3
  try clear hcz29_4
  try clear hcz29_5
  try clear hcz29_6
  try clear hcz29_7
  try clear hcz29_8
  try clear hcz29_9
  try clear hcz30_0
  try clear hcz30_1
  try clear hcz30_10
  try clear hcz30_11
  try clear hcz30_2
  try clear hcz30_3
  try clear hcz30_4
  try clear hcz30_5
  try clear hcz30_6
  try clear hcz30_7
  try clear hcz30_8
  try clear hcz30_9
  try clear hfz12_0
  try clear hfz12_1
  try clear hfz12_10
  try clear hfz12_11
  try clear hfz12_2
  try clear hfz12_3
  try clear hfz12_4
  try clear hfz12_5
  try clear hfz12_6
  try clear hfz12_7
  try clear hfz12_8
  try clear hfz12_9
  try clear hfz19_0
  try clear hfz19_1
  try clear hfz19_10
  try clear hfz19_11
  try clear hfz19_2
  try clear hfz19_3
  try clear hfz19_4
  try clear hfz19_5
  try clear hfz19_6
  try clear hfz19_7
  try clear hfz19_8
  try clear hfz19_9
  try clear hfz29_0
  try clear hfz29_1
  try clear hfz29_10
  try clear hfz29_11
  try clear hfz29_2
  try clear hfz29_3
  try clear hfz29_4
  try clear hfz29_5
  try clear hfz29_6
  try clear hfz29_7
  try clear hfz29_8
  try clear hfz29_9
  try clear hfz30_0
  try clear hfz30_1
  try clear hfz30_10
  try clear hfz30_11
  try clear hfz30_2
  try clear hfz30_3
  try clear hfz30_4
  try clear hfz30_5
  try clear hfz30_6
  try clear hfz30_7
  try clear hfz30_8
  try clear hfz30_9
  obtain ⟨kq, x51_6, rfl, HA, HJ6, HO_481002, HO_481010, HO_481011, HO_502002, HO_502010, HO_502011, BK480, BK501, HB⟩ := hcut
  cases kq with
  | zero => exact absurd HA.out (by simp [raddlelaw07_OpReads.j0])
  | succ kj6 =>
   have H := HA.out
   clear HA
   simp only [raddlelaw07_OpReads.j0] at H
   by_cases c32 : x51_6 = true
   ·
    subst c32
    rw [if_pos rfl] at H
    exact absurd H (by rw [hrt]; simp)
   replace c32 := Bool.eq_false_iff.mpr c32
   subst c32
   rw [if_neg (show ¬ (false = true) by decide)] at H
   by_cases c33 : t479 = 0
   rotate_left
   ·
    rw [if_neg c33] at H
    have c33b0 : (t479 == 0) = false := beq_eq_false_iff_ne.mpr c33
    have c33b1 : (t479 != 0) = true := bne_iff_ne.mpr c33
    replace H := Option.bind_eq_some_iff.mp H
    obtain ⟨t504, A510, H⟩ := H
    replace H : (some t504) = some r := H
    have A51 := mk_ A510
    clear A510
    obtain rfl := Option.some.inj H
    go_wp2_with (first | ((with_reducible refine gate_callee (f := 15) rfl ?_); refine Short.gL (some 54) Try.func15 #[] (h := ?_); (with_reducible refine (raddlelaw07_wakes.calls  t504 _ A51.out).mono ?_); rintro e w52 ⟨rfl, hb⟩; refine ⟨_, rfl, ?_⟩; have n0_ := mk_ (R_below (ZKR HO_481002) hb); have n1_ := mk_ (R_below (ZKR HO_481010) hb); have n2_ := mk_ (R_below (ZKR HO_481011) hb); have n3_ := mk_ (R_below (ZKR HO_502002) hb); have n4_ := mk_ (R_below (ZKR HO_502010) hb); have n5_ := mk_ (R_below (ZKR HO_502011) hb); have n6_ := mk_ (bB_ BK480 hb); have n7_ := mk_ (bB_ BK501 hb); have n8_ := mk_ (below_step (Short.hB HB) hb); clear HO_481002 HO_481010 HO_481011 HO_502002 HO_502010 HO_502011 BK480 BK501 HB; revert n0_ n1_ n2_ n3_ n4_ n5_ n6_ n7_ n8_; intro HO_481002 HO_481010 HO_481011 HO_502002 HO_502010 HO_502011 BK480 BK501 HB; (try clear hb)))
    go_ret
    exact ⟨q0, Short.hB HB⟩
   rw [if_pos c33] at H
   have c33b0 : (t479 == 0) = true := beq_iff_eq.mpr c33
   have c33b1 : (t479 != 0) = false := bne_eq_false_iff_eq.mpr c33
   clear c33
   replace H := Option.bind_eq_some_iff.mp H
   obtain ⟨⟨t505, t508⟩, A340, H⟩ := H
   replace H : (if t508 = 0 then (if t478 ≤ (l0.length : Int) then (if a1 ≥ 0 then (if a1 ≤ t478 then (if 0 ≤ a1 then ((raddlekeep_Bytes.f kj6 t505 ((l0.take (t478 : Int).toNat).drop (a1 : Int).toNat)).bind fun t510 => (if t510 = true then ((raddlelaw07_wakes.f).bind fun t511 => (some t511)) else (some false))) else (none)) else (some false)) else (some false)) else (some false)) else (some false)) = some r := H
   have A34 := mk_ A340
   clear A340
   by_cases c35 : t508 = 0
   rotate_left
   ·
    rw [if_neg c35] at H
    have c35b0 : (t508 == 0) = false := beq_eq_false_iff_ne.mpr c35
    have c35b1 : (t508 != 0) = true := bne_iff_ne.mpr c35
    exact absurd H (by rw [hrt]; simp)
   rw [if_pos c35] at H
   have c35b0 : (t508 == 0) = true := beq_iff_eq.mpr c35
   have c35b1 : (t508 != 0) = false := bne_eq_false_iff_eq.mpr c35
   clear c35
   by_cases c36 : t478 ≤ (l0.length : Int)
   rotate_left
   ·
    rw [if_neg c36] at H
    have c36b0 : decide (t478 ≤ (l0.length : Int)) = false := decide_eq_false c36
    clear c36
    exact absurd H (by rw [hrt]; simp)
   rw [if_pos c36] at H
   have c36b0 : decide (t478 ≤ (l0.length : Int)) = true := decide_eq_true c36
   clear c36
   by_cases c37 : a1 ≥ 0
   rotate_left
   ·
    rw [if_neg c37] at H
    have c37b0 : decide (0 ≤ a1) = false := decide_eq_false c37
    clear c37
    exact absurd H (by rw [hrt]; simp)
   rw [if_pos c37] at H
   have c37b0 : decide (0 ≤ a1) = true := decide_eq_true c37
   clear c37
   by_cases c38 : a1 ≤ t478
   rotate_left
   ·
    rw [if_neg c38] at H
    have c38b0 : decide (a1 ≤ t478) = false := decide_eq_false c38
    clear c38
    exact absurd H (by rw [hrt]; simp)
   rw [if_pos c38] at H
   have c38b0 : decide (a1 ≤ t478) = true := decide_eq_true c38
   clear c38
   by_cases c39 : 0 ≤ a1
   rotate_left
   ·
    rw [if_neg c39] at H
    exact absurd H (by simp)
   rw [if_pos c39] at H
   have c39b0 := eq_true c39
   have c39b1 : decide (0 ≤ a1) = true := decide_eq_true c39
   clear c39
   have c40b0 := eq_true (of_decide_eq_true z1 : a1 ≤ t478)
   have c41b0 := eq_true (of_decide_eq_true z1 : t478 ≤ (l0.length : Int))
   replace H := Option.bind_eq_some_iff.mp H
   obtain ⟨t510, A420, H⟩ := H
   replace H : (if t510 = true then ((raddlelaw07_wakes.f).bind fun t511 => (some t511)) else (some false)) = some r := H
   have A42 := mk_ A420
   clear A420
   by_cases c43 : t510 = true
   rotate_left
   ·
    replace c43 := Bool.eq_false_iff.mpr c43
    subst c43
    rw [if_neg (show ¬ (false = true) by decide)] at H
    exact absurd H (by rw [hrt]; simp)
   subst c43
   rw [if_pos rfl] at H
   replace H := Option.bind_eq_some_iff.mp H
   obtain ⟨t511, A440, H⟩ := H
   replace H : (some t511) = some r := H
   have A44 := mk_ A440
   clear A440
   obtain rfl := Option.some.inj H
   have hnb45 := NB480_501.out
   have hnc45 := NB501_480.out
   have hcz46_0 := blk_cell BK480.out
   have hfz46_0 := blk_frozen BK480.out
   go_wp2_with (first | ((with_reducible refine gate_callee (f := 16) rfl ?_); refine Short.gL (some 57) Try.func16 #[.agg #[.int .i64 t460, .int .i64 t461, .slice Ao13 t462.length co13, .int .i64 t465, .int .i64 t466, .int .i64 t467, .int .i64 t468, .int .i64 t469, .string t470, .int .i64 t471, .slice Ao14 t472.length co14, .slice Ao15 t475.length co15]] (h := ?_); (with_reducible refine (op_Bytes.calls t460 t461 _ _ t462 t465 t466 t467 t468 t469 t470 t471 _ _ t472 _ _ t475 t505 t508 _ ?side1 ?side2 ?side3 ?side4 ?side5 ?side6 A34.out).mono ?_); (case side1 => exact cX_ (R_reads' HO_481002.out).2.2); (case side2 => exact (R_reads' HO_481002.out).2.1); (case side3 => exact cX_ (R_reads' HO_481010.out).2.2); (case side4 => exact (R_reads' HO_481010.out).2.1); (case side5 => exact cX_ (R_reads' HO_481011.out).2.2); (case side6 => exact (R_reads' HO_481011.out).2.1); rintro e w47 ⟨v506, rfl, ho0, hb⟩; refine ⟨_, rfl, ?_⟩; have n0_ := mk_ (R_below (ZKR HO_481002) hb); have n1_ := mk_ (R_below (ZKR HO_481010) hb); have n2_ := mk_ (R_below (ZKR HO_481011) hb); have n3_ := mk_ (R_below (ZKR HO_502002) hb); have n4_ := mk_ (R_below (ZKR HO_502010) hb); have n5_ := mk_ (R_below (ZKR HO_502011) hb); have n6_ := mk_ (R_lower ho0 (below_size (Short.hB HB))); have n7_ := mk_ (bB_ BK480 hb); have n8_ := mk_ (bB_ BK501 hb); have n9_ := mk_ (below_step (Short.hB HB) hb); clear HO_481002 HO_481010 HO_481011 HO_502002 HO_502010 HO_502011 BK480 BK501 HB; revert n0_ n1_ n2_ n3_ n4_ n5_ n6_ n7_ n8_ n9_; intro HO_481002 HO_481010 HO_481011 HO_502002 HO_502010 HO_502011 HO507 BK480 BK501 HB; (try clear hb ho0); obtain ⟨i048, hi048, _, hsz48, _⟩ := info_parts info5; obtain ⟨A48, hcut48, hA48, hC48⟩ := print_mid_of (P := Try.prog) (Value.int .u8) 0 22 5 .i64 .i64 Try.underlying22 hi048 hsz48 A0 c0 l0 a1 t478 (of_decide_eq_true z1) (by first | omega | exact of_decide_eq_true z1) (of_decide_eq_true z1) HC0.out; have HR509 := mk_ (C_of_reads (h1 := fun _ => rfl) (hA48 _ (Kd.reads_of_C HR0.out))); have HC509 := mk_ hC48; clear hA48 hC48 hi048 hsz48; obtain ⟨Ao49, co49, eo49⟩ := R_slice HO507.out; subst eo49) | (go_at_call 14; (try refine calls_of_args (args' := #[.slice Ao49 t505.length co49, .slice A48 ((l0.take (t478 : Int).toNat).drop (a1 : Int).toNat).length (c0 - a1.toNat)]) (by rw [show ((l0.take (t478 : Int).toNat).drop (a1 : Int).toNat).length = (t478 : Int).toNat - (a1 : Int).toNat from by (rw [List.length_drop, List.length_take]; have q_ : t478 ≤ (l0.length : Int) := (by first | exact of_decide_eq_true (by assumption) | exact of_eq_true (by assumption)); omega)]) ?_); (with_reducible refine (raddlekeep_Bytes.calls kj6 _ _ t505 _ _ ((l0.take (t478 : Int).toNat).drop (a1 : Int).toNat) true _ ?side1 ?side2 ?side3 ?side4 A42.out).mono ?_); (case side1 => exact cX_ (R_reads' HO507.out).2.2); (case side2 => exact (R_reads' HO507.out).2.1); (case side3 => exact cX_ (C_below HR509.out HB.out)); (case side4 => exact HC509.out); rintro e w' ⟨rfl, ⟨nd, rfl⟩⟩) | (go_at_call 15; (with_reducible refine (raddlelaw07_wakes.calls  t511 _ A44.out).mono ?_); rintro e w50 ⟨rfl, hb⟩; have n0_ := mk_ (R_below (ZKR HO_481002) hb); have n1_ := mk_ (R_below (ZKR HO_481010) hb); have n2_ := mk_ (R_below (ZKR HO_481011) hb); have n3_ := mk_ (R_below (ZKR HO_502002) hb); have n4_ := mk_ (R_below (ZKR HO_502010) hb); have n5_ := mk_ (R_below (ZKR HO_502011) hb); have n6_ := mk_ (R_below (ZKR HO507) hb); have n7_ := mk_ (bB_ BK480 hb); have n8_ := mk_ (bB_ BK501 hb); have n9_ := mk_ (below_step (Short.hB HB) hb); clear HO_481002 HO_481010 HO_481011 HO_502002 HO_502010 HO_502011 HO507 BK480 BK501 HB; revert n0_ n1_ n2_ n3_ n4_ n5_ n6_ n7_ n8_ n9_; intro HO_481002 HO_481010 HO_481011 HO_502002 HO_502010 HO_502011 HO507 BK480 BK501 HB; (try clear hb); (try clear hb2); (try clear hk); (try clear hi)))
   go_ret
   exact ⟨q0, Short.hB HB⟩
def raddlelaw07_OpReads.Pure : Prop := ∀ (l0 : List Int) (a1 : Int), l0.length ≤ maxLen → l0.length * 1 ≤ 140737488351232 → (∀ x ∈ l0, (Lit.int .u8 x).wf = true) → (Lit.int .i64 a1).wf = true → ∃ k, raddlelaw07_OpReads.f k l0 a1 = some true
theorem raddlelaw07_OpReads.walk (P : raddlelaw07_OpReads.Pure) (a0 : Option Addr) (len0 cap0 : Nat) (z0 : List Int) (a1 : Int) (w : World) (w0 : (a0 = none ∧ len0 = 0 ∧ cap0 = 0 ∧ z0 = []) ∨ ∃ x, a0 = some x ∧ len0 ≤ cap0 ∧ cap0 ≤ maxLen ∧ z0.length = cap0 ∧ (∀ i, i < z0.length → w.cell? (x.add i) = some (.int .u8 (z0.getD i 0))) ∧ ∀ n ∈ z0, (Lit.int .u8 n).wf = true) (y0 : len0 * 1 ≤ 140737488351232) (w1 : (Lit.int .i64 a1).wf = true) :
  Calls Try.prog 3 #[.slice a0 len0 cap0, .int .i64 a1] w fun e w' => e = .returned (.bool true) ∧ Below w.heap.size w w' := by
 obtain ⟨l0, rfl, hr0, hm0, hw0, hc0⟩ := ReadsInt.ofRowC w0
 obtain ⟨k, h⟩ := P l0 a1 hm0 y0 hw0 w1
 refine (raddlelaw07_OpReads.calls k _ _ l0 a1 true w (C_of_reads (d := (0 : Int)) (h1 := fun _ => rfl) hr0) hc0 rfl h).mono ?_
 rintro e w' ⟨rfl, hd⟩
 exact ⟨rfl, hd⟩
end Go.Proofs.Ytjnjfogfpmeacaa.PAll
end
section
namespace Go.Proofs.Ytjnjfogfpmeacaa.Pure
open Go.RowKit PAll PrintWords PrintLast Plain Ops ZipT PrintWords.Kd PrintMore.Kd
set_option linter.unusedVariables false
set_option linter.unusedSimpArgs false
theorem twinB_eq (l : List Int) (hl : l.length ≤ 1000000) : raddlekeep_Twin.f l = some l := by
 unfold raddlekeep_Twin.f
 simp only [List.length_nil, List.nil_append]
 rw [if_pos z4]
theorem rread_f (l : List Int) (a : Int) (hb : Bytes l) (hl : l.length ≤ 1000000) : raddleref01_ReadOp.f l a = some ((sOpRead l a).1.f0.f0, (sOpRead l a).1.f0.f1, (sOpRead l a).1.f1, (sOpRead l a).1.f2.f0, (sOpRead l a).1.f2.f1, (sOpRead l a).1.f2.f2, (sOpRead l a).1.f3, (sOpRead l a).1.f4, (sOpRead l a).1.f5, (sOpRead l a).1.f6, (sOpRead l a).1.f7, (sOpRead l a).1.f8, (sOpRead l a).2.1, (sOpRead l a).2.2) := by
 unfold raddleref01_ReadOp.f
 rw [if_pos ⟨hb, hl⟩]
theorem OpReads : raddlelaw07_OpReads.Pure := by
 intro l a hl1 hl2 hb ha
 refine ⟨1200, ?_⟩
 have hB : Bytes l := fun x hx => by have := wf_u8 (hb x hx); exact this
 unfold raddlelaw07_OpReads.f
 by_cases h8 : (l.length : Int) > 800
 ·
  rw [if_pos h8]
 rw [if_neg h8, twinB_eq l z4, Option.bind_some, read_f l a hB z4, Option.bind_some, rread_f l a hB z4, Option.bind_some]
 have hs : opSmall (sOpRead l a).1 := by
  by_cases h : (sOpRead l a).2.2 = 0
  ·
   exact opFit_small (opRead_got hB h).1
  ·
   rw [(opRead_none h).1]; decide
 have hk := keepOp_eq 1200 (sOpRead l a).1 (sOpRead l a).1 (by have := hs.1; omega) (by have := hs.2.1; omega) (by have := hs.2.2; omega) ⟨by have := hs.1; omega, by have := hs.2.1; omega, by have := hs.2.2; omega⟩
 rw [decide_eq_true rfl] at hk
 simp only
 rw [if_pos trivial, if_pos trivial, hk, Option.bind_some, if_pos rfl, same_eq _ _ _ z4 z4, decide_eq_true rfl, Option.bind_some]
 show raddlelaw07_OpReads.j0 (1199 + 1) _ _ _ _ _ _ _ _ _ _ _ _ _ _ _ _ _ = _
 simp only [raddlelaw07_OpReads.j0]
 rw [if_neg z5]
 by_cases h : (sOpRead l a).2.2 = 0
 rotate_left
 ·
  rw [if_neg h, wakes7_eq]; rfl
 obtain ⟨g1, g2, g3, g4, g5⟩ := opRead_got hB h
 have hb2 := bytes_f _ (opFit_small g1)
 rw [opBytes_eq, if_pos g1] at hb2
 rw [if_pos h, hb2, Option.bind_some]
 simp only
 rw [if_pos trivial, if_pos g4, if_pos g2, if_pos g3, if_pos g2, same_eq _ _ _ (by have := (opB_len _ g1).2; omega) (by have := (opB_len _ g1).2; omega), Option.bind_some, decide_eq_true (show opB (sOpRead l a).1 = List.drop a.toNat (List.take (sOpRead l a).2.1.toNat l) from g5), if_pos rfl, wakes7_eq]
 rfl
end Go.Proofs.Ytjnjfogfpmeacaa.Pure
end
