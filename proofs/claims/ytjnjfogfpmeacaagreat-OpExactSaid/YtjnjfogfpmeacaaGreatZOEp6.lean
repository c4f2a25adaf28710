-- Put together by a program of this session (wip/slice2.py) out of the seat's texts.
import Derived.Test.YtjnjfogfpmeacaaGreatZOEp5

set_option maxHeartbeats 8000000
set_option maxRecDepth 100000
open Go.Proofs.YtjnjfogfpmeacaaGreatW Go.Proofs.YtjnjfogfpmeacaaGreat
section
namespace Go.Proofs.YtjnjfogfpmeacaaGreat.Ops
open Go.RowKit PAll Plain PrintWords PrintLast PrintMore Go.Proofs.YtjnjfogfpmeacaaGreat.Sep ZipT PrintWords.Kd PrintMore.Kd
set_option linter.unusedVariables false
set_option linter.unusedSimpArgs false
def WrP (g : Nat) (s : Wr) : Part := Part.ex fun v : Value => Part.all [Blk g (.cells #[v, .bool s.2] 60 (0, 0)), Row (Kd.int .u8) 5 v s.1]
section
variable {w : World} {g : Nat} {s : Wr} {F : List Part}
theorem WrP.open (h : Sp w (WrP g s :: F)) : ∃ v, Sp w (Blk g (.cells #[v, .bool s.2] 60 (0, 0)) :: Row (Kd.int .u8) 5 v s.1 :: F) := by
 obtain ⟨v, h⟩ := h.ofEx
 exact ⟨v, h.ofAll⟩
theorem WrP.shut {v : Value} {bs : List Int} {bad : Bool} (h : Sp w (Blk g (.cells #[v, .bool bad] 60 (0, 0)) :: Row (Kd.int .u8) 5 v bs :: F)) : Sp w (WrP g (bs, bad) :: F) :=
 Sp.toEx (f := fun v : Value => Part.all [Blk g (.cells #[v, .bool bad] 60 (0, 0)), Row (Kd.int .u8) 5 v bs]) v (Sp.toAll (ps := [_, _]) h)
theorem sPut_len (n size : Int) : (sPut [] n size).1.length ≤ 7 := by
 unfold sPut
 split
 ·
  rename_i h; simp [cD]; omega
 ·
  simp
theorem dU (n size : Int) (s : Wr) : (wNum n size s).1.length ≤ s.1.length + 7 := by
 have := sPut_len n size
 unfold wNum wAdd; simp only [List.length_append]; omega
theorem iE (bs : List Int) (bad : Bool) (A : Option Addr) (c : Nat) (b : List Int) (e : Int) (hS : Sp w (WrP g (bs, bad) :: Row (Kd.int .u8) 5 (.slice A b.length c) b :: F)) (hl : bs.length + b.length ≤ 1000000000) :
  Calls Tryz.prog 55 #[.pointer (some ⟨g, 0, none⟩), .slice A b.length c, .int .i64 e] w fun r w' => (∃ v, r = .returned v) ∧ Sp w' (WrP g (wAdd (bs, bad) (b, e)) :: F) := by
 obtain ⟨v, hS⟩ := WrP.open hS
 obtain ⟨A0, c0, rfl, hc0, _⟩ := hS.tail.row
 have h0 : w.cell? ⟨g, 0, none⟩ = some (.slice A0 bs.length c0) := aD hS.blk 0
 have h1 : w.cell? ⟨g, 1, none⟩ = some (.bool bad) := aD hS.blk 1
 have f0 := aX hS.blk 0
 have f1 := aX hS.blk 1
 have key : ∀ nb : Bool, Aside0 (Sp (w.setCell ⟨g, 1, none⟩ (.bool nb)) (Blk g (.cells #[.slice A0 bs.length c0, .bool nb] 60 (0, 0)) :: Row (Kd.int .u8) 5 (.slice A0 bs.length c0) bs :: Row (Kd.int .u8) 5 (.slice A b.length c) b :: F)) := fun nb => ⟨hS.store 1 (.bool nb)⟩
 have HL := mk_ hl
 clear hS hl hc0
 cases bad with
 | true =>
  have HS1 := key true
  have HC1 := mk_ (HS1.out.s2.row.elim fun _ h => h.elim fun _ h => (show Kd.C (Kd.int .u8) _ A b.length b by have e_ := h.1; injection e_ with e1 e2 e3; rw [e1]; exact h.2.2))
  have k0 := aD HS1.out.blk 0
  have kf := aX HS1.out.blk 0
  clear key
  go_enter Tryz.func55, Tryz.ntmps55
  go_wp2_with ((with_reducible refine cK (b := .append) (xs := #[.tmp 21, .tmp 22]) rfl ?_); at_builtin; refine Sp.appendRow (Kd.int .u8) rfl (.tmp 21) (.tmp 22) 36 5 (.int .u8 0) 1 rfl Tryz.underlying36 z2_ rfl z5_ z3_ (.slice A0 bs.length c0) bs b A b.length c rfl rfl (fun _ _ h => h) HS1.out.s1 HC1.out (by have := HL.out; omega) ?_; intro v1 w1 h1; obtain ⟨A1, c1, rfl, _, _⟩ := h1.row; have k1 := aD h1.s1.blk 0; have kg := aX h1.s1.blk 0; have HS2 := mk_ h1; clear h1)
  go_end0
  refine ⟨⟨_, rfl⟩, ?_⟩
  have h2 := HS2.out.s1.store 0 (.slice A1 (bs ++ b).length c1)
  have h3 := (WrP.shut (bs := bs ++ b) (bad := true) h2).s1.tail
  have e1 : wAdd (bs, true) (b, e) = (bs ++ b, true) := by unfold wAdd; simp
  first | rw [e1] | (rw [he] at e1; rw [e1])
  rw [List.length_append] at h3
  exact h3
 | false =>
  by_cases he : e = 0
  ·
   have hb0 : (e == 0) = true := beq_iff_eq.2 he
   have hb1 : (e != 0) = false := bne_eq_false_iff_eq.2 he
   have hb2 : decide (e = 0) = true := decide_eq_true he
   have HS1 := key false
   have HC1 := mk_ (HS1.out.s2.row.elim fun _ h => h.elim fun _ h => (show Kd.C (Kd.int .u8) _ A b.length b by have e_ := h.1; injection e_ with e1 e2 e3; rw [e1]; exact h.2.2))
   have k0 := aD HS1.out.blk 0
   have kf := aX HS1.out.blk 0
   clear key
   go_enter Tryz.func55, Tryz.ntmps55
   go_wp2_with ((with_reducible refine cK (b := .append) (xs := #[.tmp 21, .tmp 22]) rfl ?_); at_builtin; refine Sp.appendRow (Kd.int .u8) rfl (.tmp 21) (.tmp 22) 36 5 (.int .u8 0) 1 rfl Tryz.underlying36 z2_ rfl z5_ z3_ (.slice A0 bs.length c0) bs b A b.length c rfl rfl (fun _ _ h => h) HS1.out.s1 HC1.out (by have := HL.out; omega) ?_; intro v1 w1 h1; obtain ⟨A1, c1, rfl, _, _⟩ := h1.row; have k1 := aD h1.s1.blk 0; have kg := aX h1.s1.blk 0; have HS2 := mk_ h1; clear h1)
   go_end0
   refine ⟨⟨_, rfl⟩, ?_⟩
   have h2 := HS2.out.s1.store 0 (.slice A1 (bs ++ b).length c1)
   have h3 := (WrP.shut (bs := bs ++ b) (bad := false) h2).s1.tail
   have e1 : wAdd (bs, false) (b, e) = (bs ++ b, false) := by unfold wAdd; simp [he]
   first | rw [e1] | (rw [he] at e1; rw [e1])
   rw [List.length_append] at h3
   exact h3
  have hb0 : (e == 0) = false := beq_eq_false_iff_ne.2 he
  have hb1 : (e != 0) = true := bne_iff_ne.2 he
  have hb2 : decide (e = 0) = false := decide_eq_false he
  have HS1 := key true
  have HC1 := mk_ (HS1.out.s2.row.elim fun _ h => h.elim fun _ h => (show Kd.C (Kd.int .u8) _ A b.length b by have e_ := h.1; injection e_ with e1 e2 e3; rw [e1]; exact h.2.2))
  have k0 := aD HS1.out.blk 0
  have kf := aX HS1.out.blk 0
  clear key
  go_enter Tryz.func55, Tryz.ntmps55
  go_wp2_with ((with_reducible refine cK (b := .append) (xs := #[.tmp 21, .tmp 22]) rfl ?_); at_builtin; refine Sp.appendRow (Kd.int .u8) rfl (.tmp 21) (.tmp 22) 36 5 (.int .u8 0) 1 rfl Tryz.underlying36 z2_ rfl z5_ z3_ (.slice A0 bs.length c0) bs b A b.length c rfl rfl (fun _ _ h => h) HS1.out.s1 HC1.out (by have := HL.out; omega) ?_; intro v1 w1 h1; obtain ⟨A1, c1, rfl, _, _⟩ := h1.row; have k1 := aD h1.s1.blk 0; have kg := aX h1.s1.blk 0; have HS2 := mk_ h1; clear h1)
  go_end0
  refine ⟨⟨_, rfl⟩, ?_⟩
  have h2 := HS2.out.s1.store 0 (.slice A1 (bs ++ b).length c1)
  have h3 := (WrP.shut (bs := bs ++ b) (bad := true) h2).s1.tail
  have e1 : wAdd (bs, false) (b, e) = (bs ++ b, true) := by unfold wAdd; simp [he]
  first | rw [e1] | (rw [he] at e1; rw [e1])
  rw [List.length_append] at h3
  exact h3
theorem dD (s : Wr) (n size : Int) (hS : Sp w (WrP g s :: F)) (hl : s.1.length ≤ 900000000) :
  Calls Tryz.prog 50 #[.pointer (some ⟨g, 0, none⟩), .int .i64 n, .int .i64 size] w fun r w' => (∃ v, r = .returned v) ∧ Sp w' (WrP g (wNum n size s) :: F) := by
 have HS := mk_ hS
 have HL := mk_ hl
 have HP := mk_ (put_eq 10 [] n size z6_ (Nat.le_refl _))
 clear hS hl
 go_enter Tryz.func50, Tryz.ntmps50
 go_wp2_with (first
  | (go_at_call 79; refine (PAll.wire_Put.calls 10 none 0 [] n size (sPut [] n size).1 (sPut [] n size).2 _ (C_nil _ _) (Nat.le_refl _) HP.out).mono ?_; rintro e V ⟨u, rfl, hr, hq⟩; obtain ⟨Au, cu, rfl⟩ := cU hr; have HS1 := mk_ (Sp.made HS.out hq hr); clear hr hq)
  | (go_at_call 55; refine (iE s.1 s.2 Au cu (sPut [] n size).1 (sPut [] n size).2 HS1.out.s1 (by have := HL.out; have := sPut_len n size; omega)).mono ?_; rintro e V2 ⟨⟨u, rfl⟩, h2⟩; have HS2 := mk_ h2; clear h2))
 go_end0
 exact ⟨⟨_, rfl⟩, HS2.out⟩
theorem jP (t : ByteArray) : (sPutText [] t).1.length ≤ 25 := by
 unfold sPutText
 split
 ·
  rename_i h; simp [dN]; omega
 ·
  simp
theorem wText_len (t : ByteArray) (s : Wr) : (wText t s).1.length ≤ s.1.length + 25 := by
 have := jP t
 unfold wText wAdd; simp only [List.length_append]; omega
theorem iY (s : Wr) (t : ByteArray) (hS : Sp w (WrP g s :: F)) (hl : s.1.length ≤ 900000000) :
  Calls Tryz.prog 54 #[.pointer (some ⟨g, 0, none⟩), .string t] w fun r w' => (∃ v, r = .returned v) ∧ Sp w' (WrP g (wText t s) :: F) := by
 have HS := mk_ hS
 have HL := mk_ hl
 have HP := mk_ (putText_eq [] t z6_)
 clear hS hl
 go_enter Tryz.func54, Tryz.ntmps54
 go_wp2_with (first
  | (go_at_call 80; refine (PAll.wire_PutText.calls none 0 [] t (sPutText [] t).1 (sPutText [] t).2 _ (C_nil _ _) (Nat.le_refl _) HP.out).mono ?_; rintro e V ⟨u, rfl, hr, hq⟩; obtain ⟨Au, cu, rfl⟩ := cU hr; have HS1 := mk_ (Sp.made HS.out hq hr); clear hr hq)
  | (go_at_call 55; refine (iE s.1 s.2 Au cu (sPutText [] t).1 (sPutText [] t).2 HS1.out.s1 (by have := HL.out; have := jP t; omega)).mono ?_; rintro e V2 ⟨⟨u, rfl⟩, h2⟩; have HS2 := mk_ h2; clear h2))
 go_end0
 exact ⟨⟨_, rfl⟩, HS2.out⟩
theorem gQ (s : Wr) (d : Dt) (hS : Sp w (WrP g s :: F)) (hl : s.1.length ≤ 800000000) :
  Calls Tryz.prog 51 #[.pointer (some ⟨g, 0, none⟩), .agg #[.int .i64 d.f0, .int .i64 d.f1]] w fun r w' => (∃ v, r = .returned v) ∧ Sp w' (WrP g (wDot d s) :: F) := by
 have HB := mk_ ((hS.box (.cells #[.int .i64 d.f0, .int .i64 d.f1] 24 (0, 0))).s1)
 have HL := mk_ hl
 clear hS hl
 go_enter Tryz.func51, Tryz.ntmps51
 go_wp2_with (first
  | (go_at_call 50; (with_reducible show Calls _ _ #[_, .int .i64 d.f0, .int .i64 1] _ _); refine (dD (s) d.f0 1 HB.out (by have := HL.out; omega)).mono ?_; rintro e V0 ⟨⟨u, rfl⟩, h1⟩; have k1 := aD h1.s1.blk 1; have HS1 := mk_ h1; clear h1)
  | (go_at_call 50; (with_reducible show Calls _ _ #[_, .int .i64 d.f1, .int .i64 4] _ _); refine (dD (wNum d.f0 1 (s)) d.f1 4 HS1.out (by have := HL.out; have := dU d.f0 1 (s); omega)).mono ?_; rintro e V1 ⟨⟨u, rfl⟩, h1⟩; have HS2 := mk_ h1; clear h1))
 go_end0
 exact ⟨⟨_, rfl⟩, HS2.out.s1.tail⟩
theorem iU (s : Wr) (d : St) (hS : Sp w (WrP g s :: F)) (hl : s.1.length ≤ 800000000) :
  Calls Tryz.prog 53 #[.pointer (some ⟨g, 0, none⟩), .agg #[.int .i64 d.f0, .int .i64 d.f1, .int .i64 d.f2]] w fun r w' => (∃ v, r = .returned v) ∧ Sp w' (WrP g (wStamp d s) :: F) := by
 have HB := mk_ ((hS.box (.cells #[.int .i64 d.f0, .int .i64 d.f1, .int .i64 d.f2] 27 (0, 0))).s1)
 have HL := mk_ hl
 clear hS hl
 go_enter Tryz.func53, Tryz.ntmps53
 go_wp2_with (first
  | (go_at_call 50; (with_reducible show Calls _ _ #[_, .int .i64 d.f0, .int .i64 6] _ _); refine (dD (s) d.f0 6 HB.out (by have := HL.out; omega)).mono ?_; rintro e V0 ⟨⟨u, rfl⟩, h1⟩; have k1 := aD h1.s1.blk 1; have HS1 := mk_ h1; clear h1)
  | (go_at_call 50; (with_reducible show Calls _ _ #[_, .int .i64 d.f1, .int .i64 3] _ _); refine (dD (wNum d.f0 6 (s)) d.f1 3 HS1.out (by have := HL.out; have := dU d.f0 6 (s); omega)).mono ?_; rintro e V1 ⟨⟨u, rfl⟩, h1⟩; have k2 := aD h1.s1.blk 2; have HS2 := mk_ h1; clear h1)
  | (go_at_call 50; (with_reducible show Calls _ _ #[_, .int .i64 d.f2, .int .i64 1] _ _); refine (dD (wNum d.f1 3 (wNum d.f0 6 (s))) d.f2 1 HS2.out (by have := HL.out; have := dU d.f0 6 (s); have := dU d.f1 3 (wNum d.f0 6 (s)); omega)).mono ?_; rintro e V2 ⟨⟨u, rfl⟩, h1⟩; have HS3 := mk_ h1; clear h1))
 go_end0
 exact ⟨⟨_, rfl⟩, HS3.out.s1.tail⟩
theorem jR (d : Dt) (s : Wr) : (wDot d s).1.length ≤ s.1.length + 14 := by
 have h1 := dU d.f0 1 s
 have h2 := dU d.f1 4 (wNum d.f0 1 s)
 unfold wDot; omega
theorem wStamp_len (d : St) (s : Wr) : (wStamp d s).1.length ≤ s.1.length + 21 := by
 have h1 := dU d.f0 6 s
 have h2 := dU d.f1 3 (wNum d.f0 6 s)
 have h3 := dU d.f2 1 (wNum d.f1 3 (wNum d.f0 6 s))
 unfold wStamp; omega
theorem gT {α : Type} (f : α → Wr → Wr) : ∀ (l : List α) (x : α) (s : Wr), wAll f (l ++ [x]) s = f x (wAll f l s)
 | [], x, s => rfl
 | y :: l, x, s => by rw [List.cons_append, wAll, wAll, gT f l x]
theorem hI {α : Type} {f : α → Wr → Wr} {m : Nat} (hf : ∀ x s, (f x s).1.length ≤ s.1.length + m) : ∀ (l : List α) (s : Wr), (wAll f l s).1.length ≤ s.1.length + m * l.length
 | [], s => by simp [wAll]
 | y :: l, s => by
  have h1 := hI hf l (f y s)
  have h2 := hf y s
  rw [wAll, List.length_cons, Nat.mul_succ]; omega
theorem iA {α : Type} {l : List α} {i : Nat} (h : i < l.length) : l.take (i + 1) = l.take i ++ [l[i]] := by rw [List.take_add_one, List.getElem?_eq_getElem h]; rfl
theorem rd_get {l : List Int} {i : Nat} (h : i < l.length) : rd l (i : Int) = l[i] := by
 show l.getD (i : Int).toNat 0 = _
 rw [Int.toNat_natCast, List.getD_eq_getElem?_getD, List.getElem?_eq_getElem h]; rfl
theorem iW {w0 : World} (A : Option Addr) (c : Nat) (l : List Int) (hC : Kd.C (Kd.int .i64) w0 A l.length l) (hlc : l.length ≤ c) (hll : l.length ≤ 1000) (s : Wr) (hS : Sp w (WrP g s :: Old w0 :: F)) (hl : s.1.length ≤ 700000000) :
  Calls Tryz.prog 52 #[.pointer (some ⟨g, 0, none⟩), .slice A l.length c] w fun r w' => (∃ v, r = .returned v) ∧ Sp w' (WrP g (wNums l s) :: Old w0 :: F) := by
 obtain ⟨bs, bad⟩ := s
 have HC := mk_ hC
 have HLL := mk_ hll
 have HL := mk_ (show bs.length ≤ 700000000 from hl)
 obtain ⟨v, hS⟩ := WrP.open hS
 have h1 : w.cell? ⟨g, 1, none⟩ = some (.bool bad) := aD hS.blk 1
 have f1 := aX hS.blk 1
 have key : ∀ nb : Bool, Aside0 (Sp (w.setCell ⟨g, 1, none⟩ (.bool nb)) (WrP g (bs, nb) :: Old w0 :: F)) := fun nb => ⟨WrP.shut (hS.store 1 (.bool nb))⟩
 clear hS hC hlc hll hl
 cases bad with
 | true =>
  have hcase : True := trivial
  have HS1 := key true
  have hn0 : wOr (decide (l.length > 5)) (bs, true) = (bs, true) := by unfold wOr; simp [hcase]
  clear key
  go_enter Tryz.func52, Tryz.ntmps52
  go_wp2_with (go_at_call 50; refine (dD (bs, true) (l.length : Int) 1 HS1.out (by have := HL.out; show bs.length ≤ _; omega)).mono ?_; rintro e V ⟨⟨u, rfl⟩, h1⟩; have HS2 := mk_ h1; clear h1)
  go_loopg [24] (l.length + 1) (fun kq v24 W' => ∃ (i : Nat), v24 = .int .i64 (i : Int) ∧ Aside0 (Sp W' (WrP g (wAll (fun n => wNum n 4) (l.take i) (wNum (l.length : Int) 1 (bs, true))) :: Old w0 :: F)) ∧ Aside0 (kq + i = l.length + 1 ∧ i ≤ l.length))
  case atStart => exact ⟨0, rfl, ⟨HS2.out⟩, ⟨by omega⟩⟩
  case round =>
   obtain ⟨i, rfl, HA, HK⟩ := hrel
   obtain ⟨k1, rfl⟩ : ∃ k1, gk = k1 + 1 := ⟨gk - 1, by have := HK.out; omega⟩
   by_cases hi : i < l.length
   rotate_left
   ·
    have hie : i = l.length := by have := HK.out; omega
    subst hie
    have hb2' : decide ((l.length : Int) < (l.length : Int)) = false := decide_eq_false z3_
    have hb3' : decide (l.length < l.length) = false := decide_eq_false z3_
    clear hi
    go_wp2
    go_end0
    refine ⟨⟨_, rfl⟩, ?_⟩
    have h := HA.out
    rw [List.take_length] at h
    unfold wNums
    rw [hn0]
    exact h
   have hx := Kd.at_int (aU HC.out HA.out.s1.old) (i : Int) z3_ z3_
   obtain ⟨ad, hA, hx⟩ := hx
   cases hA
   rw [rd_get hi, Int.toNat_natCast] at hx
   have hb0 : (0 ≤ (i : Int)) = True := eq_true z3_
   have hb1 : ((i : Int) < (l.length : Int)) = True := eq_true z3_
   have hb2 : decide ((i : Int) < (l.length : Int)) = true := decide_eq_true z3_
   have hb3 : decide (i < l.length) = true := decide_eq_true hi
   have HI2 := mk_ hi
   have HT := mk_ (iA hi)
   generalize hlx : l[i] = x at *
   clear hi hlx
   go_wp2_with (go_at_call 50; refine (dD _ x 4 HA.out (by have := HL.out; have h1 := hI (f := fun n => wNum n 4) (m := 7) (fun x s => dU x 4 s) (l.take i) (wNum (l.length : Int) 1 (bs, true)); have h2 := dU (l.length : Int) 1 (bs, true); have h3 := HLL.out; have h4 := List.length_take_le i l; have h6 := HI2.out; have h5 : (bs, true).1.length = bs.length := rfl; omega)).mono ?_; rintro e V2 ⟨⟨u, rfl⟩, h1⟩; have HS3 := mk_ h1; clear h1)
   go_roundg k1
   case measure => exact Nat.lt_succ_self _
   case rel => exact ⟨i + 1, by rw [w64 z3_ (by have := HI2.out; have := HLL.out; omega)]; rfl, ⟨by rw [HT.out, gT]; exact HS3.out⟩, ⟨by have := HK.out; omega, by have := HI2.out; omega⟩⟩
 | false =>
  by_cases hcase : l.length > 5
  ·
   have hd1 : decide ((5 : Int) < (l.length : Int)) = true := decide_eq_true z3_
   have hd2 : decide (5 < l.length) = true := decide_eq_true hcase
   have HS1 := key true
   have hn0 : wOr (decide (l.length > 5)) (bs, false) = (bs, true) := by unfold wOr; simp [hcase]
   clear key
   go_enter Tryz.func52, Tryz.ntmps52
   go_wp2_with (go_at_call 50; refine (dD (bs, true) (l.length : Int) 1 HS1.out (by have := HL.out; show bs.length ≤ _; omega)).mono ?_; rintro e V ⟨⟨u, rfl⟩, h1⟩; have HS2 := mk_ h1; clear h1)
   go_loopg [24] (l.length + 1) (fun kq v24 W' => ∃ (i : Nat), v24 = .int .i64 (i : Int) ∧ Aside0 (Sp W' (WrP g (wAll (fun n => wNum n 4) (l.take i) (wNum (l.length : Int) 1 (bs, true))) :: Old w0 :: F)) ∧ Aside0 (kq + i = l.length + 1 ∧ i ≤ l.length))
   case atStart => exact ⟨0, rfl, ⟨HS2.out⟩, ⟨by omega⟩⟩
   case round =>
    obtain ⟨i, rfl, HA, HK⟩ := hrel
    obtain ⟨k1, rfl⟩ : ∃ k1, gk = k1 + 1 := ⟨gk - 1, by have := HK.out; omega⟩
    by_cases hi : i < l.length
    rotate_left
    ·
     have hie : i = l.length := by have := HK.out; omega
     subst hie
     have hb2' : decide ((l.length : Int) < (l.length : Int)) = false := decide_eq_false z3_
     have hb3' : decide (l.length < l.length) = false := decide_eq_false z3_
     clear hi
     go_wp2
     go_end0
     refine ⟨⟨_, rfl⟩, ?_⟩
     have h := HA.out
     rw [List.take_length] at h
     unfold wNums
     rw [hn0]
     exact h
    have hx := Kd.at_int (aU HC.out HA.out.s1.old) (i : Int) z3_ z3_
    obtain ⟨ad, hA, hx⟩ := hx
    cases hA
    rw [rd_get hi, Int.toNat_natCast] at hx
    have hb0 : (0 ≤ (i : Int)) = True := eq_true z3_
    have hb1 : ((i : Int) < (l.length : Int)) = True := eq_true z3_
    have hb2 : decide ((i : Int) < (l.length : Int)) = true := decide_eq_true z3_
    have hb3 : decide (i < l.length) = true := decide_eq_true hi
    have HI2 := mk_ hi
    have HT := mk_ (iA hi)
    generalize hlx : l[i] = x at *
    clear hi hlx
    go_wp2_with (go_at_call 50; refine (dD _ x 4 HA.out (by have := HL.out; have h1 := hI (f := fun n => wNum n 4) (m := 7) (fun x s => dU x 4 s) (l.take i) (wNum (l.length : Int) 1 (bs, true)); have h2 := dU (l.length : Int) 1 (bs, true); have h3 := HLL.out; have h4 := List.length_take_le i l; have h6 := HI2.out; have h5 : (bs, true).1.length = bs.length := rfl; omega)).mono ?_; rintro e V2 ⟨⟨u, rfl⟩, h1⟩; have HS3 := mk_ h1; clear h1)
    go_roundg k1
    case measure => exact Nat.lt_succ_self _
    case rel => exact ⟨i + 1, by rw [w64 z3_ (by have := HI2.out; have := HLL.out; omega)]; rfl, ⟨by rw [HT.out, gT]; exact HS3.out⟩, ⟨by have := HK.out; omega, by have := HI2.out; omega⟩⟩
  have hd1 : decide ((5 : Int) < (l.length : Int)) = false := decide_eq_false z3_
  have hd2 : decide (5 < l.length) = false := decide_eq_false hcase
  have HS1 := key false
  have hn0 : wOr (decide (l.length > 5)) (bs, false) = (bs, false) := by unfold wOr; simp [hcase]
  clear key
  go_enter Tryz.func52, Tryz.ntmps52
  go_wp2_with (go_at_call 50; refine (dD (bs, false) (l.length : Int) 1 HS1.out (by have := HL.out; show bs.length ≤ _; omega)).mono ?_; rintro e V ⟨⟨u, rfl⟩, h1⟩; have HS2 := mk_ h1; clear h1)
  go_loopg [24] (l.length + 1) (fun kq v24 W' => ∃ (i : Nat), v24 = .int .i64 (i : Int) ∧ Aside0 (Sp W' (WrP g (wAll (fun n => wNum n 4) (l.take i) (wNum (l.length : Int) 1 (bs, false))) :: Old w0 :: F)) ∧ Aside0 (kq + i = l.length + 1 ∧ i ≤ l.length))
  case atStart => exact ⟨0, rfl, ⟨HS2.out⟩, ⟨by omega⟩⟩
  case round =>
   obtain ⟨i, rfl, HA, HK⟩ := hrel
   obtain ⟨k1, rfl⟩ : ∃ k1, gk = k1 + 1 := ⟨gk - 1, by have := HK.out; omega⟩
   by_cases hi : i < l.length
   rotate_left
   ·
    have hie : i = l.length := by have := HK.out; omega
    subst hie
    have hb2' : decide ((l.length : Int) < (l.length : Int)) = false := decide_eq_false z3_
    have hb3' : decide (l.length < l.length) = false := decide_eq_false z3_
    clear hi
    go_wp2
    go_end0
    refine ⟨⟨_, rfl⟩, ?_⟩
    have h := HA.out
    rw [List.take_length] at h
    unfold wNums
    rw [hn0]
    exact h
   have hx := Kd.at_int (aU HC.out HA.out.s1.old) (i : Int) z3_ z3_
   obtain ⟨ad, hA, hx⟩ := hx
   cases hA
   rw [rd_get hi, Int.toNat_natCast] at hx
   have hb0 : (0 ≤ (i : Int)) = True := eq_true z3_
   have hb1 : ((i : Int) < (l.length : Int)) = True := eq_true z3_
   have hb2 : decide ((i : Int) < (l.length : Int)) = true := decide_eq_true z3_
   have hb3 : decide (i < l.length) = true := decide_eq_true hi
   have HI2 := mk_ hi
   have HT := mk_ (iA hi)
   generalize hlx : l[i] = x at *
   clear hi hlx
   go_wp2_with (go_at_call 50; refine (dD _ x 4 HA.out (by have := HL.out; have h1 := hI (f := fun n => wNum n 4) (m := 7) (fun x s => dU x 4 s) (l.take i) (wNum (l.length : Int) 1 (bs, false)); have h2 := dU (l.length : Int) 1 (bs, false); have h3 := HLL.out; have h4 := List.length_take_le i l; have h6 := HI2.out; have h5 : (bs, false).1.length = bs.length := rfl; omega)).mono ?_; rintro e V2 ⟨⟨u, rfl⟩, h1⟩; have HS3 := mk_ h1; clear h1)
   go_roundg k1
   case measure => exact Nat.lt_succ_self _
   case rel => exact ⟨i + 1, by rw [w64 z3_ (by have := HI2.out; have := HLL.out; omega)]; rfl, ⟨by rw [HT.out, gT]; exact HS3.out⟩, ⟨by have := HK.out; omega, by have := HI2.out; omega⟩⟩
end
end Go.Proofs.YtjnjfogfpmeacaaGreat.Ops
end
section
namespace Go.Proofs.YtjnjfogfpmeacaaGreat.Ops
open Go.RowKit PAll Plain PrintWords PrintLast PrintMore Go.Proofs.YtjnjfogfpmeacaaGreat.Sep ZipT PrintWords.Kd PrintMore.Kd
set_option linter.unusedVariables false
set_option linter.unusedSimpArgs false
def RdP (g : Nat) (A : Option Addr) (n c : Nat) (r : Rr) : Part := Blk g (.cells #[.slice A n c, .int .i64 r.1, .bool r.2] 80 (0, 0))
section
variable {w w0 : World} {g : Nat} {A : Option Addr} {c : Nat} {l : List Int} {F : List Part}
theorem fN (hC0 : Kd.C (Kd.int .u8) w0 A l.length l) (hlc : l.length ≤ c) (hb : Bytes l) (hl : l.length ≤ 1000000) (r : Rr) (size : Int) (hp : 0 ≤ r.1 ∧ r.1 ≤ l.length) (hS : Sp w (RdP g A l.length c r :: Old w0 :: F)) :
  Calls Tryz.prog 70 #[.pointer (some ⟨g, 0, none⟩), .int .i64 size] w fun e w' => e = .returned (.int .i64 (rNum size l r).1) ∧ Sp w' (RdP g A l.length c (rNum size l r).2 :: Old w0 :: F) := by
 have HC := mk_ (aU hC0 hS.s1.old)
 have HLC := mk_ hlc
 have hg := get_eq 20 l r.1 size hb hl z3_ (Nat.le_refl _)
 have hu : rNum size l r = rOf (0 : Int) (sGet l r.1 size) r := rfl
 rw [hu]
 obtain ⟨at_, bad⟩ := r
 dsimp only at hg hp hu ⊢
 generalize hgg : sGet l at_ size = gg at hg hu ⊢
 obtain ⟨v_, nx_, e_⟩ := gg
 have HG := mk_ (show PAll.wire_Get.f 20 l at_ size = some (v_, nx_, e_) from hg)
 have h0 : w.cell? ⟨g, 0, none⟩ = some (.slice A l.length c) := aD hS.blk 0
 have h1 : w.cell? ⟨g, 1, none⟩ = some (.int .i64 at_) := aD hS.blk 1
 have h2 : w.cell? ⟨g, 2, none⟩ = some (.bool bad) := aD hS.blk 2
 have f1 := aX hS.blk 1
 have f2 := aX hS.blk 2
 have HS := mk_ hS
 clear hS hC0 hlc hb hl hp hg hu hgg
 cases bad with
 | true =>
  go_enter Tryz.func70, Tryz.ntmps70
  go_wp2
  go_quiet (first | (go_at_call 91; refine (PAll.wire_Get.calls 20 A c l at_ size v_ nx_ _ _ (by repeat (first | exact HC.out | refine C_drewN ?_ _ | refine C_drew ?_)) HLC.out HG.out).mono ?_; rintro e V ⟨rfl, ⟨m, rfl⟩⟩; (try first | exact ⟨rfl, _, World.drewN_drewN _ _ _⟩ | exact ⟨rfl, _, Eq.trans (World.drewN_drewN _ _ _) (congrArg (World.drewN _) (Nat.add_assoc _ _ _))⟩)))
  go_wp2
  go_ret
  have hr : rOf (0 : Int) (v_, nx_, e_) (at_, true) = ((0 : Int), (at_, true)) := by unfold rOf; simp
  rw [hr]
  refine ⟨rfl, ?_⟩
  refine Sp.store (cs := #[.slice A l.length c, .int .i64 at_, .bool true]) ?_ 2 (.bool true)
  repeat (first | exact HS.out | refine Sp.drewN ?_ _ | refine Sp.drew ?_)
 | false =>
  by_cases he : e_ = 0
  ·
   subst he
   go_enter Tryz.func70, Tryz.ntmps70
   go_wp2
   go_quiet (first | (go_at_call 91; refine (PAll.wire_Get.calls 20 A c l at_ size v_ nx_ _ _ (by repeat (first | exact HC.out | refine C_drewN ?_ _ | refine C_drew ?_)) HLC.out HG.out).mono ?_; rintro e V ⟨rfl, ⟨m, rfl⟩⟩; (try first | exact ⟨rfl, _, World.drewN_drewN _ _ _⟩ | exact ⟨rfl, _, Eq.trans (World.drewN_drewN _ _ _) (congrArg (World.drewN _) (Nat.add_assoc _ _ _))⟩)))
   go_wp2
   go_ret
   have hr : rOf (0 : Int) (v_, nx_, 0) (at_, false) = (v_, (nx_, false)) := by unfold rOf; simp
   rw [hr]
   refine ⟨rfl, ?_⟩
   refine Sp.store (cs := #[.slice A l.length c, .int .i64 at_, .bool false]) ?_ 1 (.int .i64 nx_)
   repeat (first | exact HS.out | refine Sp.drewN ?_ _ | refine Sp.drew ?_)
  have hb0 : (e_ == 0) = false := beq_eq_false_iff_ne.2 he
  have hb1 : (e_ != 0) = true := bne_iff_ne.2 he
  have hb2 : decide (e_ = 0) = false := decide_eq_false he
  go_enter Tryz.func70, Tryz.ntmps70
  go_wp2
  go_quiet (first | (go_at_call 91; refine (PAll.wire_Get.calls 20 A c l at_ size v_ nx_ _ _ (by repeat (first | exact HC.out | refine C_drewN ?_ _ | refine C_drew ?_)) HLC.out HG.out).mono ?_; rintro e V ⟨rfl, ⟨m, rfl⟩⟩; (try first | exact ⟨rfl, _, World.drewN_drewN _ _ _⟩ | exact ⟨rfl, _, Eq.trans (World.drewN_drewN _ _ _) (congrArg (World.drewN _) (Nat.add_assoc _ _ _))⟩)))
  go_wp2
  go_ret
  have hr : rOf (0 : Int) (v_, nx_, e_) (at_, false) = ((0 : Int), (at_, true)) := by unfold rOf; simp [he]
  rw [hr]
  refine ⟨rfl, ?_⟩
  refine Sp.store (cs := #[.slice A l.length c, .int .i64 at_, .bool false]) ?_ 2 (.bool true)
  repeat (first | exact HS.out | refine Sp.drewN ?_ _ | refine Sp.drew ?_)
theorem rtext_calls (hC0 : Kd.C (Kd.int .u8) w0 A l.length l) (hlc : l.length ≤ c) (hb : Bytes l) (hl : l.length ≤ 1000000) (r : Rr) (hp : 0 ≤ r.1 ∧ r.1 ≤ l.length) (hS : Sp w (RdP g A l.length c r :: Old w0 :: F)) :
  Calls Tryz.prog 74 #[.pointer (some ⟨g, 0, none⟩)] w fun e w' => e = .returned (.string (rText l r).1) ∧ Sp w' (RdP g A l.length c (rText l r).2 :: Old w0 :: F) := by
 have HC := mk_ (aU hC0 hS.s1.old)
 have HLC := mk_ hlc
 have hg := getText_eq 20 l r.1 hb hl z3_ (Nat.le_refl _)
 have hu : rText l r = rOf (⟨#[]⟩ : ByteArray) (sGetText l r.1) r := rfl
 rw [hu]
 obtain ⟨at_, bad⟩ := r
 dsimp only at hg hp hu ⊢
 generalize hgg : sGetText l at_ = gg at hg hu ⊢
 obtain ⟨v_, nx_, e_⟩ := gg
 have HG := mk_ (show PAll.wire_GetText.f 20 l at_ = some (v_, nx_, e_) from hg)
 have h0 : w.cell? ⟨g, 0, none⟩ = some (.slice A l.length c) := aD hS.blk 0
 have h1 : w.cell? ⟨g, 1, none⟩ = some (.int .i64 at_) := aD hS.blk 1
 have h2 : w.cell? ⟨g, 2, none⟩ = some (.bool bad) := aD hS.blk 2
 have f1 := aX hS.blk 1
 have f2 := aX hS.blk 2
 have HS := mk_ hS
 clear hS hC0 hlc hb hl hp hg hu hgg
 cases bad with
 | true =>
  go_enter Tryz.func74, Tryz.ntmps74
  go_wp2
  go_quiet (first | (go_at_call 92; refine (PAll.wire_GetText.calls 20 A c l at_ v_ nx_ _ _ (by repeat (first | exact HC.out | refine C_drewN ?_ _ | refine C_drew ?_)) HLC.out HG.out).mono ?_; rintro e V ⟨rfl, ⟨m, rfl⟩⟩; (try first | exact ⟨rfl, _, World.drewN_drewN _ _ _⟩ | exact ⟨rfl, _, Eq.trans (World.drewN_drewN _ _ _) (congrArg (World.drewN _) (Nat.add_assoc _ _ _))⟩)))
  go_wp2
  go_ret
  have hr : rOf (⟨#[]⟩ : ByteArray) (v_, nx_, e_) (at_, true) = ((⟨#[]⟩ : ByteArray), (at_, true)) := by unfold rOf; simp
  rw [hr]
  refine ⟨rfl, ?_⟩
  refine Sp.store (cs := #[.slice A l.length c, .int .i64 at_, .bool true]) ?_ 2 (.bool true)
  repeat (first | exact HS.out | refine Sp.drewN ?_ _ | refine Sp.drew ?_)
 | false =>
  by_cases he : e_ = 0
  ·
   subst he
   go_enter Tryz.func74, Tryz.ntmps74
   go_wp2
   go_quiet (first | (go_at_call 92; refine (PAll.wire_GetText.calls 20 A c l at_ v_ nx_ _ _ (by repeat (first | exact HC.out | refine C_drewN ?_ _ | refine C_drew ?_)) HLC.out HG.out).mono ?_; rintro e V ⟨rfl, ⟨m, rfl⟩⟩; (try first | exact ⟨rfl, _, World.drewN_drewN _ _ _⟩ | exact ⟨rfl, _, Eq.trans (World.drewN_drewN _ _ _) (congrArg (World.drewN _) (Nat.add_assoc _ _ _))⟩)))
   go_wp2
   go_ret
   have hr : rOf (⟨#[]⟩ : ByteArray) (v_, nx_, 0) (at_, false) = (v_, (nx_, false)) := by unfold rOf; simp
   rw [hr]
   refine ⟨rfl, ?_⟩
   refine Sp.store (cs := #[.slice A l.length c, .int .i64 at_, .bool false]) ?_ 1 (.int .i64 nx_)
   repeat (first | exact HS.out | refine Sp.drewN ?_ _ | refine Sp.drew ?_)
  have hb0 : (e_ == 0) = false := beq_eq_false_iff_ne.2 he
  have hb1 : (e_ != 0) = true := bne_iff_ne.2 he
  have hb2 : decide (e_ = 0) = false := decide_eq_false he
  go_enter Tryz.func74, Tryz.ntmps74
  go_wp2
  go_quiet (first | (go_at_call 92; refine (PAll.wire_GetText.calls 20 A c l at_ v_ nx_ _ _ (by repeat (first | exact HC.out | refine C_drewN ?_ _ | refine C_drew ?_)) HLC.out HG.out).mono ?_; rintro e V ⟨rfl, ⟨m, rfl⟩⟩; (try first | exact ⟨rfl, _, World.drewN_drewN _ _ _⟩ | exact ⟨rfl, _, Eq.trans (World.drewN_drewN _ _ _) (congrArg (World.drewN _) (Nat.add_assoc _ _ _))⟩)))
  go_wp2
  go_ret
  have hr : rOf (⟨#[]⟩ : ByteArray) (v_, nx_, e_) (at_, false) = ((⟨#[]⟩ : ByteArray), (at_, true)) := by unfold rOf; simp [he]
  rw [hr]
  refine ⟨rfl, ?_⟩
  refine Sp.store (cs := #[.slice A l.length c, .int .i64 at_, .bool false]) ?_ 2 (.bool true)
  repeat (first | exact HS.out | refine Sp.drewN ?_ _ | refine Sp.drew ?_)
theorem rmany_calls (hC0 : Kd.C (Kd.int .u8) w0 A l.length l) (hlc : l.length ≤ c) (hb : Bytes l) (hl : l.length ≤ 1000000) (r : Rr) (size most : Int) (hp : 0 ≤ r.1 ∧ r.1 ≤ l.length) (hS : Sp w (RdP g A l.length c r :: Old w0 :: F)) :
  Calls Tryz.prog 76 #[.pointer (some ⟨g, 0, none⟩), .int .i64 size, .int .i64 most] w fun e w' => e = .returned (.int .i64 (rMany size most l r).1) ∧ Sp w' (RdP g A l.length c (rMany size most l r).2 :: Old w0 :: F) := by
 have hN := fN hC0 hlc hb hl r size hp hS
 have hu : rMany size most l r = if (rNum size l r).1 > most then (0, ((rNum size l r).2.1, true)) else rNum size l r := rfl
 rw [hu]; clear hu
 generalize rNum size l r = q at hN ⊢
 obtain ⟨n, at1, bad1⟩ := q
 have HN := mk_ hN
 clear hN hS hC0 hlc hb hl hp
 by_cases hm : n > most
 ·
  have hb0 : decide (most < n) = true := decide_eq_true hm
  rw [if_pos hm]
  clear hm
  go_enter Tryz.func76, Tryz.ntmps76
  go_wp2_with (go_at_call 70; refine HN.out.mono ?_; rintro e V ⟨rfl, h1⟩; have HS1 := mk_ h1; have k2 := aD h1.blk 2; have f2 := aX h1.blk 2; clear h1)
  go_ret
  exact ⟨rfl, Sp.store (cs := #[.slice A l.length c, .int .i64 at1, .bool bad1]) HS1.out 2 (.bool true)⟩
 have hb0 : decide (most < n) = false := decide_eq_false hm
 rw [if_neg hm]
 clear hm
 go_enter Tryz.func76, Tryz.ntmps76
 go_wp2_with (go_at_call 70; refine HN.out.mono ?_; rintro e V ⟨rfl, h1⟩; have HS1 := mk_ h1; clear h1)
 go_ret
 exact ⟨rfl, HS1.out⟩
end
end Go.Proofs.YtjnjfogfpmeacaaGreat.Ops
end
section
namespace Go.Proofs.YtjnjfogfpmeacaaGreat.Ops
open Go.RowKit PAll Plain PrintWords PrintLast PrintMore Go.Proofs.YtjnjfogfpmeacaaGreat.Sep ZipT PrintWords.Kd PrintMore.Kd
set_option linter.unusedVariables false
set_option linter.unusedSimpArgs false
section
variable {w w0 : World} {g : Nat} {A : Option Addr} {c : Nat} {l : List Int} {F : List Part}
theorem fH {P : Program} {ops : Array Oper} {rest : List Oper} {o : Oper} {a : Act} {Q : Exit → Act → World → Prop} {W : World} {ty : TypeId} {x y : Operand} (_ho : o.op = .store ty x y) (h : wpList P ops Q (o :: rest) a W) : wpList P ops Q (o :: rest) a W := h
theorem cG {g : Nat} {cs : Array Value} {t : TypeId} {fz : Nat × Nat} {w : World} {F : List Part} (h : Sp w (Blk g (.cells cs t fz) :: F)) (cs' : Array Value) : Sp (w.setRow g cs') (Blk g (.cells cs' t fz) :: F) := by
 obtain ⟨ok, h1, h2, h3⟩ := h.head1
 refine h3 _ _ ⟨rfl, rfl, rfl, by simp [World.setRow], fun i _ hn => ?_⟩ ⟨.inl h2.1, by simp [World.setRow, Array.getElem?_modify, h2.2]⟩
 have : ¬ g = i := fun e => hn (e ▸ h2.1)
 simp [World.setRow, Array.getElem?_modify, this]
def rAt (l : List Int) (r : Rr) : Prop := 0 ≤ r.1 ∧ r.1 ≤ l.length
theorem jH {α : Type} (f : List Int → Rr → α × Rr) (l : List Int) : ∀ (n : Nat) (acc : List α) (r : Rr), rTimes f l (n + 1) acc r = ((rTimes f l n acc r).1 ++ [(f l (rTimes f l n acc r).2).1], (f l (rTimes f l n acc r).2).2)
 | 0, acc, r => rfl
 | n + 1, acc, r => jH f l n (acc ++ [(f l r).1]) (f l r).2
theorem gU {l : List Int} {r : Rr} (hb : Bytes l) (s : Nat) (h1 : 1 ≤ s) (h7 : s ≤ 7) (h : rAt l r) : rAt l (rNum (s : Int) l r).2 := (Reads.num s h1 h7).place l r hb h.1 h.2
theorem rAt_times {α : Type} {f : List Int → Rr → α × Rr} {l : List Int} (hf : ∀ r, rAt l r → rAt l (f l r).2) : ∀ (n : Nat) (acc : List α) (r : Rr), rAt l r → rAt l (rTimes f l n acc r).2
 | 0, acc, r, h => h
 | n + 1, acc, r, h => rAt_times hf n (acc ++ [(f l r).1]) (f l r).2 (hf r h)
theorem rdot_calls (hC0 : Kd.C (Kd.int .u8) w0 A l.length l) (hlc : l.length ≤ c) (hb : Bytes l) (hl : l.length ≤ 1000000) (r : Rr) (hp0 : rAt l r) (hp1 : rAt l (rNum 1 l r).2) (hS : Sp w (RdP g A l.length c r :: Old w0 :: F)) :
  Calls Tryz.prog 71 #[.pointer (some ⟨g, 0, none⟩)] w fun e w' => e = .returned (.agg #[.int .i64 (rNum 1 l r).1, .int .i64 (rNum 4 l (rNum 1 l r).2).1]) ∧ Sp w' (RdP g A l.length c (rNum 4 l (rNum 1 l r).2).2 :: Old w0 :: F) := by
 have HP0 := mk_ hp0
 have HP1 := mk_ hp1
 have HC := mk_ (And.intro hC0 (And.intro hlc (And.intro hb hl)))
 have HS0 := mk_ (hS.box (.cells #[.int .i64 0, .int .i64 0] 24 (0, 0)))
 clear hS hC0 hlc hb hl hp0 hp1
 go_enter Tryz.func71, Tryz.ntmps71
 go_wp2_with (first
  | (go_at_call 70; (with_reducible show Calls _ _ #[_, .int .i64 1] _ _); refine (fN (F := Blk w.heap.size (.cells #[.int .i64 0, .int .i64 0] 24 (0, 0)) :: F) HC.out.1 HC.out.2.1 HC.out.2.2.1 HC.out.2.2.2 r 1 HP0.out (Sp.s1 (Sp.s2 (Sp.s1 HS0.out)))).mono ?_; rintro e V0 ⟨rfl, h1⟩; have HS1 := mk_ h1; clear h1)
  | (go_at_call 70; (with_reducible show Calls _ _ #[_, .int .i64 4] _ _); refine (fN (F := Blk w.heap.size (.cells #[.int .i64 0, .int .i64 0] 24 (0, 0)) :: F) HC.out.1 HC.out.2.1 HC.out.2.2.1 HC.out.2.2.2 (rNum 1 l r).2 4 HP1.out HS1.out).mono ?_; rintro e V1 ⟨rfl, h1⟩; have HS2 := mk_ h1; clear h1)
  | ((with_reducible refine fH (ty := 24) (x := .tmp 2) (y := .tmp 7) rfl ?_); refine wpList_store_row rfl 24 (.tmp 2) (.tmp 7) rfl w.heap.size #[.int .i64 (rNum 1 l r).1, .int .i64 (rNum 4 l (rNum 1 l r).2).1] rfl rfl 24 #[.int .i64 0, .int .i64 0] HS2.out.s2.blk z2_ rfl (by first | decide | rfl | simp [Value.oneCell']) ?_))
 refine bodyPost_ret (results_cell_row rfl _ _ w.heap.size 24 #[.int .i64 (rNum 1 l r).1, .int .i64 (rNum 4 l (rNum 1 l r).2).1] (0, 0) _ rfl (cG HS2.out.s2 _).blk Tryz.underlying24 rfl z2_) rfl ?_
 exact ⟨rfl, (cG HS2.out.s2 #[.int .i64 (rNum 1 l r).1, .int .i64 (rNum 4 l (rNum 1 l r).2).1]).tail⟩
theorem rstamp_calls (hC0 : Kd.C (Kd.int .u8) w0 A l.length l) (hlc : l.length ≤ c) (hb : Bytes l) (hl : l.length ≤ 1000000) (r : Rr) (hp0 : rAt l r) (hp1 : rAt l (rNum 6 l r).2) (hp2 : rAt l (rNum 3 l (rNum 6 l r).2).2) (hS : Sp w (RdP g A l.length c r :: Old w0 :: F)) :
  Calls Tryz.prog 73 #[.pointer (some ⟨g, 0, none⟩)] w fun e w' => e = .returned (.agg #[.int .i64 (rNum 6 l r).1, .int .i64 (rNum 3 l (rNum 6 l r).2).1, .int .i64 (rNum 1 l (rNum 3 l (rNum 6 l r).2).2).1]) ∧ Sp w' (RdP g A l.length c (rNum 1 l (rNum 3 l (rNum 6 l r).2).2).2 :: Old w0 :: F) := by
 have HP0 := mk_ hp0
 have HP1 := mk_ hp1
 have HP2 := mk_ hp2
 have HC := mk_ (And.intro hC0 (And.intro hlc (And.intro hb hl)))
 have HS0 := mk_ (hS.box (.cells #[.int .i64 0, .int .i64 0, .int .i64 0] 27 (0, 0)))
 clear hS hC0 hlc hb hl hp0 hp1 hp2
 go_enter Tryz.func73, Tryz.ntmps73
 go_wp2_with (first
  | (go_at_call 70; (with_reducible show Calls _ _ #[_, .int .i64 6] _ _); refine (fN (F := Blk w.heap.size (.cells #[.int .i64 0, .int .i64 0, .int .i64 0] 27 (0, 0)) :: F) HC.out.1 HC.out.2.1 HC.out.2.2.1 HC.out.2.2.2 r 6 HP0.out (Sp.s1 (Sp.s2 (Sp.s1 HS0.out)))).mono ?_; rintro e V0 ⟨rfl, h1⟩; have HS1 := mk_ h1; clear h1)
  | (go_at_call 70; (with_reducible show Calls _ _ #[_, .int .i64 3] _ _); refine (fN (F := Blk w.heap.size (.cells #[.int .i64 0, .int .i64 0, .int .i64 0] 27 (0, 0)) :: F) HC.out.1 HC.out.2.1 HC.out.2.2.1 HC.out.2.2.2 (rNum 6 l r).2 3 HP1.out HS1.out).mono ?_; rintro e V1 ⟨rfl, h1⟩; have HS2 := mk_ h1; clear h1)
  | (go_at_call 70; (with_reducible show Calls _ _ #[_, .int .i64 1] _ _); refine (fN (F := Blk w.heap.size (.cells #[.int .i64 0, .int .i64 0, .int .i64 0] 27 (0, 0)) :: F) HC.out.1 HC.out.2.1 HC.out.2.2.1 HC.out.2.2.2 (rNum 3 l (rNum 6 l r).2).2 1 HP2.out HS2.out).mono ?_; rintro e V2 ⟨rfl, h1⟩; have HS3 := mk_ h1; clear h1)
  | ((with_reducible refine fH (ty := 27) (x := .tmp 2) (y := .tmp 9) rfl ?_); refine wpList_store_row rfl 27 (.tmp 2) (.tmp 9) rfl w.heap.size #[.int .i64 (rNum 6 l r).1, .int .i64 (rNum 3 l (rNum 6 l r).2).1, .int .i64 (rNum 1 l (rNum 3 l (rNum 6 l r).2).2).1] rfl rfl 27 #[.int .i64 0, .int .i64 0, .int .i64 0] HS3.out.s2.blk z2_ rfl (by first | decide | rfl | simp [Value.oneCell']) ?_))
 refine bodyPost_ret (results_cell_row rfl _ _ w.heap.size 27 #[.int .i64 (rNum 6 l r).1, .int .i64 (rNum 3 l (rNum 6 l r).2).1, .int .i64 (rNum 1 l (rNum 3 l (rNum 6 l r).2).2).1] (0, 0) _ rfl (cG HS3.out.s2 _).blk Tryz.underlying27 rfl z2_) rfl ?_
 exact ⟨rfl, (cG HS3.out.s2 #[.int .i64 (rNum 6 l r).1, .int .i64 (rNum 3 l (rNum 6 l r).2).1, .int .i64 (rNum 1 l (rNum 3 l (rNum 6 l r).2).2).1]).tail⟩
end
end Go.Proofs.YtjnjfogfpmeacaaGreat.Ops
end
section
namespace Go.Proofs.YtjnjfogfpmeacaaGreat.Ops
open Go.RowKit PAll Ops Plain PrintWords PrintLast PrintMore Go.Proofs.YtjnjfogfpmeacaaGreat.Sep ZipT PrintWords.Kd PrintMore.Kd
set_option linter.unusedVariables false
set_option linter.unusedSimpArgs false
def whT : Bool × List (List Nat × List Nat) := (true, [([], []), ([0], [0]), ([1], [1]), ([2], [2]), ([3], [3]), ([4, 3], [3, 4]), ([3], [3]), ([5, 6, 3], [3, 5, 6]), ([3, 7], [3, 7]), ([8, 3], [8]), ([9], [9]), ([10, 9], [9, 10]), ([11, 9], [9, 11]), ([9, 12], [9, 12]), ([13, 9], [13]), ([14], [14]), ([15, 14], [14, 15]), ([16, 14], [14, 16]), ([14, 17], [14, 17]), ([18, 14], [18]), ([19], [19]), ([20, 19], [19, 20]), ([21, 19], [19, 21]), ([19], [19]), ([22, 23, 19], [19, 22, 23]), ([19, 24], [19, 24]), ([25, 19], [25]), ([26], [26]), ([27, 26], [26, 27]), ([28, 26, 26], [26, 28]), ([29, 26], [26, 29]), ([26, 30], [26, 30]), ([31, 29], [31]), ([32], [32]), ([33, 32], [32, 33]), ([32], [32]), ([35, 32], [32, 35]), ([34, 36, 32], [32, 34, 36]), ([37, 32], [32, 37]), ([32], [32]), ([39, 32], [32, 39]), ([40, 32], [32, 40]), ([38, 41, 32], [32, 38, 41]), ([32, 42], [32, 42]), ([43, 32], [43]), ([44], [44]), ([45, 44], [44, 45]), ([46, 44, 44], [44, 46]), ([47, 44], [44, 47]), ([44, 48], [44, 48]), ([49, 47], [49]), ([50], [50]), ([51, 50], [50, 51]), ([52, 50], [50, 52]), ([50], [50]), ([54, 50], [50, 54]), ([53, 55, 50], [50, 53, 55]), ([50, 56], [50, 56]), ([57, 50, 0, 1, 2, 3, 4, 5, 6, 7, 8, 9, 10, 11, 12, 13, 14, 15, 16, 17, 18, 19, 20, 21, 22, 23, 24, 25, 26, 27, 28, 29, 30, 31, 32, 33, 34, 35, 36, 37, 38, 39, 40, 41, 42, 43, 44, 45, 46, 47, 48, 49, 50, 51, 52, 53, 54, 55, 56, 57], [57])])
def whB : List Nat := [0, 1, 3, 7, 15, 31, 15, 127, 255, 511, 1023, 2047, 4095, 8191, 16383, 32767, 65535, 131071, 262143, 524287, 1048575, 2097151, 4194303, 1048575, 16777215, 33554431, 67108863, 134217727, 268435455, 536870911, 1073741823, 2147483647, 4294967295, 8589934591, 17179869183, 8589934591, 42949672959, 137438953471, 274877906943, 8589934591, 558345748479, 1657857376255, 4398046511103, 8796093022207, 17592186044415, 35184372088831, 70368744177663, 140737488355327, 281474976710655, 562949953421311, 1125899906842623, 2251799813685247, 4503599627370495, 9007199254740991, 2251799813685247, 20266198323167231, 72057594037927935, 144115188075855871, 288230376151711743]
theorem whtab : rtab .any (opsOf Tryz.f59 2) = whT := by kernel_rfl
theorem whbits : waitsOk whT.2 whB = true := by kernel_rfl
set_option maxHeartbeats 40000000 in
theorem whole_calls (n : Int) (x : Ox) (A2 : Option Addr) (c2 : Nat) (A10 : Option Addr) (c10 : Nat) (A11 : Option Addr) (c11 : Nat) (w : World) (hr2 : Kd.C (Kd.int .i64) w A2 x.f1.length x.f1) (hc2 : x.f1.length ≤ c2) (hx : x.f1.length ≤ 1000) :
  Calls Tryz.prog 59 #[.int .i64 n, .agg #[.int .i64 x.f0.f0, .int .i64 x.f0.f1, .slice A2 x.f1.length c2, .int .i64 x.f2.f0, .int .i64 x.f2.f1, .int .i64 x.f2.f2, .int .i64 x.f3, .int .i64 x.f4, .string x.f5, .int .i64 x.f6, .slice A10 x.f7.length c10, .slice A11 x.f8.length c11]] w fun e w' => e = .returned (.bool (decide (wholeP n x))) ∧ Below w.heap.size w w' := by
 have hu1 := Tryz.underlying31
 have hu2 := Tryz.underlying27
 have hu3 := Tryz.underlying24
 obtain ⟨res, hres⟩ : ∃ r, decide (wholeP n x) = r := ⟨_, rfl⟩
 rw [hres]
 have HRS := mk_ hres.symm
 clear hres
 have h1 := (Sp.start w).box (.cells #[.int .i64 x.f0.f0, .int .i64 x.f0.f1, .slice A2 x.f1.length c2, .int .i64 x.f2.f0, .int .i64 x.f2.f1, .int .i64 x.f2.f2, .int .i64 x.f3, .int .i64 x.f4, .string x.f5, .int .i64 x.f6, .slice A10 x.f7.length c10, .slice A11 x.f8.length c11] 31 (0, 0))
 have h2 := h1.box (.cells #[.int .i64 0, .int .i64 0] 24 (0, 0))
 rw [show (w.alloc (.cells #[.int .i64 x.f0.f0, .int .i64 x.f0.f1, .slice A2 x.f1.length c2, .int .i64 x.f2.f0, .int .i64 x.f2.f1, .int .i64 x.f2.f2, .int .i64 x.f3, .int .i64 x.f4, .string x.f5, .int .i64 x.f6, .slice A10 x.f7.length c10, .slice A11 x.f8.length c11] 31 (0, 0))).heap.size = w.heap.size + 1 from Array.size_push _] at h2
 have h3 := cG h2 #[.int .i64 x.f0.f0, .int .i64 x.f0.f1]
 have HS := mk_ h3.drew
 have HR2 := mk_ hr2
 have HC2 := mk_ hc2
 have HV := mk_ (vec_eq 2000 x.f1 z3_ z3_)
 obtain ⟨e7, he7⟩ : ∃ e : Int, (if stampOk x.f2 then 0 else 1) = e := ⟨_, rfl⟩
 have HH := mk_ (show hZ.f x.f2.f0 x.f2.f1 x.f2.f2 = some e7 by rw [hlc_eq, he7])
 have E7 : Aside0 (e7 = 0 ↔ stampOk x.f2) := ⟨by rw [← he7]; by_cases c : stampOk x.f2 <;> simp [c]⟩
 clear he7
 have HLX := mk_ hx
 have kx := aD h1.blk
 clear hr2 hc2 hx h1 h3
 have no : ∀ P : Prop, (wholeP n x → P) → ¬ P → res = false := fun P h hn => by rw [HRS.out]; exact decide_eq_false (fun e => hn (h e))
 have HNO := mk_ no
 clear no
 go_enter Tryz.func59, Tryz.ntmps59
 go_wp2_with ((with_reducible refine fH (ty := 24) (x := .tmp 5) (y := .tmp 7) rfl ?_); refine wpList_store_row rfl 24 (.tmp 5) (.tmp 7) rfl (w.heap.size + 1) #[.int .i64 x.f0.f0, .int .i64 x.f0.f1] rfl rfl 24 #[.int .i64 0, .int .i64 0] h2.blk z2_ rfl (by first | decide | rfl | simp [Value.oneCell']) ?_)
 clear kx h2
 by_cases hg : (x.f1.length : Int) = n ∧ 0 ≤ x.f0.f0 ∧ x.f0.f0 < (x.f1.length : Int)
 rotate_left
 ·
  as_aux_lemma =>
   have HG := mk_ hg
   clear hg
   refine Steps.start_n (n := 59) (S := fun w' => w'.heap[w.heap.size]? = some (.cells #[.int .i64 x.f0.f0, .int .i64 x.f0.f1, .slice A2 x.f1.length c2, .int .i64 x.f2.f0, .int .i64 x.f2.f1, .int .i64 x.f2.f2, .int .i64 x.f3, .int .i64 x.f4, .string x.f5, .int .i64 x.f6, .slice A10 x.f7.length c10, .slice A11 x.f8.length c11] 31 (0, 0)) ∧ w'.heap[(w.heap.size + 1)]? = some (.cells #[.int .i64 x.f0.f0, .int .i64 x.f0.f1] 24 (0, 0)) ∧ True) (ds := []) (fun W => W.heap[w.heap.size]? = some (.cells #[.int .i64 x.f0.f0, .int .i64 x.f0.f1, .slice A2 x.f1.length c2, .int .i64 x.f2.f0, .int .i64 x.f2.f1, .int .i64 x.f2.f2, .int .i64 x.f3, .int .i64 x.f4, .string x.f5, .int .i64 x.f6, .slice A10 x.f7.length c10, .slice A11 x.f8.length c11] 31 (0, 0)) ∧ W.heap[(w.heap.size + 1)]? = some (.cells #[.int .i64 x.f0.f0, .int .i64 x.f0.f1] 24 (0, 0)) ∧ Below w.heap.size w W) z2_ rfl z2_ ⟨HS.out.s1.blk, HS.out.blk, HS.out.tail.tail.old⟩ (fun W hJ => ?_) (fun W0 hJ hS0 => ?_)
   ·
    obtain ⟨bk0_0, bk1_0, hb0⟩ := hJ
    exact ⟨bk0_0, bk1_0, trivial⟩
   obtain ⟨bk0_0, bk1_0, hb0⟩ := hJ
   refine cZ whtab whbits (fun HT_ HW_ => ?_)
   by_cases h1 : 0 ≤ x.f0.f0
   rotate_left
   ·
    have h1_n := mk_ h1
    have h1_0 : decide (0 ≤ x.f0.f0) = false := decide_eq_false h1
    clear h1
    refine Steps.nI_ 8 HT_.out (h := ?_)
    refine Steps.nT_ 8 HT_.out HW_.out hS0 (h := ?_)
    iterate 2 refine Steps.nI_ 8 HT_.out (h := ?_)
    iterate 4 refine Steps.nR_ 8 HT_.out (h := ?_)
    iterate 2 refine Steps.nI_ 8 HT_.out (h := ?_)
    iterate 3 refine Steps.nR_ 8 HT_.out (h := ?_)
    iterate 2 refine Steps.nI_ 8 HT_.out (h := ?_)
    iterate 3 refine Steps.nR_ 8 HT_.out (h := ?_)
    iterate 2 refine Steps.nI_ 8 HT_.out (h := ?_)
    iterate 5 refine Steps.nR_ 8 HT_.out (h := ?_)
    iterate 2 refine Steps.nI_ 8 HT_.out (h := ?_)
    iterate 4 refine Steps.nR_ 8 HT_.out (h := ?_)
    iterate 2 refine Steps.nI_ 8 HT_.out (h := ?_)
    iterate 10 refine Steps.nR_ 8 HT_.out (h := ?_)
    iterate 2 refine Steps.nI_ 8 HT_.out (h := ?_)
    iterate 4 refine Steps.nR_ 8 HT_.out (h := ?_)
    iterate 2 refine Steps.nI_ 8 HT_.out (h := ?_)
    iterate 6 refine Steps.nR_ 8 HT_.out (h := ?_)
    refine Steps.nI_ 8 HT_.out (h := ?_)
    refine Steps.pI_ 58 (some 4) (Steps.Pre 59 59) (eY HT_.out z2_) (h := ?_)
    refine done_ (cC HT_.out z2_) ?_
    go_wp2
    go_ret
    rw [show res = false from HNO.out (0 ≤ x.f0.f0) (fun h => h.1.1) (by have := h1_n.out; omega)]
    exact ⟨rfl, hb0⟩
   have h1_y := mk_ h1
   have h1_0 : decide (0 ≤ x.f0.f0) = true := decide_eq_true h1
   clear h1
   by_cases h2 : x.f0.f0 < n
   rotate_left
   ·
    have h2_n := mk_ h2
    have h2_0 : decide (x.f0.f0 < n) = false := decide_eq_false h2
    clear h2
    refine Steps.nI_ 8 HT_.out (h := ?_)
    refine Steps.nT_ 8 HT_.out HW_.out hS0 (h := ?_)
    iterate 3 refine Steps.nI_ 8 HT_.out (h := ?_)
    refine Steps.nT_ 8 HT_.out HW_.out hS0 (h := ?_)
    iterate 4 refine Steps.nI_ 8 HT_.out (h := ?_)
    iterate 3 refine Steps.nR_ 8 HT_.out (h := ?_)
    iterate 2 refine Steps.nI_ 8 HT_.out (h := ?_)
    iterate 3 refine Steps.nR_ 8 HT_.out (h := ?_)
    iterate 2 refine Steps.nI_ 8 HT_.out (h := ?_)
    iterate 5 refine Steps.nR_ 8 HT_.out (h := ?_)
    iterate 2 refine Steps.nI_ 8 HT_.out (h := ?_)
    iterate 4 refine Steps.nR_ 8 HT_.out (h := ?_)
    iterate 2 refine Steps.nI_ 8 HT_.out (h := ?_)
    iterate 10 refine Steps.nR_ 8 HT_.out (h := ?_)
    iterate 2 refine Steps.nI_ 8 HT_.out (h := ?_)
    iterate 4 refine Steps.nR_ 8 HT_.out (h := ?_)
    iterate 2 refine Steps.nI_ 8 HT_.out (h := ?_)
    iterate 6 refine Steps.nR_ 8 HT_.out (h := ?_)
    refine Steps.nI_ 8 HT_.out (h := ?_)
    refine Steps.pI_ 58 (some 4) (Steps.Pre 59 59) (eY HT_.out z2_) (h := ?_)
    refine done_ (cC HT_.out z2_) ?_
    go_wp2
    go_ret
    rw [show res = false from HNO.out (x.f0.f0 < n) (fun h => h.1.2) (by have := h2_n.out; omega)]
    exact ⟨rfl, hb0⟩
   have h2_y := mk_ h2
   have h2_0 : decide (x.f0.f0 < n) = true := decide_eq_true h2
   clear h2
   by_cases h3 : 1 ≤ x.f0.f1
   rotate_left
   ·
    have h3_n := mk_ h3
    have h3_0 : decide (1 ≤ x.f0.f1) = false := decide_eq_false h3
    clear h3
    refine Steps.nI_ 8 HT_.out (h := ?_)
    refine Steps.nT_ 8 HT_.out HW_.out hS0 (h := ?_)
    iterate 3 refine Steps.nI_ 8 HT_.out (h := ?_)
    refine Steps.nT_ 8 HT_.out HW_.out hS0 (h := ?_)
    iterate 5 refine Steps.nI_ 8 HT_.out (h := ?_)
    refine Steps.nT_ 8 HT_.out HW_.out hS0 (h := ?_)
    iterate 3 refine Steps.nI_ 8 HT_.out (h := ?_)
    iterate 3 refine Steps.nR_ 8 HT_.out (h := ?_)
    iterate 2 refine Steps.nI_ 8 HT_.out (h := ?_)
    iterate 5 refine Steps.nR_ 8 HT_.out (h := ?_)
    iterate 2 refine Steps.nI_ 8 HT_.out (h := ?_)
    iterate 4 refine Steps.nR_ 8 HT_.out (h := ?_)
    iterate 2 refine Steps.nI_ 8 HT_.out (h := ?_)
    iterate 10 refine Steps.nR_ 8 HT_.out (h := ?_)
    iterate 2 refine Steps.nI_ 8 HT_.out (h := ?_)
    iterate 4 refine Steps.nR_ 8 HT_.out (h := ?_)
    iterate 2 refine Steps.nI_ 8 HT_.out (h := ?_)
    iterate 6 refine Steps.nR_ 8 HT_.out (h := ?_)
    refine Steps.nI_ 8 HT_.out (h := ?_)
    refine Steps.pI_ 58 (some 4) (Steps.Pre 59 59) (eY HT_.out z2_) (h := ?_)
    refine done_ (cC HT_.out z2_) ?_
    go_wp2
    go_ret
    rw [show res = false from HNO.out (1 ≤ x.f0.f1) (fun h => h.2.1.1) (by have := h3_n.out; omega)]
    exact ⟨rfl, hb0⟩
   have h3_y := mk_ h3
   have h3_0 : decide (1 ≤ x.f0.f1) = true := decide_eq_true h3
   clear h3
   by_cases h4 : x.f0.f1 ≤ 1073741824
   rotate_left
   ·
    have h4_n := mk_ h4
    have h4_0 : decide (x.f0.f1 ≤ 1073741824) = false := decide_eq_false h4
    clear h4
    refine Steps.nI_ 8 HT_.out (h := ?_)
    refine Steps.nT_ 8 HT_.out HW_.out hS0 (h := ?_)
    iterate 3 refine Steps.nI_ 8 HT_.out (h := ?_)
    refine Steps.nT_ 8 HT_.out HW_.out hS0 (h := ?_)
    iterate 5 refine Steps.nI_ 8 HT_.out (h := ?_)
    refine Steps.nT_ 8 HT_.out HW_.out hS0 (h := ?_)
    iterate 4 refine Steps.nI_ 8 HT_.out (h := ?_)
    refine Steps.nT_ 8 HT_.out HW_.out hS0 (h := ?_)
    iterate 3 refine Steps.nI_ 8 HT_.out (h := ?_)
    iterate 5 refine Steps.nR_ 8 HT_.out (h := ?_)
    iterate 2 refine Steps.nI_ 8 HT_.out (h := ?_)
    iterate 4 refine Steps.nR_ 8 HT_.out (h := ?_)
    iterate 2 refine Steps.nI_ 8 HT_.out (h := ?_)
    iterate 10 refine Steps.nR_ 8 HT_.out (h := ?_)
    iterate 2 refine Steps.nI_ 8 HT_.out (h := ?_)
    iterate 4 refine Steps.nR_ 8 HT_.out (h := ?_)
    iterate 2 refine Steps.nI_ 8 HT_.out (h := ?_)
    iterate 6 refine Steps.nR_ 8 HT_.out (h := ?_)
    refine Steps.nI_ 8 HT_.out (h := ?_)
    refine Steps.pI_ 58 (some 4) (Steps.Pre 59 59) (eY HT_.out z2_) (h := ?_)
    refine done_ (cC HT_.out z2_) ?_
    go_wp2
    go_ret
    rw [show res = false from HNO.out (x.f0.f1 ≤ 1073741824) (fun h => h.2.1.2) (by have := h4_n.out; omega)]
    exact ⟨rfl, hb0⟩
   have h4_y := mk_ h4
   have h4_0 : decide (x.f0.f1 ≤ 1073741824) = true := decide_eq_true h4
   clear h4
   have hl : ¬ (x.f1.length : Int) = n := fun h => HG.out ⟨h, h1_y.out, by rw [h]; exact h2_y.out⟩
   have HL := mk_ hl
   have hl_0 : ((x.f1.length : Int) == n) = false := beq_eq_false_iff_ne.mpr hl
   have hl_1 : ((x.f1.length : Int) != n) = true := bne_iff_ne.mpr hl
   have hl_2 : decide ((x.f1.length : Int) = n) = false := decide_eq_false hl
   clear hl
   refine Steps.nI_ 8 HT_.out (h := ?_)
   refine Steps.nT_ 8 HT_.out HW_.out hS0 (h := ?_)
   iterate 3 refine Steps.nI_ 8 HT_.out (h := ?_)
   refine Steps.nT_ 8 HT_.out HW_.out hS0 (h := ?_)
   iterate 5 refine Steps.nI_ 8 HT_.out (h := ?_)
   refine Steps.nT_ 8 HT_.out HW_.out hS0 (h := ?_)
   iterate 4 refine Steps.nI_ 8 HT_.out (h := ?_)
   refine Steps.nT_ 8 HT_.out HW_.out hS0 (h := ?_)
   iterate 4 refine Steps.nI_ 8 HT_.out (h := ?_)
   refine Steps.nT_ 8 HT_.out HW_.out hS0 (h := ?_)
   iterate 5 refine Steps.nI_ 8 HT_.out (h := ?_)
   iterate 4 refine Steps.nR_ 8 HT_.out (h := ?_)
   iterate 2 refine Steps.nI_ 8 HT_.out (h := ?_)
   iterate 10 refine Steps.nR_ 8 HT_.out (h := ?_)
   iterate 2 refine Steps.nI_ 8 HT_.out (h := ?_)
   iterate 4 refine Steps.nR_ 8 HT_.out (h := ?_)
   iterate 2 refine Steps.nI_ 8 HT_.out (h := ?_)
   iterate 6 refine Steps.nR_ 8 HT_.out (h := ?_)
   refine Steps.nI_ 8 HT_.out (h := ?_)
   refine Steps.pI_ 58 (some 4) (Steps.Pre 59 59) (eY HT_.out z2_) (h := ?_)
   refine done_ (cC HT_.out z2_) ?_
   go_wp2
   go_ret
   rw [show res = false from HNO.out ((x.f1.length : Int) = n) (fun h => h.2.2.1) HL.out]
   exact ⟨rfl, hb0⟩
 as_aux_lemma =>
  obtain ⟨hl, p0, q0⟩ := hg
  obtain ⟨ad, he_, hw⟩ := Kd.at_int HR2.out x.f0.f0 p0 q0
  subst he_
  have HL := mk_ hl
  have h1_y := mk_ p0
  have h2 : x.f0.f0 < n := by rw [← hl]; exact q0
  have h2_y := mk_ h2
  have h1_0 : decide (0 ≤ x.f0.f0) = true := decide_eq_true p0
  have h2_0 : decide (x.f0.f0 < n) = true := decide_eq_true h2
  have hl_0 : ((x.f1.length : Int) == n) = true := beq_iff_eq.mpr hl
  have hl_1 : ((x.f1.length : Int) != n) = false := bne_eq_false_iff_eq.mpr hl
  have hl_2 : decide ((x.f1.length : Int) = n) = true := decide_eq_true hl
  have p1 := eq_true p0
  have q1 := eq_true q0
  have q2 : decide (x.f0.f0 < (x.f1.length : Int)) = true := decide_eq_true q0
  clear p0 q0 hl h2
  refine Steps.start_n (n := 59) (S := fun w' => w'.heap[w.heap.size]? = some (.cells #[.int .i64 x.f0.f0, .int .i64 x.f0.f1, .slice (some ad) x.f1.length c2, .int .i64 x.f2.f0, .int .i64 x.f2.f1, .int .i64 x.f2.f2, .int .i64 x.f3, .int .i64 x.f4, .string x.f5, .int .i64 x.f6, .slice A10 x.f7.length c10, .slice A11 x.f8.length c11] 31 (0, 0)) ∧ w'.heap[(w.heap.size + 1)]? = some (.cells #[.int .i64 x.f0.f0, .int .i64 x.f0.f1] 24 (0, 0)) ∧ w'.cell? (ad.add (x.f0.f0).toNat) = some (.int .i64 (rd x.f1 x.f0.f0)) ∧ True) (ds := []) (fun W => W.heap[w.heap.size]? = some (.cells #[.int .i64 x.f0.f0, .int .i64 x.f0.f1, .slice (some ad) x.f1.length c2, .int .i64 x.f2.f0, .int .i64 x.f2.f1, .int .i64 x.f2.f2, .int .i64 x.f3, .int .i64 x.f4, .string x.f5, .int .i64 x.f6, .slice A10 x.f7.length c10, .slice A11 x.f8.length c11] 31 (0, 0)) ∧ W.heap[(w.heap.size + 1)]? = some (.cells #[.int .i64 x.f0.f0, .int .i64 x.f0.f1] 24 (0, 0)) ∧ Below w.heap.size w W) z2_ rfl z2_ ⟨HS.out.s1.blk, HS.out.blk, HS.out.tail.tail.old⟩ (fun W hJ => ?_) (fun W0 hJ hS0 => ?_)
  ·
   obtain ⟨bk0_0, bk1_0, hb0⟩ := hJ
   exact ⟨bk0_0, bk1_0, ((hb0.cell (World.block_lt_of_cell? w _ hw)).trans hw), trivial⟩
  obtain ⟨bk0_0, bk1_0, hb0⟩ := hJ
  refine cZ whtab whbits (fun HT_ HW_ => ?_)
  by_cases h3 : 1 ≤ x.f0.f1
  rotate_left
  ·
   have h3_n := mk_ h3
   have h3_0 : decide (1 ≤ x.f0.f1) = false := decide_eq_false h3
   clear h3
   refine Steps.nI_ 8 HT_.out (h := ?_)
   refine Steps.nT_ 8 HT_.out HW_.out hS0 (h := ?_)
   iterate 3 refine Steps.nI_ 8 HT_.out (h := ?_)
   refine Steps.nT_ 8 HT_.out HW_.out hS0 (h := ?_)
   iterate 5 refine Steps.nI_ 8 HT_.out (h := ?_)
   refine Steps.nT_ 8 HT_.out HW_.out hS0 (h := ?_)
   iterate 3 refine Steps.nI_ 8 HT_.out (h := ?_)
   iterate 3 refine Steps.nR_ 8 HT_.out (h := ?_)
   iterate 2 refine Steps.nI_ 8 HT_.out (h := ?_)
   iterate 5 refine Steps.nR_ 8 HT_.out (h := ?_)
   iterate 2 refine Steps.nI_ 8 HT_.out (h := ?_)
   iterate 4 refine Steps.nR_ 8 HT_.out (h := ?_)
   iterate 2 refine Steps.nI_ 8 HT_.out (h := ?_)
   iterate 10 refine Steps.nR_ 8 HT_.out (h := ?_)
   iterate 2 refine Steps.nI_ 8 HT_.out (h := ?_)
   iterate 4 refine Steps.nR_ 8 HT_.out (h := ?_)
   iterate 2 refine Steps.nI_ 8 HT_.out (h := ?_)
   iterate 6 refine Steps.nR_ 8 HT_.out (h := ?_)
   refine Steps.nI_ 8 HT_.out (h := ?_)
   refine Steps.pI_ 58 (some 4) (Steps.Pre 59 59) (eY HT_.out z2_) (h := ?_)
   refine done_ (cC HT_.out z2_) ?_
   go_wp2
   go_ret
   rw [show res = false from HNO.out (1 ≤ x.f0.f1) (fun h => h.2.1.1) (by have := h3_n.out; omega)]
   exact ⟨rfl, hb0⟩
  have h3_y := mk_ h3
  have h3_0 : decide (1 ≤ x.f0.f1) = true := decide_eq_true h3
  clear h3
  by_cases h4 : x.f0.f1 ≤ 1073741824
  rotate_left
  ·
   have h4_n := mk_ h4
   have h4_0 : decide (x.f0.f1 ≤ 1073741824) = false := decide_eq_false h4
   clear h4
   refine Steps.nI_ 8 HT_.out (h := ?_)
   refine Steps.nT_ 8 HT_.out HW_.out hS0 (h := ?_)
   iterate 3 refine Steps.nI_ 8 HT_.out (h := ?_)
   refine Steps.nT_ 8 HT_.out HW_.out hS0 (h := ?_)
   iterate 5 refine Steps.nI_ 8 HT_.out (h := ?_)
   refine Steps.nT_ 8 HT_.out HW_.out hS0 (h := ?_)
   iterate 4 refine Steps.nI_ 8 HT_.out (h := ?_)
   refine Steps.nT_ 8 HT_.out HW_.out hS0 (h := ?_)
   iterate 3 refine Steps.nI_ 8 HT_.out (h := ?_)
   iterate 5 refine Steps.nR_ 8 HT_.out (h := ?_)
   iterate 2 refine Steps.nI_ 8 HT_.out (h := ?_)
   iterate 4 refine Steps.nR_ 8 HT_.out (h := ?_)
   iterate 2 refine Steps.nI_ 8 HT_.out (h := ?_)
   iterate 10 refine Steps.nR_ 8 HT_.out (h := ?_)
   iterate 2 refine Steps.nI_ 8 HT_.out (h := ?_)
   iterate 4 refine Steps.nR_ 8 HT_.out (h := ?_)
   iterate 2 refine Steps.nI_ 8 HT_.out (h := ?_)
   iterate 6 refine Steps.nR_ 8 HT_.out (h := ?_)
   refine Steps.nI_ 8 HT_.out (h := ?_)
   refine Steps.pI_ 58 (some 4) (Steps.Pre 59 59) (eY HT_.out z2_) (h := ?_)
   refine done_ (cC HT_.out z2_) ?_
   go_wp2
   go_ret
   rw [show res = false from HNO.out (x.f0.f1 ≤ 1073741824) (fun h => h.2.1.2) (by have := h4_n.out; omega)]
   exact ⟨rfl, hb0⟩
  have h4_y := mk_ h4
  have h4_0 : decide (x.f0.f1 ≤ 1073741824) = true := decide_eq_true h4
  clear h4
  refine Steps.nI_ 8 HT_.out (h := ?_)
  refine Steps.nT_ 8 HT_.out HW_.out hS0 (h := ?_)
  iterate 3 refine Steps.nI_ 8 HT_.out (h := ?_)
  refine Steps.nT_ 8 HT_.out HW_.out hS0 (h := ?_)
  iterate 5 refine Steps.nI_ 8 HT_.out (h := ?_)
  refine Steps.nT_ 8 HT_.out HW_.out hS0 (h := ?_)
  iterate 4 refine Steps.nI_ 8 HT_.out (h := ?_)
  refine Steps.nT_ 8 HT_.out HW_.out hS0 (h := ?_)
  iterate 4 refine Steps.nI_ 8 HT_.out (h := ?_)
  refine Steps.nT_ 8 HT_.out HW_.out hS0 (h := ?_)
  iterate 6 refine Steps.nI_ 8 HT_.out (h := ?_)
  refine Steps.nT_ 8 HT_.out HW_.out hS0 (h := ?_)
  refine one_ (i := 29) (N := some 37) (Steps.Pre 59 30) rfl rfl (cB HT_.out z2_) z5_ (fun K hK => ?_)
  refine goes_ Tryz.func83 z2_ rfl #[.slice (some ad) x.f1.length c2] (Steps.want_ (k := 29) rfl z2_) rfl rfl z0_ ?_
  refine (eZ.calls 2000 _ _ x.f1 _ _ (aU HR2.out hb0) HC2.out HV.out).mono ?_
  rintro e W1 ⟨rfl, hq⟩
  have bk0_1 := bE bk0_0 hq.below
  have bk1_1 := bE bk1_0 hq.below
  have hb1 := aC hb0 hq.below
  refine ⟨_, rfl, ?_⟩
  refine hK.out _ _ ⟨bk0_1, bk1_1, ((hb1.cell (World.block_lt_of_cell? w _ hw)).trans hw), trivial⟩ (fun hS1 => ?_)
  clear hK K hq hS0 bk0_0 bk1_0 hb0
  refine nrm 37 ?_
  by_cases hv : vecE x.f1 = 0
  rotate_left
  ·
   have hv_n := mk_ hv
   have hv_0 : (vecE x.f1 == 0) = false := beq_eq_false_iff_ne.mpr hv
   have hv_1 : (vecE x.f1 != 0) = true := bne_iff_ne.mpr hv
   have hv_2 : decide (vecE x.f1 = 0) = false := decide_eq_false hv
   clear hv
   iterate 3 refine Steps.nI_ 8 HT_.out (h := ?_)
   iterate 10 refine Steps.nR_ 8 HT_.out (h := ?_)
   iterate 2 refine Steps.nI_ 8 HT_.out (h := ?_)
   iterate 4 refine Steps.nR_ 8 HT_.out (h := ?_)
   iterate 2 refine Steps.nI_ 8 HT_.out (h := ?_)
   iterate 6 refine Steps.nR_ 8 HT_.out (h := ?_)
   refine Steps.nI_ 8 HT_.out (h := ?_)
   refine Steps.pI_ 58 (some 4) (Steps.Pre 59 59) (eY HT_.out z2_) (h := ?_)
   refine done_ (cC HT_.out z2_) ?_
   go_wp2
   go_ret
   rw [show res = false from HNO.out (vecE x.f1 = 0) (fun h => h.2.2.2.1) hv_n.out]
   exact ⟨rfl, hb1⟩
  have hv_y := mk_ hv
  have hv_0 : (vecE x.f1 == 0) = true := beq_iff_eq.mpr hv
  have hv_1 : (vecE x.f1 != 0) = false := bne_eq_false_iff_eq.mpr hv
  have hv_2 : decide (vecE x.f1 = 0) = true := decide_eq_true hv
  clear hv
  by_cases hq : rd x.f1 x.f0.f0 = wrap64 (x.f0.f1 - 1)
  rotate_left
  ·
   have hq_n := mk_ hq
   have hq_0 : (rd x.f1 x.f0.f0 == wrap64 (x.f0.f1 - 1)) = false := beq_eq_false_iff_ne.mpr hq
   have hq_1 : (rd x.f1 x.f0.f0 != wrap64 (x.f0.f1 - 1)) = true := bne_iff_ne.mpr hq
   have hq_2 : decide (rd x.f1 x.f0.f0 = wrap64 (x.f0.f1 - 1)) = false := decide_eq_false hq
   clear hq
   iterate 4 refine Steps.nI_ 8 HT_.out (h := ?_)
   refine Steps.nT_ 8 HT_.out HW_.out hS1 (h := ?_)
   refine Steps.nI_ 8 HT_.out (h := ?_)
   refine Steps.nT_ 8 HT_.out HW_.out hS1 (h := ?_)
   refine Steps.nI_ 8 HT_.out (h := ?_)
   refine Steps.nT_ 8 HT_.out HW_.out hS1 (h := ?_)
   refine Steps.nI_ 8 HT_.out (h := ?_)
   refine Steps.nT_ 8 HT_.out HW_.out hS1 (h := ?_)
   iterate 4 refine Steps.nI_ 8 HT_.out (h := ?_)
   iterate 4 refine Steps.nR_ 8 HT_.out (h := ?_)
   iterate 2 refine Steps.nI_ 8 HT_.out (h := ?_)
   iterate 6 refine Steps.nR_ 8 HT_.out (h := ?_)
   refine Steps.nI_ 8 HT_.out (h := ?_)
   refine Steps.pI_ 58 (some 4) (Steps.Pre 59 59) (eY HT_.out z2_) (h := ?_)
   refine done_ (cC HT_.out z2_) ?_
   go_wp2
   go_ret
   rw [show res = false from HNO.out (rd x.f1 x.f0.f0 = x.f0.f1 - 1) (fun h => h.2.2.2.2.1) (fun e => hq_n.out (by rw [w64 (by have := h3_y.out; have := h4_y.out; omega) (by have := h3_y.out; have := h4_y.out; omega)]; exact e))]
   exact ⟨rfl, hb1⟩
  have hq_y := mk_ hq
  have hq_0 : (rd x.f1 x.f0.f0 == wrap64 (x.f0.f1 - 1)) = true := beq_iff_eq.mpr hq
  have hq_1 : (rd x.f1 x.f0.f0 != wrap64 (x.f0.f1 - 1)) = false := bne_eq_false_iff_eq.mpr hq
  have hq_2 : decide (rd x.f1 x.f0.f0 = wrap64 (x.f0.f1 - 1)) = true := decide_eq_true hq
  clear hq
  iterate 4 refine Steps.nI_ 8 HT_.out (h := ?_)
  refine Steps.nT_ 8 HT_.out HW_.out hS1 (h := ?_)
  refine Steps.nI_ 8 HT_.out (h := ?_)
  refine Steps.nT_ 8 HT_.out HW_.out hS1 (h := ?_)
  refine Steps.nI_ 8 HT_.out (h := ?_)
  refine Steps.nT_ 8 HT_.out HW_.out hS1 (h := ?_)
  refine Steps.nI_ 8 HT_.out (h := ?_)
  refine Steps.nT_ 8 HT_.out HW_.out hS1 (h := ?_)
  iterate 5 refine Steps.nI_ 8 HT_.out (h := ?_)
  refine Steps.nT_ 8 HT_.out HW_.out hS1 (h := ?_)
  refine one_ (i := 47) (N := some 55) (Steps.Pre 59 48) rfl rfl (cB HT_.out z2_) z5_ (fun K hK => ?_)
  refine goes_ Tryz.func84 z2_ rfl #[.agg #[.int .i64 x.f2.f0, .int .i64 x.f2.f1, .int .i64 x.f2.f2]] (Steps.want_ (k := 47) rfl z2_) rfl rfl z0_ ?_
  refine (hZ.calls x.f2.f0 x.f2.f1 x.f2.f2 _ _ HH.out).mono ?_
  rintro e W2 ⟨rfl, hq⟩
  have bk0_2 := bE bk0_1 hq
  have bk1_2 := bE bk1_1 hq
  have hb2 := aC hb1 hq
  refine ⟨_, rfl, ?_⟩
  refine hK.out _ _ ⟨bk0_2, bk1_2, ((hb2.cell (World.block_lt_of_cell? w _ hw)).trans hw), trivial⟩ (fun hS2 => ?_)
  clear hK K hq hS1 bk0_1 bk1_1 hb1
  refine nrm 55 ?_
  by_cases hk : e7 = 0
  rotate_left
  ·
   have hk_n := mk_ hk
   have hk_0 : (e7 == 0) = false := beq_eq_false_iff_ne.mpr hk
   have hk_1 : (e7 != 0) = true := bne_iff_ne.mpr hk
   have hk_2 : decide (e7 = 0) = false := decide_eq_false hk
   clear hk
   iterate 3 refine Steps.nI_ 8 HT_.out (h := ?_)
   iterate 6 refine Steps.nR_ 8 HT_.out (h := ?_)
   refine Steps.nI_ 8 HT_.out (h := ?_)
   refine Steps.pI_ 58 (some 4) (Steps.Pre 59 59) (eY HT_.out z2_) (h := ?_)
   refine done_ (cC HT_.out z2_) ?_
   go_wp2
   go_ret
   rw [show res = false from HNO.out (stampOk x.f2) (fun h => h.2.2.2.2.2.1) (fun e => hk_n.out (E7.out.2 e))]
   exact ⟨rfl, hb2⟩
  have hk_y := mk_ hk
  have hk_0 : (e7 == 0) = true := beq_iff_eq.mpr hk
  have hk_1 : (e7 != 0) = false := bne_eq_false_iff_eq.mpr hk
  have hk_2 : decide (e7 = 0) = true := decide_eq_true hk
  clear hk
  by_cases hp : x.f2.f2 = x.f0.f0
  rotate_left
  ·
   have hp_n := mk_ hp
   have hp_0 : (x.f2.f2 == x.f0.f0) = false := beq_eq_false_iff_ne.mpr hp
   have hp_1 : (x.f2.f2 != x.f0.f0) = true := bne_iff_ne.mpr hp
   have hp_2 : decide (x.f2.f2 = x.f0.f0) = false := decide_eq_false hp
   clear hp
   iterate 5 refine Steps.nI_ 8 HT_.out (h := ?_)
   refine Steps.nT_ 8 HT_.out HW_.out hS2 (h := ?_)
   refine Steps.nI_ 8 HT_.out (h := ?_)
   refine Steps.nT_ 8 HT_.out HW_.out hS2 (h := ?_)
   iterate 2 refine Steps.nI_ 8 HT_.out (h := ?_)
   refine Steps.pI_ 58 (some 4) (Steps.Pre 59 59) (eY HT_.out z2_) (h := ?_)
   refine done_ (cC HT_.out z2_) ?_
   go_wp2
   go_ret
   rw [show res = false from HNO.out (x.f2.f2 = x.f0.f0) (fun h => h.2.2.2.2.2.2) hp_n.out]
   exact ⟨rfl, hb2⟩
  have hp_y := mk_ hp
  have hp_0 : (x.f2.f2 == x.f0.f0) = true := beq_iff_eq.mpr hp
  have hp_1 : (x.f2.f2 != x.f0.f0) = false := bne_eq_false_iff_eq.mpr hp
  have hp_2 : decide (x.f2.f2 = x.f0.f0) = true := decide_eq_true hp
  clear hp
  iterate 5 refine Steps.nI_ 8 HT_.out (h := ?_)
  refine Steps.nT_ 8 HT_.out HW_.out hS2 (h := ?_)
  refine Steps.nI_ 8 HT_.out (h := ?_)
  refine Steps.nT_ 8 HT_.out HW_.out hS2 (h := ?_)
  iterate 2 refine Steps.nI_ 8 HT_.out (h := ?_)
  refine Steps.pI_ 58 (some 4) (Steps.Pre 59 59) (eY HT_.out z2_) (h := ?_)
  refine done_ (cC HT_.out z2_) ?_
  go_wp2
  go_ret
  rw [show res = true from (by have hq2 : rd x.f1 x.f0.f0 = x.f0.f1 - 1 := (by rw [hq_y.out, w64 (by have := h3_y.out; have := h4_y.out; omega) (by have := h3_y.out; have := h4_y.out; omega)]); rw [HRS.out]; exact decide_eq_true ⟨⟨h1_y.out, h2_y.out⟩, ⟨h3_y.out, h4_y.out⟩, HL.out, hv_y.out, hq2, E7.out.1 hk_y.out, hp_y.out⟩)]
  exact ⟨rfl, hb2⟩
end Go.Proofs.YtjnjfogfpmeacaaGreat.Ops
end
section
namespace Go.Proofs.YtjnjfogfpmeacaaGreat.Ops
open Go.RowKit PAll Ops Plain PrintWords PrintLast PrintMore Go.Proofs.YtjnjfogfpmeacaaGreat.Sep ZipT PrintWords.Kd PrintMore.Kd
set_option linter.unusedVariables false
set_option linter.unusedSimpArgs false
def rtT : Bool × List (List Nat × List Nat) := (true, [([], []), ([0], [0]), ([1], [1]), ([2], [2]), ([3], [3]), ([4, 3], [3, 4]), ([3], [3]), ([6, 3], [3, 6]), ([5, 7, 3], [3, 5, 7]), ([3, 8], [3, 8]), ([9, 3], [9]), ([10], [10]), ([11, 10], [10, 11]), ([10], [10]), ([10], [10]), ([14, 10], [10, 14]), ([10], [10]), ([16, 10], [10, 16]), ([17, 10], [10, 17]), ([13, 15, 18, 10], [10, 13, 15, 18]), ([12, 19, 10, 10], [10, 12, 19]), ([10, 20], [10, 20]), ([21, 20], [21]), ([22], [22]), ([23, 22], [22, 23]), ([24, 22], [22, 24]), ([25, 22], [22, 25]), ([22, 26], [22, 26]), ([27, 22, 0, 1, 2, 3, 4, 5, 6, 7, 8, 9, 10, 11, 12, 13, 14, 15, 16, 17, 18, 19, 20, 21, 22, 23, 24, 25, 26, 27], [27])])
def rtB : List Nat := [0, 1, 3, 7, 15, 31, 15, 79, 255, 511, 1023, 2047, 4095, 2047, 2047, 18431, 2047, 67583, 198655, 518143, 1048575, 2097151, 4194303, 8388607, 16777215, 33554431, 67108863, 134217727, 268435455]
theorem rttab : rtab .any (opsOf Tryz.f32 8) = rtT := by kernel_rfl
theorem rtbits : waitsOk rtT.2 rtB = true := by kernel_rfl
def rtOk (n : Int) (f : List Tb) (x : Ox) : Bool := decide (wholeP n x) && decide (0 ≤ x.f4 ∧ x.f4 < f.length) && keyB x.f5
theorem rtOk_not {n : Int} {f : List Tb} {x : Ox} (h : ¬ (wholeP n x ∧ (0 ≤ x.f4 ∧ x.f4 < f.length) ∧ keyB x.f5 = true)) : rtOk n f x = false := by
 cases hb : rtOk n f x
 ·
  rfl
 ·
  unfold rtOk at hb
  rw [Bool.and_eq_true, Bool.and_eq_true, decide_eq_true_eq, decide_eq_true_eq] at hb
  exact absurd ⟨hb.1.1, hb.1.2, hb.2⟩ h
theorem rtOk_yes {n : Int} {f : List Tb} {x : Ox} (h : rtOk n f x = true) : wholeP n x ∧ (0 ≤ x.f4 ∧ x.f4 < f.length) ∧ keyB x.f5 = true := by
 unfold rtOk at h
 rw [Bool.and_eq_true, Bool.and_eq_true, decide_eq_true_eq, decide_eq_true_eq] at h
 exact ⟨h.1.1, h.1.2, h.2⟩
set_option maxHeartbeats 40000000 in
theorem right_calls (n : Int) (f : List Tb) (x : Ox) (A1 : Option Addr) (c1 : Nat) (A2 : Option Addr) (c2 : Nat) (A10 : Option Addr) (c10 : Nat) (A11 : Option Addr) (c11 : Nat) (w : World) (hr1 : Kd.C k53 w A1 f.length f) (hc1 : f.length ≤ c1) (hr2 : Kd.C (Kd.int .i64) w A2 x.f1.length x.f1) (hc2 : x.f1.length ≤ c2) (hr10 : Kd.C k102 w A10 x.f7.length x.f7) (hc10 : x.f7.length ≤ c10) (hr11 : Kd.C k24 w A11 x.f8.length x.f8) (hc11 : x.f8.length ≤ c11)
  (hx : x.f1.length ≤ 1000 ∧ x.f7.length ≤ 1000 ∧ x.f8.length ≤ 1000) (hf : f.length ≤ 1000 ∧ ∀ t ∈ f, t.f0.length ≤ 1000) :
  Calls Tryz.prog 32 #[.int .i64 n, .slice A1 f.length c1, .agg #[.int .i64 x.f0.f0, .int .i64 x.f0.f1, .slice A2 x.f1.length c2, .int .i64 x.f2.f0, .int .i64 x.f2.f1, .int .i64 x.f2.f2, .int .i64 x.f3, .int .i64 x.f4, .string x.f5, .int .i64 x.f6, .slice A10 x.f7.length c10, .slice A11 x.f8.length c11]] w fun e w' => e = .returned (.bool (rightB n f x)) ∧ Below w.heap.size w w' := by
 have hu1 := Tryz.underlying31
 have hu2 := Tryz.underlying102
 have hu3 := Tryz.underlying24
 obtain ⟨res, hres⟩ : ∃ r, rightB n f x = r := ⟨_, rfl⟩
 rw [hres]
 have HR0 := mk_ (show res = (rtOk n f x && kindB (colsOf f x) x) from by rw [← hres]; rfl)
 clear hres
 obtain ⟨b1, e1⟩ : ∃ b, decide (wholeP n x) = b := ⟨_, rfl⟩
 obtain ⟨b9, e9⟩ : ∃ b, keyB x.f5 = b := ⟨_, rfl⟩
 have hwh : ∀ V, Below w.heap.size w V → Calls Tryz.prog 59 #[.int .i64 n, .agg #[.int .i64 x.f0.f0, .int .i64 x.f0.f1, .slice A2 x.f1.length c2, .int .i64 x.f2.f0, .int .i64 x.f2.f1, .int .i64 x.f2.f2, .int .i64 x.f3, .int .i64 x.f4, .string x.f5, .int .i64 x.f6, .slice A10 x.f7.length c10, .slice A11 x.f8.length c11]] V fun e w' => e = .returned (.bool b1) ∧ Below V.heap.size V w' := fun V h => by
  have := whole_calls n x A2 c2 A10 c10 A11 c11 V (aU hr2 h) hc2 hx.1
  rwa [e1] at this
 have HWH := mk_ hwh
 have HK := mk_ (show gP.f x.f5 = some b9 by rw [key_eq, e9])
 have E1 : Aside0 (b1 = true ↔ wholeP n x) := ⟨by rw [← e1, decide_eq_true_eq]⟩
 have E9 := mk_ e9
 have HR1 := mk_ hr1
 have HR2 := mk_ hr2
 have HC2 := mk_ hc2
 have HR10 := mk_ hr10
 have HC10 := mk_ hc10
 have HR11 := mk_ hr11
 have HC11 := mk_ hc11
 have HN := mk_ (And.intro hx hf)
 clear e1 e9 hwh hr1 hc1 hr2 hc2 hr10 hc10 hr11 hc11 hx hf
 have HB := mk_ (Below.refl w.heap.size w)
 go_enter Tryz.func32, Tryz.ntmps32
 go_upto_region 1 with (first | ((with_reducible refine aQ (N := 5) rfl ?_); (try (refine dC (by rfl) ?_; dsimp only)); refine aN ?hg (N := 5) ?hd (cs := #[.int .i64 x.f0.f0, .int .i64 x.f0.f1, .slice A2 x.f1.length c2, .int .i64 x.f2.f0, .int .i64 x.f2.f1, .int .i64 x.f2.f2, .int .i64 x.f3, .int .i64 x.f4, .string x.f5, .int .i64 x.f6, .slice A10 x.f7.length c10, .slice A11 x.f8.length c11]) (t := 31) ?hr ?_; (case hd => rfl); (case hg => rfl); (case hr => first | (go_simp; done) | (go_simp; rfl)); intro gb hg w5 hbox hb; have n0_ := mk_ (aC HB.out hb); have n1_ := mk_ (hbox); clear HB; revert n0_ n1_; intro HB BK; clear hb hbox hg))
 (try simp only [Act.put, List.setIfInBounds_toArray, List.set_cons_zero, List.set_cons_succ])
 go_cut [29] (fun v29 wc => ∃ b : Bool, v29 = .bool b ∧ Aside0 (b = !rtOk n f x) ∧ Aside0 (wc.heap[gb]? = some (.cells #[.int .i64 x.f0.f0, .int .i64 x.f0.f1, .slice A2 x.f1.length c2, .int .i64 x.f2.f0, .int .i64 x.f2.f1, .int .i64 x.f2.f2, .int .i64 x.f3, .int .i64 x.f4, .string x.f5, .int .i64 x.f6, .slice A10 x.f7.length c10, .slice A11 x.f8.length c11] 31 (0, 0))) ∧ Aside0 (Below w.heap.size w wc))
 case first =>
  have kb := aD BK.out
  cases b1
  ·
   go_wp2_with (first | ((with_reducible refine aE (f := 59) rfl ?_); refine Go.Proofs.YtjnjfogfpmeacaaGreat.Short.gL (some 10) Tryz.func59 #[.int .i64 n, .agg #[.int .i64 x.f0.f0, .int .i64 x.f0.f1, .slice A2 x.f1.length c2, .int .i64 x.f2.f0, .int .i64 x.f2.f1, .int .i64 x.f2.f2, .int .i64 x.f3, .int .i64 x.f4, .string x.f5, .int .i64 x.f6, .slice A10 x.f7.length c10, .slice A11 x.f8.length c11]] (h := ?_); refine (HWH.out _ HB.out).mono ?_; rintro e V0 ⟨rfl, hq⟩; refine ⟨_, rfl, ?_⟩; have n0_ := mk_ (bE BK.out hq); have n1_ := mk_ (aC HB.out hq); clear BK HB hq; revert n0_ n1_; intro BK HB; have kb := aD BK.out) | (go_at_call 11; refine (gP.calls x.f5 b9 _ HK.out).mono ?_; rintro e V0 ⟨rfl, hq⟩; have n0_ := mk_ (bE BK.out hq.below); have n1_ := mk_ (aC HB.out hq.below); clear BK HB hq; revert n0_ n1_; intro BK HB; have kb := aD BK.out))
   go_meet
   case rel => exact ⟨true, rfl, ⟨by rw [rtOk_not (fun h => absurd (E1.out.2 h.1) z5_)]; rfl⟩, ⟨BK.out⟩, ⟨HB.out⟩⟩
  by_cases h1 : x.f4 < 0
  ·
   have H1 := mk_ h1
   have h1_0 : decide (x.f4 < 0) = true := decide_eq_true h1
   clear h1
   go_wp2_with (first | ((with_reducible refine aE (f := 59) rfl ?_); refine Go.Proofs.YtjnjfogfpmeacaaGreat.Short.gL (some 10) Tryz.func59 #[.int .i64 n, .agg #[.int .i64 x.f0.f0, .int .i64 x.f0.f1, .slice A2 x.f1.length c2, .int .i64 x.f2.f0, .int .i64 x.f2.f1, .int .i64 x.f2.f2, .int .i64 x.f3, .int .i64 x.f4, .string x.f5, .int .i64 x.f6, .slice A10 x.f7.length c10, .slice A11 x.f8.length c11]] (h := ?_); refine (HWH.out _ HB.out).mono ?_; rintro e V0 ⟨rfl, hq⟩; refine ⟨_, rfl, ?_⟩; have n0_ := mk_ (bE BK.out hq); have n1_ := mk_ (aC HB.out hq); clear BK HB hq; revert n0_ n1_; intro BK HB; have kb := aD BK.out) | (go_at_call 11; refine (gP.calls x.f5 b9 _ HK.out).mono ?_; rintro e V0 ⟨rfl, hq⟩; have n0_ := mk_ (bE BK.out hq.below); have n1_ := mk_ (aC HB.out hq.below); clear BK HB hq; revert n0_ n1_; intro BK HB; have kb := aD BK.out))
   go_meet
   case rel => exact ⟨true, rfl, ⟨by rw [rtOk_not (fun h => by have := H1.out; have := h.2.1.1; omega)]; rfl⟩, ⟨BK.out⟩, ⟨HB.out⟩⟩
  have H1 := mk_ h1
  have h1_0 : decide (x.f4 < 0) = false := decide_eq_false h1
  clear h1
  by_cases h2 : (f.length : Int) ≤ x.f4
  ·
   have H2 := mk_ h2
   have h2_0 : decide ((f.length : Int) ≤ x.f4) = true := decide_eq_true h2
   clear h2
   go_wp2_with (first | ((with_reducible refine aE (f := 59) rfl ?_); refine Go.Proofs.YtjnjfogfpmeacaaGreat.Short.gL (some 10) Tryz.func59 #[.int .i64 n, .agg #[.int .i64 x.f0.f0, .int .i64 x.f0.f1, .slice A2 x.f1.length c2, .int .i64 x.f2.f0, .int .i64 x.f2.f1, .int .i64 x.f2.f2, .int .i64 x.f3, .int .i64 x.f4, .string x.f5, .int .i64 x.f6, .slice A10 x.f7.length c10, .slice A11 x.f8.length c11]] (h := ?_); refine (HWH.out _ HB.out).mono ?_; rintro e V0 ⟨rfl, hq⟩; refine ⟨_, rfl, ?_⟩; have n0_ := mk_ (bE BK.out hq); have n1_ := mk_ (aC HB.out hq); clear BK HB hq; revert n0_ n1_; intro BK HB; have kb := aD BK.out) | (go_at_call 11; refine (gP.calls x.f5 b9 _ HK.out).mono ?_; rintro e V0 ⟨rfl, hq⟩; have n0_ := mk_ (bE BK.out hq.below); have n1_ := mk_ (aC HB.out hq.below); clear BK HB hq; revert n0_ n1_; intro BK HB; have kb := aD BK.out))
   go_meet
   case rel => exact ⟨true, rfl, ⟨by rw [rtOk_not (fun h => by have := H2.out; have := h.2.1.2; omega)]; rfl⟩, ⟨BK.out⟩, ⟨HB.out⟩⟩
  have H2 := mk_ h2
  have h2_0 : decide ((f.length : Int) ≤ x.f4) = false := decide_eq_false h2
  clear h2
  go_wp2_with (first | ((with_reducible refine aE (f := 59) rfl ?_); refine Go.Proofs.YtjnjfogfpmeacaaGreat.Short.gL (some 10) Tryz.func59 #[.int .i64 n, .agg #[.int .i64 x.f0.f0, .int .i64 x.f0.f1, .slice A2 x.f1.length c2, .int .i64 x.f2.f0, .int .i64 x.f2.f1, .int .i64 x.f2.f2, .int .i64 x.f3, .int .i64 x.f4, .string x.f5, .int .i64 x.f6, .slice A10 x.f7.length c10, .slice A11 x.f8.length c11]] (h := ?_); refine (HWH.out _ HB.out).mono ?_; rintro e V0 ⟨rfl, hq⟩; refine ⟨_, rfl, ?_⟩; have n0_ := mk_ (bE BK.out hq); have n1_ := mk_ (aC HB.out hq); clear BK HB hq; revert n0_ n1_; intro BK HB; have kb := aD BK.out) | (go_at_call 11; refine (gP.calls x.f5 b9 _ HK.out).mono ?_; rintro e V0 ⟨rfl, hq⟩; have n0_ := mk_ (bE BK.out hq.below); have n1_ := mk_ (aC HB.out hq.below); clear BK HB hq; revert n0_ n1_; intro BK HB; have kb := aD BK.out))
  go_meet
  case rel => exact ⟨!b9, by first | rfl | (simp; done), ⟨by unfold rtOk; rw [decide_eq_true (E1.out.1 z6_), decide_eq_true (show 0 ≤ x.f4 ∧ x.f4 < (f.length : Int) from ⟨by have := H1.out; omega, by have := H2.out; omega⟩), E9.out]; rfl⟩, ⟨BK.out⟩, ⟨HB.out⟩⟩
 case rest => as_aux_lemma =>
 obtain ⟨b, rfl, HA, BK, HB⟩ := hcut
 cases b with
 | true =>
  have ht : rtOk n f x = false := by
   have := HA.out
   cases h : rtOk n f x
   ·
    rfl
   ·
    rw [h] at this; cases this
  go_wp2
  go_ret
  rw [show res = false from by rw [HR0.out, ht]; rfl]
  exact ⟨rfl, HB.out⟩
 | false =>
  have ht : rtOk n f x = true := by
   have := HA.out
   cases h : rtOk n f x
   ·
    rw [h] at this; cases this
   ·
    rfl
  obtain ⟨hwh, ⟨p0, q0⟩, hky⟩ := rtOk_yes ht
  have hrk : res = kindB (colsOf f x) x := by rw [HR0.out, ht]; rfl
  clear HR0
  obtain ⟨ad0, A0, c0, he_, hx0, hl0, hi0⟩ := fQ HR1.out x.f4 p0 q0
  have hc : (colsOf f x).length ≤ 1000 := by
   obtain ⟨i, hi⟩ := Int.eq_ofNat_of_zero_le p0
   unfold colsOf
   rw [hi]
   show (f.getD ((i : Int).toNat) _).f0.length ≤ _
   rw [Int.toNat_natCast, List.getD_eq_getElem?_getD, List.getElem?_eq_getElem (show i < f.length by omega)]
   exact HN.out.2.2 _ (List.getElem_mem _)
  replace hx0 : w.cell? (ad0.add (x.f4).toNat) = some (.slice A0 (colsOf f x).length c0) := hx0
  replace hl0 : (colsOf f x).length ≤ c0 := hl0
  replace hi0 : (Kd.int .i64).C w A0 (colsOf f x).length (colsOf f x) := hi0
  replace hx0 := up_ HB hx0
  generalize colsOf f x = c at hc hx0 hl0 hi0 hrk
  have HRK := mk_ hrk
  clear hrk
  subst he_
  have HRC := mk_ hi0
  have HCC := mk_ hl0
  have HLC := mk_ hc
  have p1 := eq_true p0
  have q1 := eq_true q0
  have p2 : decide (0 ≤ x.f4) = true := decide_eq_true p0
  have q2 : decide (x.f4 < (f.length : Int)) = true := decide_eq_true q0
  clear hi0 hl0 hc p0 q0 hwh hky ht HA
  have kb := aD BK.out
  by_cases k1 : x.f3 = 1
  ·
   as_aux_lemma =>
    have HRS := mk_ (show res = (smallB x.f7 c && decide (x.f6 = 0) && decide (x.f8.length = 0)) by rw [HRK.out]; unfold kindB; rw [if_pos k1])
    clear HRK
    have k1_0 : (x.f3 == 1) = true := beq_iff_eq.mpr k1
    have k1_1 : (x.f3 != 1) = false := bne_eq_false_iff_eq.mpr k1
    have k1_2 : decide (x.f3 = 1) = true := decide_eq_true k1
    clear k1
    obtain ⟨b5, e5⟩ : ∃ b, smallB x.f7 c = b := ⟨_, rfl⟩
    have HSM := mk_ (show ∀ V, Below w.heap.size w V → Calls Tryz.prog 60 #[.slice A10 x.f7.length c10, .slice A0 c.length c0] V fun e w' => e = .returned (.bool b5) ∧ Below V.heap.size V w' from fun V h => iC.calls 2000 A10 c10 x.f7 A0 c0 c b5 V (aU HR10.out h) HC10.out (aU HRC.out h) HCC.out (by rw [smallL_eq _ _ _ (by have := HN.out.1.2.1; omega) (by have := HN.out.1.2.1; omega), e5]))
    rw [e5] at HRS
    clear e5
    cases b5
    ·
     go_wp2_with (((with_reducible refine aE (f := 60) rfl ?_); refine Go.Proofs.YtjnjfogfpmeacaaGreat.Short.gL (some 43) Tryz.func60 #[.slice A10 x.f7.length c10, .slice A0 c.length c0] (h := ?_); refine (HSM.out _ HB.out).mono ?_; rintro e V0 ⟨rfl, hq⟩; refine ⟨_, rfl, ?_⟩; have n0_ := mk_ (bE BK.out hq); have n1_ := mk_ (aC HB.out hq); clear BK HB hq; revert n0_ n1_; intro BK HB; have kb := aD BK.out))
     go_ret
     rw [show res = false from by rw [HRS.out]; rfl]
     exact ⟨rfl, HB.out⟩
    by_cases h2 : x.f6 = 0
    rotate_left
    ·
     have h2_n := mk_ h2
     have h2_0 : (x.f6 == 0) = false := beq_eq_false_iff_ne.mpr h2
     have h2_1 : (x.f6 != 0) = true := bne_iff_ne.mpr h2
     have h2_2 : decide (x.f6 = 0) = false := decide_eq_false h2
     clear h2
     go_wp2_with (((with_reducible refine aE (f := 60) rfl ?_); refine Go.Proofs.YtjnjfogfpmeacaaGreat.Short.gL (some 43) Tryz.func60 #[.slice A10 x.f7.length c10, .slice A0 c.length c0] (h := ?_); refine (HSM.out _ HB.out).mono ?_; rintro e V0 ⟨rfl, hq⟩; refine ⟨_, rfl, ?_⟩; have n0_ := mk_ (bE BK.out hq); have n1_ := mk_ (aC HB.out hq); clear BK HB hq; revert n0_ n1_; intro BK HB; have kb := aD BK.out))
     go_ret
     rw [show res = false from by rw [HRS.out, decide_eq_false h2_n.out, Bool.and_false]; rfl]
     exact ⟨rfl, HB.out⟩
    have h2_y := mk_ h2
    have h2_0 : (x.f6 == 0) = true := beq_iff_eq.mpr h2
    have h2_1 : (x.f6 != 0) = false := bne_eq_false_iff_eq.mpr h2
    have h2_2 : decide (x.f6 = 0) = true := decide_eq_true h2
    clear h2
    by_cases h3 : (x.f8.length : Int) = 0
    rotate_left
    ·
     have h3_n := mk_ h3
     have h3_0 : ((x.f8.length : Int) == 0) = false := beq_eq_false_iff_ne.mpr h3
     have h3_1 : ((x.f8.length : Int) != 0) = true := bne_iff_ne.mpr h3
     have h3_2 : decide ((x.f8.length : Int) = 0) = false := decide_eq_false h3
     clear h3
     go_wp2_with (((with_reducible refine aE (f := 60) rfl ?_); refine Go.Proofs.YtjnjfogfpmeacaaGreat.Short.gL (some 43) Tryz.func60 #[.slice A10 x.f7.length c10, .slice A0 c.length c0] (h := ?_); refine (HSM.out _ HB.out).mono ?_; rintro e V0 ⟨rfl, hq⟩; refine ⟨_, rfl, ?_⟩; have n0_ := mk_ (bE BK.out hq); have n1_ := mk_ (aC HB.out hq); clear BK HB hq; revert n0_ n1_; intro BK HB; have kb := aD BK.out))
     go_ret
     rw [show res = false from by rw [HRS.out, decide_eq_false (show ¬ x.f8.length = 0 by have := h3_n.out; omega), Bool.and_false]]
     exact ⟨rfl, HB.out⟩
    have h3_y := mk_ h3
    have h3_0 : ((x.f8.length : Int) == 0) = true := beq_iff_eq.mpr h3
    have h3_1 : ((x.f8.length : Int) != 0) = false := bne_eq_false_iff_eq.mpr h3
    have h3_2 : decide ((x.f8.length : Int) = 0) = true := decide_eq_true h3
    clear h3
    go_wp2_with (((with_reducible refine aE (f := 60) rfl ?_); refine Go.Proofs.YtjnjfogfpmeacaaGreat.Short.gL (some 43) Tryz.func60 #[.slice A10 x.f7.length c10, .slice A0 c.length c0] (h := ?_); refine (HSM.out _ HB.out).mono ?_; rintro e V0 ⟨rfl, hq⟩; refine ⟨_, rfl, ?_⟩; have n0_ := mk_ (bE BK.out hq); have n1_ := mk_ (aC HB.out hq); clear BK HB hq; revert n0_ n1_; intro BK HB; have kb := aD BK.out))
    go_ret
    rw [show res = true from by rw [HRS.out, decide_eq_true h2_y.out, decide_eq_true (show x.f8.length = 0 by have := h3_y.out; omega)]; rfl]
    exact ⟨rfl, HB.out⟩
  have HK1 := mk_ k1
  have k1_0 : (x.f3 == 1) = false := beq_eq_false_iff_ne.mpr k1
  have k1_1 : (x.f3 != 1) = true := bne_iff_ne.mpr k1
  have k1_2 : decide (x.f3 = 1) = false := decide_eq_false k1
  clear k1
  by_cases k2 : x.f3 = 2
  ·
   as_aux_lemma =>
    have HRS := mk_ (show res = (decide (0 ≤ x.f6 ∧ x.f6 < c.length) && smallB x.f7 [rd c x.f6] && decide (x.f8.length = 0)) by rw [HRK.out]; unfold kindB; rw [if_neg HK1.out, if_pos k2])
    clear HRK
    have k2_0 : (x.f3 == 2) = true := beq_iff_eq.mpr k2
    have k2_1 : (x.f3 != 2) = false := bne_eq_false_iff_eq.mpr k2
    have k2_2 : decide (x.f3 = 2) = true := decide_eq_true k2
    clear k2
    try go_wp2
    refine Steps.start_n (n := 29) (S := fun w' => w'.heap[gb]? = some (.cells #[.int .i64 x.f0.f0, .int .i64 x.f0.f1, .slice A2 x.f1.length c2, .int .i64 x.f2.f0, .int .i64 x.f2.f1, .int .i64 x.f2.f2, .int .i64 x.f3, .int .i64 x.f4, .string x.f5, .int .i64 x.f6, .slice A10 x.f7.length c10, .slice A11 x.f8.length c11] 31 (0, 0)) ∧ True) (ds := []) (fun W => W.heap[gb]? = some (.cells #[.int .i64 x.f0.f0, .int .i64 x.f0.f1, .slice A2 x.f1.length c2, .int .i64 x.f2.f0, .int .i64 x.f2.f1, .int .i64 x.f2.f2, .int .i64 x.f3, .int .i64 x.f4, .string x.f5, .int .i64 x.f6, .slice A10 x.f7.length c10, .slice A11 x.f8.length c11] 31 (0, 0)) ∧ Below w.heap.size w W) z2_ rfl z2_ ⟨aI BK.out, HB.out.drew⟩ (fun W hJ => ?_) (fun W0 hJ hS0 => ?_)
    ·
     obtain ⟨bk0_0, hb0⟩ := hJ
     exact ⟨bk0_0, trivial⟩
    obtain ⟨bk0_0, hb0⟩ := hJ
    refine cZ rttab rtbits (fun HT_ HW_ => ?_)
    by_cases h1 : 0 ≤ x.f6
    rotate_left
    ·
     have h1_n := mk_ h1
     have h1_0 : decide (0 ≤ x.f6) = false := decide_eq_false h1
     clear h1
     refine Steps.nI_ 57 HT_.out (h := ?_)
     refine Steps.nT_ 57 HT_.out HW_.out hS0 (h := ?_)
     iterate 2 refine Steps.nI_ 57 HT_.out (h := ?_)
     iterate 5 refine Steps.nR_ 57 HT_.out (h := ?_)
     iterate 2 refine Steps.nI_ 57 HT_.out (h := ?_)
     iterate 10 refine Steps.nR_ 57 HT_.out (h := ?_)
     iterate 2 refine Steps.nI_ 57 HT_.out (h := ?_)
     iterate 4 refine Steps.nR_ 57 HT_.out (h := ?_)
     refine Steps.nI_ 57 HT_.out (h := ?_)
     refine Steps.pI_ 28 (some 6) (Steps.Pre 29 29) (eY HT_.out z2_) (h := ?_)
     refine done_ (cC HT_.out z2_) ?_
     go_wp2
     go_ret
     rw [show res = false from by rw [HRS.out, decide_eq_false (fun h => by have := h1_n.out; omega)]; rfl]
     exact ⟨rfl, hb0⟩
    have h1_y := mk_ h1
    have h1_0 : decide (0 ≤ x.f6) = true := decide_eq_true h1
    clear h1
    by_cases h2 : x.f6 < (c.length : Int)
    rotate_left
    ·
     have h2_n := mk_ h2
     have h2_0 : decide (x.f6 < (c.length : Int)) = false := decide_eq_false h2
     clear h2
     refine Steps.nI_ 57 HT_.out (h := ?_)
     refine Steps.nT_ 57 HT_.out HW_.out hS0 (h := ?_)
     iterate 3 refine Steps.nI_ 57 HT_.out (h := ?_)
     refine Steps.nT_ 57 HT_.out HW_.out hS0 (h := ?_)
     iterate 5 refine Steps.nI_ 57 HT_.out (h := ?_)
     iterate 10 refine Steps.nR_ 57 HT_.out (h := ?_)
     iterate 2 refine Steps.nI_ 57 HT_.out (h := ?_)
     iterate 4 refine Steps.nR_ 57 HT_.out (h := ?_)
     refine Steps.nI_ 57 HT_.out (h := ?_)
     refine Steps.pI_ 28 (some 6) (Steps.Pre 29 29) (eY HT_.out z2_) (h := ?_)
     refine done_ (cC HT_.out z2_) ?_
     go_wp2
     go_ret
     rw [show res = false from by rw [HRS.out, decide_eq_false (fun h => by have := h2_n.out; omega)]; rfl]
     exact ⟨rfl, hb0⟩
    have h2_y := mk_ h2
    have h2_0 : decide (x.f6 < (c.length : Int)) = true := decide_eq_true h2
    clear h2
    have hw2 : wrap64 (x.f6 + 1) = x.f6 + 1 := w64 (by have := h1_y.out; omega) (by have := h2_y.out; have := HLC.out; omega)
    obtain ⟨i0, hi0, _, hsz, _⟩ := info_parts info3
    obtain ⟨A47, hcut, hA47, hC47⟩ := hU (P := Tryz.prog) (Value.int .i64) 0 25 3 .i64 .i64 Tryz.underlying25 hi0 hsz A0 c0 c x.f6 (wrap64 (x.f6 + 1)) h1_y.out (by rw [hw2]; omega) (by rw [hw2]; have := h2_y.out; omega) HCC.out
    have hlen : ((c.take (wrap64 (x.f6 + 1)).toNat).drop x.f6.toNat).length = ((wrap64 (x.f6 + 1)).toNat - x.f6.toNat) := by rw [List.length_drop, List.length_take, hw2]; have := h1_y.out; have := h2_y.out; omega
    obtain ⟨b5, e5⟩ : ∃ b, smallB x.f7 [rd c x.f6] = b := ⟨_, rfl⟩
    have hq5 : iC.f 2000 x.f7 ((c.take (wrap64 (x.f6 + 1)).toNat).drop x.f6.toNat) = some b5 := by rw [hw2, cut1 c _ h1_y.out h2_y.out, smallL_eq _ _ _ (by have := HN.out.1.2.1; omega) (by have := HN.out.1.2.1; omega), e5]
    have HSM := mk_ (show ∀ V, Below w.heap.size w V → Calls Tryz.prog 60 #[.slice A10 x.f7.length c10, .slice A47 ((wrap64 (x.f6 + 1)).toNat - x.f6.toNat) (c0 - x.f6.toNat)] V fun e w' => e = .returned (.bool b5) ∧ Below V.heap.size V w' from fun V h => (by have := iC.calls 2000 A10 c10 x.f7 A47 (c0 - x.f6.toNat) _ b5 V (aU HR10.out h) HC10.out (aU (iP (h1 := fun _ => rfl) (hA47 _ (Kd.reads_of_C HRC.out))) h) hC47 hq5; rwa [hlen] at this))
    rw [e5] at HRS
    clear e5 hq5 hA47 hC47 hlen hi0 hsz
    have g1 : (0 ≤ x.f6) = True := eq_true h1_y.out
    have g2 : (x.f6 < (c.length : Int)) = True := eq_true h2_y.out
    have g3 : (x.f6 ≤ wrap64 (x.f6 + 1)) = True := eq_true (by rw [hw2]; omega)
    have g4 : decide (x.f6 ≤ wrap64 (x.f6 + 1)) = true := decide_eq_true (by rw [hw2]; omega)
    have g5 : (wrap64 (x.f6 + 1) ≤ (c.length : Int)) = True := eq_true (by rw [hw2]; have := h2_y.out; omega)
    have g6 : decide (wrap64 (x.f6 + 1) ≤ (c.length : Int)) = true := decide_eq_true (by rw [hw2]; have := h2_y.out; omega)
    clear hw2
    refine Steps.nI_ 57 HT_.out (h := ?_)
    refine Steps.nT_ 57 HT_.out HW_.out hS0 (h := ?_)
    iterate 3 refine Steps.nI_ 57 HT_.out (h := ?_)
    refine Steps.nT_ 57 HT_.out HW_.out hS0 (h := ?_)
    iterate 6 refine Steps.nI_ 57 HT_.out (h := ?_)
    refine Steps.nT_ 57 HT_.out HW_.out hS0 (h := ?_)
    iterate 2 refine Steps.nI_ 57 HT_.out (h := ?_)
    refine Steps.nT_ 57 HT_.out HW_.out hS0 (h := ?_)
    refine Steps.nI_ 57 HT_.out (h := ?_)
    refine Steps.nT_ 57 HT_.out HW_.out hS0 (h := ?_)
    iterate 2 refine Steps.nI_ 57 HT_.out (h := ?_)
    refine one_ (i := 20) (N := some 77) (Steps.Pre 29 21) rfl rfl (cB HT_.out z2_) z5_ (fun K hK => ?_)
    refine goes_ Tryz.func60 z2_ rfl #[.slice A10 x.f7.length c10, .slice A47 ((wrap64 (x.f6 + 1)).toNat - x.f6.toNat) (c0 - x.f6.toNat)] (Steps.want_ (k := 20) rfl z2_) rfl rfl z0_ ?_
    refine (HSM.out _ hb0).mono ?_
    rintro e W1 ⟨rfl, hq⟩
    have bk0_1 := bE bk0_0 hq
    have hb1 := aC hb0 hq
    refine ⟨_, rfl, ?_⟩
    refine hK.out _ _ ⟨bk0_1, trivial⟩ (fun hS1 => ?_)
    clear hK K hq hS0 bk0_0 hb0
    refine nrm 77 ?_
    iterate 2 refine Steps.nI_ 57 HT_.out (h := ?_)
    cases b5
    ·
     iterate 4 refine Steps.nR_ 57 HT_.out (h := ?_)
     refine Steps.nI_ 57 HT_.out (h := ?_)
     refine Steps.pI_ 28 (some 6) (Steps.Pre 29 29) (eY HT_.out z2_) (h := ?_)
     refine done_ (cC HT_.out z2_) ?_
     go_wp2
     go_ret
     rw [show res = false from by rw [HRS.out, Bool.and_false]; rfl]
     exact ⟨rfl, hb1⟩
    by_cases h3 : (x.f8.length : Int) = 0
    rotate_left
    ·
     have HL := mk_ h3
     have h3_0 : ((x.f8.length : Int) == 0) = false := beq_eq_false_iff_ne.mpr h3
     have h3_1 : ((x.f8.length : Int) != 0) = true := bne_iff_ne.mpr h3
     have h3_2 : decide ((x.f8.length : Int) = 0) = false := decide_eq_false h3
     clear h3
     refine Steps.nI_ 57 HT_.out (h := ?_)
     refine Steps.nT_ 57 HT_.out HW_.out hS1 (h := ?_)
     iterate 3 refine Steps.nI_ 57 HT_.out (h := ?_)
     refine Steps.pI_ 28 (some 6) (Steps.Pre 29 29) (eY HT_.out z2_) (h := ?_)
     refine done_ (cC HT_.out z2_) ?_
     go_wp2
     go_ret
     rw [show res = false from by rw [HRS.out, decide_eq_false (show ¬ x.f8.length = 0 by have := HL.out; omega), Bool.and_false]]
     exact ⟨rfl, hb1⟩
    have HL := mk_ h3
    have h3_0 : ((x.f8.length : Int) == 0) = true := beq_iff_eq.mpr h3
    have h3_1 : ((x.f8.length : Int) != 0) = false := bne_eq_false_iff_eq.mpr h3
    have h3_2 : decide ((x.f8.length : Int) = 0) = true := decide_eq_true h3
    clear h3
    refine Steps.nI_ 57 HT_.out (h := ?_)
    refine Steps.nT_ 57 HT_.out HW_.out hS1 (h := ?_)
    iterate 3 refine Steps.nI_ 57 HT_.out (h := ?_)
    refine Steps.pI_ 28 (some 6) (Steps.Pre 29 29) (eY HT_.out z2_) (h := ?_)
    refine done_ (cC HT_.out z2_) ?_
    go_wp2
    go_ret
    rw [show res = true from by rw [HRS.out, decide_eq_true (show 0 ≤ x.f6 ∧ x.f6 < (c.length : Int) from ⟨h1_y.out, h2_y.out⟩), decide_eq_true (show x.f8.length = 0 by have := HL.out; omega)]; rfl]
    exact ⟨rfl, hb1⟩
  have HK2 := mk_ k2
  have k2_0 : (x.f3 == 2) = false := beq_eq_false_iff_ne.mpr k2
  have k2_1 : (x.f3 != 2) = true := bne_iff_ne.mpr k2
  have k2_2 : decide (x.f3 = 2) = false := decide_eq_false k2
  clear k2
  by_cases k3 : x.f3 = 3
  rotate_left
  ·
   have hr : res = false := by rw [HRK.out]; unfold kindB; rw [if_neg HK1.out, if_neg HK2.out, if_neg k3]
   have k3_0 : (x.f3 == 3) = false := beq_eq_false_iff_ne.mpr k3
   have k3_1 : (x.f3 != 3) = true := bne_iff_ne.mpr k3
   have k3_2 : decide (x.f3 = 3) = false := decide_eq_false k3
   clear k3
   go_wp2
   go_ret
   rw [hr]
   exact ⟨rfl, HB.out⟩
  as_aux_lemma =>
   have HRS := mk_ (show res = (decide (1 ≤ x.f8.length ∧ x.f8.length ≤ 64) && hadG x.f1 none x.f8 && decide (x.f6 = 0) && decide (x.f7.length = 0)) by rw [HRK.out]; unfold kindB; rw [if_neg HK1.out, if_neg HK2.out, if_pos k3])
   clear HRK
   have k3_0 : (x.f3 == 3) = true := beq_iff_eq.mpr k3
   have k3_1 : (x.f3 != 3) = false := bne_eq_false_iff_eq.mpr k3
   have k3_2 : decide (x.f3 = 3) = true := decide_eq_true k3
   clear k3
   obtain ⟨b6, e6⟩ : ∃ b, hadG x.f1 none x.f8 = b := ⟨_, rfl⟩
   have HHD := mk_ (show ∀ V, Below w.heap.size w V → Calls Tryz.prog 61 #[.slice A2 x.f1.length c2, .slice A11 x.f8.length c11] V fun e w' => e = .returned (.bool b6) ∧ Below V.heap.size V w' from fun V h => eI.calls 2000 A2 c2 x.f1 A11 c11 x.f8 b6 V (aU HR2.out h) HC2.out (aU HR11.out h) HC11.out (by rw [had_eq _ _ _ (by have := HN.out.1.2.2; omega) (by have := HN.out.1.2.2; omega), e6]))
   rw [e6] at HRS
   clear e6
   by_cases h1 : 1 ≤ (x.f8.length : Int)
   rotate_left
   ·
    have h1_n := mk_ h1
    have h1_0 : decide (1 ≤ (x.f8.length : Int)) = false := decide_eq_false h1
    have h1_1 : decide (0 < x.f8.length) = false := decide_eq_false z3_
    clear h1
    go_wp2
    go_ret
    rw [show res = false from by rw [HRS.out, decide_eq_false (fun h => by have := h1_n.out; omega)]; rfl]
    exact ⟨rfl, HB.out⟩
   have h1_y := mk_ h1
   have h1_0 : decide (1 ≤ (x.f8.length : Int)) = true := decide_eq_true h1
   have h1_1 : decide (0 < x.f8.length) = true := decide_eq_true z3_
   clear h1
   by_cases h2 : (x.f8.length : Int) ≤ 64
   rotate_left
   ·
    have h2_n := mk_ h2
    have h2_0 : decide ((x.f8.length : Int) ≤ 64) = false := decide_eq_false h2
    have h2_1 : decide (x.f8.length ≤ 64) = false := decide_eq_false z3_
    clear h2
    go_wp2
    go_ret
    rw [show res = false from by rw [HRS.out, decide_eq_false (fun h => by have := h2_n.out; omega)]; rfl]
    exact ⟨rfl, HB.out⟩
   have h2_y := mk_ h2
   have h2_0 : decide ((x.f8.length : Int) ≤ 64) = true := decide_eq_true h2
   have h2_1 : decide (x.f8.length ≤ 64) = true := decide_eq_true z3_
   clear h2
   cases b6
   ·
    go_wp2_with ((go_at_call 61; refine (HHD.out _ HB.out).mono ?_; rintro e V0 ⟨rfl, hq⟩; have n0_ := mk_ (bE BK.out hq); have n1_ := mk_ (aC HB.out hq); clear BK HB hq; revert n0_ n1_; intro BK HB; have kb := aD BK.out))
    go_ret
    rw [show res = false from by rw [HRS.out, Bool.and_false]; rfl]
    exact ⟨rfl, HB.out⟩
   by_cases h3 : x.f6 = 0
   rotate_left
   ·
    have h3_n := mk_ h3
    have h3_0 : (x.f6 == 0) = false := beq_eq_false_iff_ne.mpr h3
    have h3_1 : (x.f6 != 0) = true := bne_iff_ne.mpr h3
    have h3_2 : decide (x.f6 = 0) = false := decide_eq_false h3
    clear h3
    go_wp2_with ((go_at_call 61; refine (HHD.out _ HB.out).mono ?_; rintro e V0 ⟨rfl, hq⟩; have n0_ := mk_ (bE BK.out hq); have n1_ := mk_ (aC HB.out hq); clear BK HB hq; revert n0_ n1_; intro BK HB; have kb := aD BK.out))
    go_ret
    rw [show res = false from by rw [HRS.out, decide_eq_false h3_n.out, Bool.and_false]; rfl]
    exact ⟨rfl, HB.out⟩
   have h3_y := mk_ h3
   have h3_0 : (x.f6 == 0) = true := beq_iff_eq.mpr h3
   have h3_1 : (x.f6 != 0) = false := bne_eq_false_iff_eq.mpr h3
   have h3_2 : decide (x.f6 = 0) = true := decide_eq_true h3
   clear h3
   by_cases h4 : (x.f7.length : Int) = 0
   rotate_left
   ·
    have h4_n := mk_ h4
    have h4_0 : ((x.f7.length : Int) == 0) = false := beq_eq_false_iff_ne.mpr h4
    have h4_1 : ((x.f7.length : Int) != 0) = true := bne_iff_ne.mpr h4
    have h4_2 : decide ((x.f7.length : Int) = 0) = false := decide_eq_false h4
    clear h4
    go_wp2_with ((go_at_call 61; refine (HHD.out _ HB.out).mono ?_; rintro e V0 ⟨rfl, hq⟩; have n0_ := mk_ (bE BK.out hq); have n1_ := mk_ (aC HB.out hq); clear BK HB hq; revert n0_ n1_; intro BK HB; have kb := aD BK.out))
    go_ret
    rw [show res = false from by rw [HRS.out, decide_eq_false (show ¬ x.f7.length = 0 by have := h4_n.out; omega), Bool.and_false]]
    exact ⟨rfl, HB.out⟩
   have h4_y := mk_ h4
   have h4_0 : ((x.f7.length : Int) == 0) = true := beq_iff_eq.mpr h4
   have h4_1 : ((x.f7.length : Int) != 0) = false := bne_eq_false_iff_eq.mpr h4
   have h4_2 : decide ((x.f7.length : Int) = 0) = true := decide_eq_true h4
   clear h4
   go_wp2_with ((go_at_call 61; refine (HHD.out _ HB.out).mono ?_; rintro e V0 ⟨rfl, hq⟩; have n0_ := mk_ (bE BK.out hq); have n1_ := mk_ (aC HB.out hq); clear BK HB hq; revert n0_ n1_; intro BK HB; have kb := aD BK.out))
   go_ret
   rw [show res = true from by rw [HRS.out, decide_eq_true (show 1 ≤ x.f8.length ∧ x.f8.length ≤ 64 by have := h1_y.out; have := h2_y.out; omega), decide_eq_true h3_y.out, decide_eq_true (show x.f7.length = 0 by have := h4_y.out; omega)]; rfl]
   exact ⟨rfl, HB.out⟩
end Go.Proofs.YtjnjfogfpmeacaaGreat.Ops
namespace Go.Proofs.YtjnjfogfpmeacaaGreat.PAll
open Go.RowKit PAll Ops Plain PrintWords PrintLast PrintMore ZipT PrintWords.Kd PrintMore.Kd
def rtPlay (l1 : List Tb) (x : Ox) : Prop := (x.f1.length ≤ 1000 ∧ x.f7.length ≤ 1000 ∧ x.f8.length ≤ 1000) ∧ l1.length ≤ 1000 ∧ ∀ t ∈ l1, t.f0.length ≤ 1000
instance (l1 : List Tb) (x : Ox) : Decidable (rtPlay l1 x) := by unfold rtPlay; infer_instance
def gM.f (a0 : Int) (l1 : List Tb) (a2_0 : Int) (a2_1 : Int) (l2_2 : List Int) (a2_3 : Int) (a2_4 : Int) (a2_5 : Int) (a2_6 : Int) (a2_7 : Int) (a2_8 : ByteArray) (a2_9 : Int) (l2_10 : List V) (l2_11 : List Dt) : Option Bool := if rtPlay l1 (⟨⟨a2_0, a2_1⟩, l2_2, ⟨a2_3, a2_4, a2_5⟩, a2_6, a2_7, a2_8, a2_9, l2_10, l2_11⟩ : Ox) then some (rightB a0 l1 (⟨⟨a2_0, a2_1⟩, l2_2, ⟨a2_3, a2_4, a2_5⟩, a2_6, a2_7, a2_8, a2_9, l2_10, l2_11⟩ : Ox)) else none
theorem gM.calls (a0 : Int) (A1 : Option Addr) (c1 : Nat) (l1 : List Tb) (a2_0 : Int) (a2_1 : Int) (A2_2 : Option Addr) (c2_2 : Nat) (l2_2 : List Int) (a2_3 : Int) (a2_4 : Int) (a2_5 : Int) (a2_6 : Int) (a2_7 : Int) (a2_8 : ByteArray) (a2_9 : Int) (A2_10 : Option Addr) (c2_10 : Nat) (l2_10 : List V) (A2_11 : Option Addr) (c2_11 : Nat) (l2_11 : List Dt) (r : Bool) (w : World) (hr1 : Kd.C k53 w A1 l1.length l1) (hc1 : l1.length ≤ c1) (hr2_2 : Kd.C (Kd.int .i64) w A2_2 l2_2.length l2_2) (hc2_2 : l2_2.length ≤ c2_2) (hr2_10 : Kd.C k102 w A2_10 l2_10.length l2_10) (hc2_10 : l2_10.length ≤ c2_10) (hr2_11 : Kd.C k24 w A2_11 l2_11.length l2_11) (hc2_11 : l2_11.length ≤ c2_11) (h : gM.f a0 l1 a2_0 a2_1 l2_2 a2_3 a2_4 a2_5 a2_6 a2_7 a2_8 a2_9 l2_10 l2_11 = some r) :
  Calls Tryz.prog 32 #[.int .i64 a0, .slice A1 l1.length c1, .agg #[.int .i64 a2_0, .int .i64 a2_1, .slice A2_2 l2_2.length c2_2, .int .i64 a2_3, .int .i64 a2_4, .int .i64 a2_5, .int .i64 a2_6, .int .i64 a2_7, .string a2_8, .int .i64 a2_9, .slice A2_10 l2_10.length c2_10, .slice A2_11 l2_11.length c2_11]] w fun e w' => e = .returned (.bool r) ∧ Below w.heap.size w w' := by
 unfold gM.f at h
 split at h
 ·
  rename_i hs
  obtain rfl := Option.some.inj h
  exact right_calls a0 l1 (⟨⟨a2_0, a2_1⟩, l2_2, ⟨a2_3, a2_4, a2_5⟩, a2_6, a2_7, a2_8, a2_9, l2_10, l2_11⟩ : Ox) A1 c1 A2_2 c2_2 A2_10 c2_10 A2_11 c2_11 w hr1 hc1 hr2_2 hc2_2 hr2_10 hc2_10 hr2_11 hc2_11 hs.1 hs.2
 ·
  cases h
end Go.Proofs.YtjnjfogfpmeacaaGreat.PAll
end
section
namespace Go.Proofs.YtjnjfogfpmeacaaGreat.PAll
open Go.RowKit PrintWords PrintLast PrintMore ZipT PrintWords.Kd PrintMore.Kd
attribute [local go_sem] eP eN fD fA dS dT eO eK   -- for this text's walks alone
set_option linter.unusedVariables false
set_option linter.unusedSimpArgs false
def hG.f (k : Nat) (a0 : Int) (l1 : List (S53)) (a2_0 : Int) (a2_1 : Int) (l2_2 : List Int) (a2_3 : Int) (a2_4 : Int) (a2_5 : Int) (a2_6 : Int) (a2_7 : Int) (a2_8 : ByteArray) (a2_9 : Int) (l2_10 : List (S102)) (l2_11 : List (S24)) : Option (Int) := (dB.f k l1).bind fun t298 => (if t298 = 0 then (if a0 < 1 then (some 1) else (if a0 > 5 then (some 1) else ((gM.f a0 l1 a2_0 a2_1 l2_2 a2_3 a2_4 a2_5 a2_6 a2_7 a2_8 a2_9 l2_10 l2_11).bind fun t299 => (if t299 = true then (some 0) else (some 1))))) else (some t298))
theorem hG.calls (k : Nat) (a0 : Int) (A1 : Option Addr) (c1 : Nat) (l1 : List (S53)) (a2_0 : Int) (a2_1 : Int) (A2_2 : Option Addr) (c2_2 : Nat) (l2_2 : List Int) (a2_3 : Int) (a2_4 : Int) (a2_5 : Int) (a2_6 : Int) (a2_7 : Int) (a2_8 : ByteArray) (a2_9 : Int) (A2_10 : Option Addr) (c2_10 : Nat) (l2_10 : List (S102)) (A2_11 : Option Addr) (c2_11 : Nat) (l2_11 : List (S24)) (r : Int) (w : World) (hr1 : Kd.C k53 w A1 l1.length l1) (hc1 : l1.length ≤ c1) (hr2_2 : Kd.C (Kd.int .i64) w A2_2 l2_2.length l2_2) (hc2_2 : l2_2.length ≤ c2_2) (hr2_10 : Kd.C k102 w A2_10 l2_10.length l2_10) (hc2_10 : l2_10.length ≤ c2_10) (hr2_11 : Kd.C k24 w A2_11 l2_11.length l2_11) (hc2_11 : l2_11.length ≤ c2_11) (h : hG.f k a0 l1 a2_0 a2_1 l2_2 a2_3 a2_4 a2_5 a2_6 a2_7 a2_8 a2_9 l2_10 l2_11 = some r) :
  Calls Tryz.prog 13 #[.int .i64 a0, .slice A1 l1.length c1, .agg #[.int .i64 a2_0, .int .i64 a2_1, .slice A2_2 l2_2.length c2_2, .int .i64 a2_3, .int .i64 a2_4, .int .i64 a2_5, .int .i64 a2_6, .int .i64 a2_7, .string a2_8, .int .i64 a2_9, .slice A2_10 l2_10.length c2_10, .slice A2_11 l2_11.length c2_11]] w fun e w' => e = .returned (.int .i64 r) ∧ Below w.heap.size w w' := by
 have hu31 := Tryz.underlying31
 have HR1 := mk_ hr1
 have HC1 := mk_ hc1
 clear hr1 hc1
 have HR2_2 := mk_ hr2_2
 have HC2_2 := mk_ hc2_2
 clear hr2_2 hc2_2
 have HR2_10 := mk_ hr2_10
 have HC2_10 := mk_ hc2_10
 clear hr2_10 hc2_10
 have HR2_11 := mk_ hr2_11
 have HC2_11 := mk_ hc2_11
 clear hr2_11 hc2_11
 have HB := mk_ (Below.refl w.heap.size w)
 have H : ((dB.f k l1).bind fun t298 => (if t298 = 0 then (if a0 < 1 then (some 1) else (if a0 > 5 then (some 1) else ((gM.f a0 l1 a2_0 a2_1 l2_2 a2_3 a2_4 a2_5 a2_6 a2_7 a2_8 a2_9 l2_10 l2_11).bind fun t299 => (if t299 = true then (some 0) else (some 1))))) else (some t298))) = some r := h
 clear h
 obtain ⟨t298, A4, H⟩ := Option.bind_eq_some_iff.mp H
 replace A4 := mk_ A4
 by_cases c5 : t298 = 0
 rotate_left
 ·
  rw [if_neg c5] at H
  have c5b0 : (t298 == 0) = false := beq_eq_false_iff_ne.mpr c5
  have c5b1 : (t298 != 0) = true := bne_iff_ne.mpr c5
  obtain rfl := Option.some.inj H
  go_enter Tryz.func13, Tryz.ntmps13
  go_wp2_with (first | ((with_reducible refine aQ (N := 5) rfl ?_); refine aN ?hg (N := 5) ?hd (cs := #[.int .i64 a2_0, .int .i64 a2_1, .slice A2_2 l2_2.length c2_2, .int .i64 a2_3, .int .i64 a2_4, .int .i64 a2_5, .int .i64 a2_6, .int .i64 a2_7, .string a2_8, .int .i64 a2_9, .slice A2_10 l2_10.length c2_10, .slice A2_11 l2_11.length c2_11]) (t := 31) ?hr ?_; (case hd => rfl); (case hg => rfl); (case hr => first | (go_simp; done) | (go_simp; rfl)); intro gb297 hg w22 hbox hb; have n0_ := mk_ (aC (Short.hB HB) hb); have n1_ := mk_ (hbox); have n2_ := mk_ ((by rw [hg]; exact (aA (Short.hB HB)) : w.heap.size ≤ gb297)); have n3_ := mk_ ((by rw [hg]; exact (aA (Short.hB HB)) : w.heap.size ≤ gb297)); clear HB; revert n0_ n1_ n2_ n3_; intro HB BK297 GW297 GE297; clear hb hbox hg) | ((with_reducible refine aE (f := 9) rfl ?_); refine Short.gL (some 9) Tryz.func9 #[.slice A1 l1.length c1] (h := ?_); (with_reducible refine (dB.calls k _ _ l1 t298 _ ?side1 ?side2 A4.out).mono ?_); (case side1 => exact cX_ (aU HR1.out HB.out)); (case side2 => exact HC1.out); rintro e w23 ⟨rfl, hb⟩; refine ⟨_, rfl, ?_⟩; have n0_ := mk_ (bB_ BK297 hb); have n1_ := mk_ (aC (Short.hB HB) hb); clear BK297 HB; revert n0_ n1_; intro BK297 HB; (try clear hb)))
  go_ret
  exact ⟨q0, Short.hB HB⟩
 rw [if_pos c5] at H
 have c5b0 : (t298 == 0) = true := beq_iff_eq.mpr c5
 have c5b1 : (t298 != 0) = false := bne_eq_false_iff_eq.mpr c5
 clear c5
 by_cases c6 : a0 < 1
 ·
  rw [if_pos c6] at H
  have c6b0 : decide (a0 < 1) = true := decide_eq_true c6
  clear c6
  obtain rfl := Option.some.inj H
  go_enter Tryz.func13, Tryz.ntmps13
  go_wp2_with (first | ((with_reducible refine aQ (N := 5) rfl ?_); refine aN ?hg (N := 5) ?hd (cs := #[.int .i64 a2_0, .int .i64 a2_1, .slice A2_2 l2_2.length c2_2, .int .i64 a2_3, .int .i64 a2_4, .int .i64 a2_5, .int .i64 a2_6, .int .i64 a2_7, .string a2_8, .int .i64 a2_9, .slice A2_10 l2_10.length c2_10, .slice A2_11 l2_11.length c2_11]) (t := 31) ?hr ?_; (case hd => rfl); (case hg => rfl); (case hr => first | (go_simp; done) | (go_simp; rfl)); intro gb297 hg w7 hbox hb; have n0_ := mk_ (aC (Short.hB HB) hb); have n1_ := mk_ (hbox); have n2_ := mk_ ((by rw [hg]; exact (aA (Short.hB HB)) : w.heap.size ≤ gb297)); have n3_ := mk_ ((by rw [hg]; exact (aA (Short.hB HB)) : w.heap.size ≤ gb297)); clear HB; revert n0_ n1_ n2_ n3_; intro HB BK297 GW297 GE297; clear hb hbox hg) | ((with_reducible refine aE (f := 9) rfl ?_); refine Short.gL (some 9) Tryz.func9 #[.slice A1 l1.length c1] (h := ?_); (with_reducible refine (dB.calls k _ _ l1 t298 _ ?side1 ?side2 A4.out).mono ?_); (case side1 => exact cX_ (aU HR1.out HB.out)); (case side2 => exact HC1.out); rintro e w8 ⟨rfl, hb⟩; refine ⟨_, rfl, ?_⟩; have n0_ := mk_ (bB_ BK297 hb); have n1_ := mk_ (aC (Short.hB HB) hb); clear BK297 HB; revert n0_ n1_; intro BK297 HB; (try clear hb)))
  go_ret
  exact ⟨q0, Short.hB HB⟩
 rw [if_neg c6] at H
 have c6b0 : decide (a0 < 1) = false := decide_eq_false c6
 clear c6
 by_cases c9 : a0 > 5
 ·
  rw [if_pos c9] at H
  have c9b0 : decide (5 < a0) = true := decide_eq_true c9
  clear c9
  obtain rfl := Option.some.inj H
  go_enter Tryz.func13, Tryz.ntmps13
  go_wp2_with (first | ((with_reducible refine aQ (N := 5) rfl ?_); refine aN ?hg (N := 5) ?hd (cs := #[.int .i64 a2_0, .int .i64 a2_1, .slice A2_2 l2_2.length c2_2, .int .i64 a2_3, .int .i64 a2_4, .int .i64 a2_5, .int .i64 a2_6, .int .i64 a2_7, .string a2_8, .int .i64 a2_9, .slice A2_10 l2_10.length c2_10, .slice A2_11 l2_11.length c2_11]) (t := 31) ?hr ?_; (case hd => rfl); (case hg => rfl); (case hr => first | (go_simp; done) | (go_simp; rfl)); intro gb297 hg w10 hbox hb; have n0_ := mk_ (aC (Short.hB HB) hb); have n1_ := mk_ (hbox); have n2_ := mk_ ((by rw [hg]; exact (aA (Short.hB HB)) : w.heap.size ≤ gb297)); have n3_ := mk_ ((by rw [hg]; exact (aA (Short.hB HB)) : w.heap.size ≤ gb297)); clear HB; revert n0_ n1_ n2_ n3_; intro HB BK297 GW297 GE297; clear hb hbox hg) | ((with_reducible refine aE (f := 9) rfl ?_); refine Short.gL (some 9) Tryz.func9 #[.slice A1 l1.length c1] (h := ?_); (with_reducible refine (dB.calls k _ _ l1 t298 _ ?side1 ?side2 A4.out).mono ?_); (case side1 => exact cX_ (aU HR1.out HB.out)); (case side2 => exact HC1.out); rintro e w11 ⟨rfl, hb⟩; refine ⟨_, rfl, ?_⟩; have n0_ := mk_ (bB_ BK297 hb); have n1_ := mk_ (aC (Short.hB HB) hb); clear BK297 HB; revert n0_ n1_; intro BK297 HB; (try clear hb)))
  go_ret
  exact ⟨q0, Short.hB HB⟩
 rw [if_neg c9] at H
 have c9b0 : decide (5 < a0) = false := decide_eq_false c9
 clear c9
 obtain ⟨t299, A12, H⟩ := Option.bind_eq_some_iff.mp H
 replace A12 := mk_ A12
 by_cases c13 : t299 = true
 ·
  subst c13
  rw [if_pos rfl] at H
  obtain rfl := Option.some.inj H
  go_enter Tryz.func13, Tryz.ntmps13
  go_wp2_with (first | ((with_reducible refine aQ (N := 5) rfl ?_); refine aN ?hg (N := 5) ?hd (cs := #[.int .i64 a2_0, .int .i64 a2_1, .slice A2_2 l2_2.length c2_2, .int .i64 a2_3, .int .i64 a2_4, .int .i64 a2_5, .int .i64 a2_6, .int .i64 a2_7, .string a2_8, .int .i64 a2_9, .slice A2_10 l2_10.length c2_10, .slice A2_11 l2_11.length c2_11]) (t := 31) ?hr ?_; (case hd => rfl); (case hg => rfl); (case hr => first | (go_simp; done) | (go_simp; rfl)); intro gb297 hg w14 hbox hb; have n0_ := mk_ (aC (Short.hB HB) hb); have n1_ := mk_ (hbox); have n2_ := mk_ ((by rw [hg]; exact (aA (Short.hB HB)) : w.heap.size ≤ gb297)); have n3_ := mk_ ((by rw [hg]; exact (aA (Short.hB HB)) : w.heap.size ≤ gb297)); clear HB; revert n0_ n1_ n2_ n3_; intro HB BK297 GW297 GE297; clear hb hbox hg) | ((with_reducible refine aE (f := 9) rfl ?_); refine Short.gL (some 9) Tryz.func9 #[.slice A1 l1.length c1] (h := ?_); (with_reducible refine (dB.calls k _ _ l1 t298 _ ?side1 ?side2 A4.out).mono ?_); (case side1 => exact cX_ (aU HR1.out HB.out)); (case side2 => exact HC1.out); rintro e w15 ⟨rfl, hb⟩; refine ⟨_, rfl, ?_⟩; have n0_ := mk_ (bB_ BK297 hb); have n1_ := mk_ (aC (Short.hB HB) hb); clear BK297 HB; revert n0_ n1_; intro BK297 HB; (try clear hb); have hcz_0 := aD BK297.out; have hfz_0 := aX BK297.out) | (go_at_call 32; (with_reducible refine (gM.calls a0 _ _ l1 a2_0 a2_1 _ _ l2_2 a2_3 a2_4 a2_5 a2_6 a2_7 a2_8 a2_9 _ _ l2_10 _ _ l2_11 true _ ?side1 ?side2 ?side3 ?side4 ?side5 ?side6 ?side7 ?side8 A12.out).mono ?_); (case side1 => exact cX_ (aU HR1.out HB.out)); (case side2 => exact HC1.out); (case side3 => exact cX_ (aU HR2_2.out HB.out)); (case side4 => exact HC2_2.out); (case side5 => exact cX_ (aU HR2_10.out HB.out)); (case side6 => exact HC2_10.out); (case side7 => exact cX_ (aU HR2_11.out HB.out)); (case side8 => exact HC2_11.out); rintro e w17 ⟨rfl, hb⟩; have n0_ := mk_ (bB_ BK297 hb); have n1_ := mk_ (aC (Short.hB HB) hb); clear BK297 HB; revert n0_ n1_; intro BK297 HB; (try clear hb); (try clear hb2); (try clear hk); (try clear hi)))
  go_ret
  exact ⟨q0, Short.hB HB⟩
 replace c13 := Bool.eq_false_iff.mpr c13
 subst c13
 rw [if_neg (show ¬ (false = true) by decide)] at H
 obtain rfl := Option.some.inj H
 go_enter Tryz.func13, Tryz.ntmps13
 go_wp2_with (first | ((with_reducible refine aQ (N := 5) rfl ?_); refine aN ?hg (N := 5) ?hd (cs := #[.int .i64 a2_0, .int .i64 a2_1, .slice A2_2 l2_2.length c2_2, .int .i64 a2_3, .int .i64 a2_4, .int .i64 a2_5, .int .i64 a2_6, .int .i64 a2_7, .string a2_8, .int .i64 a2_9, .slice A2_10 l2_10.length c2_10, .slice A2_11 l2_11.length c2_11]) (t := 31) ?hr ?_; (case hd => rfl); (case hg => rfl); (case hr => first | (go_simp; done) | (go_simp; rfl)); intro gb297 hg w18 hbox hb; have n0_ := mk_ (aC (Short.hB HB) hb); have n1_ := mk_ (hbox); have n2_ := mk_ ((by rw [hg]; exact (aA (Short.hB HB)) : w.heap.size ≤ gb297)); have n3_ := mk_ ((by rw [hg]; exact (aA (Short.hB HB)) : w.heap.size ≤ gb297)); clear HB; revert n0_ n1_ n2_ n3_; intro HB BK297 GW297 GE297; clear hb hbox hg) | ((with_reducible refine aE (f := 9) rfl ?_); refine Short.gL (some 9) Tryz.func9 #[.slice A1 l1.length c1] (h := ?_); (with_reducible refine (dB.calls k _ _ l1 t298 _ ?side1 ?side2 A4.out).mono ?_); (case side1 => exact cX_ (aU HR1.out HB.out)); (case side2 => exact HC1.out); rintro e w19 ⟨rfl, hb⟩; refine ⟨_, rfl, ?_⟩; have n0_ := mk_ (bB_ BK297 hb); have n1_ := mk_ (aC (Short.hB HB) hb); clear BK297 HB; revert n0_ n1_; intro BK297 HB; (try clear hb); have hcz_0 := aD BK297.out; have hfz_0 := aX BK297.out) | (go_at_call 32; (with_reducible refine (gM.calls a0 _ _ l1 a2_0 a2_1 _ _ l2_2 a2_3 a2_4 a2_5 a2_6 a2_7 a2_8 a2_9 _ _ l2_10 _ _ l2_11 false _ ?side1 ?side2 ?side3 ?side4 ?side5 ?side6 ?side7 ?side8 A12.out).mono ?_); (case side1 => exact cX_ (aU HR1.out HB.out)); (case side2 => exact HC1.out); (case side3 => exact cX_ (aU HR2_2.out HB.out)); (case side4 => exact HC2_2.out); (case side5 => exact cX_ (aU HR2_10.out HB.out)); (case side6 => exact HC2_10.out); (case side7 => exact cX_ (aU HR2_11.out HB.out)); (case side8 => exact HC2_11.out); rintro e w21 ⟨rfl, hb⟩; have n0_ := mk_ (bB_ BK297 hb); have n1_ := mk_ (aC (Short.hB HB) hb); clear BK297 HB; revert n0_ n1_; intro BK297 HB; (try clear hb); (try clear hb2); (try clear hk); (try clear hi)))
 go_ret
 exact ⟨q0, Short.hB HB⟩
def fE.f (k : Nat) (a0 : Int) (l1 : List (S53)) (a2_0 : Int) (a2_1 : Int) (l2_2 : List Int) (a2_3 : Int) (a2_4 : Int) (a2_5 : Int) (a2_6 : Int) (a2_7 : Int) (a2_8 : ByteArray) (a2_9 : Int) (l2_10 : List (S102)) (l2_11 : List (S24)) : Option (Int) := (aV.f k l1).bind fun t322 => (if t322 = 0 then (if a0 < 1 then (some 1) else (if a0 > 5 then (some 1) else ((eT.f a0 l1 a2_0 a2_1 l2_2 a2_3 a2_4 a2_5 a2_6 a2_7 a2_8 a2_9 l2_10 l2_11).bind fun t323 => (if t323 = true then (some 0) else (some 1))))) else (some t322))
theorem fE.calls (k : Nat) (a0 : Int) (A1 : Option Addr) (c1 : Nat) (l1 : List (S53)) (a2_0 : Int) (a2_1 : Int) (A2_2 : Option Addr) (c2_2 : Nat) (l2_2 : List Int) (a2_3 : Int) (a2_4 : Int) (a2_5 : Int) (a2_6 : Int) (a2_7 : Int) (a2_8 : ByteArray) (a2_9 : Int) (A2_10 : Option Addr) (c2_10 : Nat) (l2_10 : List (S102)) (A2_11 : Option Addr) (c2_11 : Nat) (l2_11 : List (S24)) (r : Int) (w : World) (hr1 : Kd.C k53 w A1 l1.length l1) (hc1 : l1.length ≤ c1) (hr2_2 : Kd.C (Kd.int .i64) w A2_2 l2_2.length l2_2) (hc2_2 : l2_2.length ≤ c2_2) (hr2_10 : Kd.C k102 w A2_10 l2_10.length l2_10) (hc2_10 : l2_10.length ≤ c2_10) (hr2_11 : Kd.C k24 w A2_11 l2_11.length l2_11) (hc2_11 : l2_11.length ≤ c2_11) (h : fE.f k a0 l1 a2_0 a2_1 l2_2 a2_3 a2_4 a2_5 a2_6 a2_7 a2_8 a2_9 l2_10 l2_11 = some r) :
  Calls Tryz.prog 14 #[.int .i64 a0, .slice A1 l1.length c1, .agg #[.int .i64 a2_0, .int .i64 a2_1, .slice A2_2 l2_2.length c2_2, .int .i64 a2_3, .int .i64 a2_4, .int .i64 a2_5, .int .i64 a2_6, .int .i64 a2_7, .string a2_8, .int .i64 a2_9, .slice A2_10 l2_10.length c2_10, .slice A2_11 l2_11.length c2_11]] w fun e w' => e = .returned (.int .i64 r) ∧ Below w.heap.size w w' := by
 have hu31 := Tryz.underlying31
 have HR1 := mk_ hr1
 have HC1 := mk_ hc1
 clear hr1 hc1
 have HR2_2 := mk_ hr2_2
 have HC2_2 := mk_ hc2_2
 clear hr2_2 hc2_2
 have HR2_10 := mk_ hr2_10
 have HC2_10 := mk_ hc2_10
 clear hr2_10 hc2_10
 have HR2_11 := mk_ hr2_11
 have HC2_11 := mk_ hc2_11
 clear hr2_11 hc2_11
 have HB := mk_ (Below.refl w.heap.size w)
 have H : ((aV.f k l1).bind fun t322 => (if t322 = 0 then (if a0 < 1 then (some 1) else (if a0 > 5 then (some 1) else ((eT.f a0 l1 a2_0 a2_1 l2_2 a2_3 a2_4 a2_5 a2_6 a2_7 a2_8 a2_9 l2_10 l2_11).bind fun t323 => (if t323 = true then (some 0) else (some 1))))) else (some t322))) = some r := h
 clear h
 obtain ⟨t322, A4, H⟩ := Option.bind_eq_some_iff.mp H
 replace A4 := mk_ A4
 by_cases c5 : t322 = 0
 rotate_left
 ·
  rw [if_neg c5] at H
  have c5b0 : (t322 == 0) = false := beq_eq_false_iff_ne.mpr c5
  have c5b1 : (t322 != 0) = true := bne_iff_ne.mpr c5
  obtain rfl := Option.some.inj H
  go_enter Tryz.func14, Tryz.ntmps14
  go_wp2_with (first | ((with_reducible refine aQ (N := 5) rfl ?_); refine aN ?hg (N := 5) ?hd (cs := #[.int .i64 a2_0, .int .i64 a2_1, .slice A2_2 l2_2.length c2_2, .int .i64 a2_3, .int .i64 a2_4, .int .i64 a2_5, .int .i64 a2_6, .int .i64 a2_7, .string a2_8, .int .i64 a2_9, .slice A2_10 l2_10.length c2_10, .slice A2_11 l2_11.length c2_11]) (t := 31) ?hr ?_; (case hd => rfl); (case hg => rfl); (case hr => first | (go_simp; done) | (go_simp; rfl)); intro gb321 hg w18 hbox hb; have n0_ := mk_ (aC (Short.hB HB) hb); have n1_ := mk_ (hbox); have n2_ := mk_ ((by rw [hg]; exact (aA (Short.hB HB)) : w.heap.size ≤ gb321)); have n3_ := mk_ ((by rw [hg]; exact (aA (Short.hB HB)) : w.heap.size ≤ gb321)); clear HB; revert n0_ n1_ n2_ n3_; intro HB BK321 GW321 GE321; clear hb hbox hg) | ((with_reducible refine aE (f := 10) rfl ?_); refine Short.gL (some 9) Tryz.func10 #[.slice A1 l1.length c1] (h := ?_); (with_reducible refine (aV.calls k _ _ l1 t322 _ ?side1 ?side2 A4.out).mono ?_); (case side1 => exact cX_ (aU HR1.out HB.out)); (case side2 => exact HC1.out); rintro e w' ⟨rfl, ⟨nd, rfl⟩⟩; refine ⟨_, rfl, ?_⟩))
  go_ret
  exact ⟨q0, Short.hB HB⟩
 rw [if_pos c5] at H
 have c5b0 : (t322 == 0) = true := beq_iff_eq.mpr c5
 have c5b1 : (t322 != 0) = false := bne_eq_false_iff_eq.mpr c5
 clear c5
 by_cases c6 : a0 < 1
 ·
  rw [if_pos c6] at H
  have c6b0 : decide (a0 < 1) = true := decide_eq_true c6
  clear c6
  obtain rfl := Option.some.inj H
  go_enter Tryz.func14, Tryz.ntmps14
  go_wp2_with (first | ((with_reducible refine aQ (N := 5) rfl ?_); refine aN ?hg (N := 5) ?hd (cs := #[.int .i64 a2_0, .int .i64 a2_1, .slice A2_2 l2_2.length c2_2, .int .i64 a2_3, .int .i64 a2_4, .int .i64 a2_5, .int .i64 a2_6, .int .i64 a2_7, .string a2_8, .int .i64 a2_9, .slice A2_10 l2_10.length c2_10, .slice A2_11 l2_11.length c2_11]) (t := 31) ?hr ?_; (case hd => rfl); (case hg => rfl); (case hr => first | (go_simp; done) | (go_simp; rfl)); intro gb321 hg w7 hbox hb; have n0_ := mk_ (aC (Short.hB HB) hb); have n1_ := mk_ (hbox); have n2_ := mk_ ((by rw [hg]; exact (aA (Short.hB HB)) : w.heap.size ≤ gb321)); have n3_ := mk_ ((by rw [hg]; exact (aA (Short.hB HB)) : w.heap.size ≤ gb321)); clear HB; revert n0_ n1_ n2_ n3_; intro HB BK321 GW321 GE321; clear hb hbox hg) | ((with_reducible refine aE (f := 10) rfl ?_); refine Short.gL (some 9) Tryz.func10 #[.slice A1 l1.length c1] (h := ?_); (with_reducible refine (aV.calls k _ _ l1 t322 _ ?side1 ?side2 A4.out).mono ?_); (case side1 => exact cX_ (aU HR1.out HB.out)); (case side2 => exact HC1.out); rintro e w' ⟨rfl, ⟨nd, rfl⟩⟩; refine ⟨_, rfl, ?_⟩))
  go_ret
  exact ⟨q0, Short.hB HB⟩
 rw [if_neg c6] at H
 have c6b0 : decide (a0 < 1) = false := decide_eq_false c6
 clear c6
 by_cases c8 : a0 > 5
 ·
  rw [if_pos c8] at H
  have c8b0 : decide (5 < a0) = true := decide_eq_true c8
  clear c8
  obtain rfl := Option.some.inj H
  go_enter Tryz.func14, Tryz.ntmps14
  go_wp2_with (first | ((with_reducible refine aQ (N := 5) rfl ?_); refine aN ?hg (N := 5) ?hd (cs := #[.int .i64 a2_0, .int .i64 a2_1, .slice A2_2 l2_2.length c2_2, .int .i64 a2_3, .int .i64 a2_4, .int .i64 a2_5, .int .i64 a2_6, .int .i64 a2_7, .string a2_8, .int .i64 a2_9, .slice A2_10 l2_10.length c2_10, .slice A2_11 l2_11.length c2_11]) (t := 31) ?hr ?_; (case hd => rfl); (case hg => rfl); (case hr => first | (go_simp; done) | (go_simp; rfl)); intro gb321 hg w9 hbox hb; have n0_ := mk_ (aC (Short.hB HB) hb); have n1_ := mk_ (hbox); have n2_ := mk_ ((by rw [hg]; exact (aA (Short.hB HB)) : w.heap.size ≤ gb321)); have n3_ := mk_ ((by rw [hg]; exact (aA (Short.hB HB)) : w.heap.size ≤ gb321)); clear HB; revert n0_ n1_ n2_ n3_; intro HB BK321 GW321 GE321; clear hb hbox hg) | ((with_reducible refine aE (f := 10) rfl ?_); refine Short.gL (some 9) Tryz.func10 #[.slice A1 l1.length c1] (h := ?_); (with_reducible refine (aV.calls k _ _ l1 t322 _ ?side1 ?side2 A4.out).mono ?_); (case side1 => exact cX_ (aU HR1.out HB.out)); (case side2 => exact HC1.out); rintro e w' ⟨rfl, ⟨nd, rfl⟩⟩; refine ⟨_, rfl, ?_⟩))
  go_ret
  exact ⟨q0, Short.hB HB⟩
 rw [if_neg c8] at H
 have c8b0 : decide (5 < a0) = false := decide_eq_false c8
 clear c8
 obtain ⟨t323, A10, H⟩ := Option.bind_eq_some_iff.mp H
 replace A10 := mk_ A10
 by_cases c11 : t323 = true
 ·
  subst c11
  rw [if_pos rfl] at H
  obtain rfl := Option.some.inj H
  go_enter Tryz.func14, Tryz.ntmps14
  go_wp2_with (first | ((with_reducible refine aQ (N := 5) rfl ?_); refine aN ?hg (N := 5) ?hd (cs := #[.int .i64 a2_0, .int .i64 a2_1, .slice A2_2 l2_2.length c2_2, .int .i64 a2_3, .int .i64 a2_4, .int .i64 a2_5, .int .i64 a2_6, .int .i64 a2_7, .string a2_8, .int .i64 a2_9, .slice A2_10 l2_10.length c2_10, .slice A2_11 l2_11.length c2_11]) (t := 31) ?hr ?_; (case hd => rfl); (case hg => rfl); (case hr => first | (go_simp; done) | (go_simp; rfl)); intro gb321 hg w12 hbox hb; have n0_ := mk_ (aC (Short.hB HB) hb); have n1_ := mk_ (hbox); have n2_ := mk_ ((by rw [hg]; exact (aA (Short.hB HB)) : w.heap.size ≤ gb321)); have n3_ := mk_ ((by rw [hg]; exact (aA (Short.hB HB)) : w.heap.size ≤ gb321)); clear HB; revert n0_ n1_ n2_ n3_; intro HB BK321 GW321 GE321; clear hb hbox hg) | ((with_reducible refine aE (f := 10) rfl ?_); refine Short.gL (some 9) Tryz.func10 #[.slice A1 l1.length c1] (h := ?_); (with_reducible refine (aV.calls k _ _ l1 t322 _ ?side1 ?side2 A4.out).mono ?_); (case side1 => exact cX_ (aU HR1.out HB.out)); (case side2 => exact HC1.out); rintro e w' ⟨rfl, ⟨nd, rfl⟩⟩; refine ⟨_, rfl, ?_⟩; have hcz_0 := aD BK321.out; have hfz_0 := aX BK321.out) | (go_at_call 33; (with_reducible refine (eT.calls a0 _ _ l1 a2_0 a2_1 _ _ l2_2 a2_3 a2_4 a2_5 a2_6 a2_7 a2_8 a2_9 _ _ l2_10 _ _ l2_11 true _ ?side1 ?side2 ?side3 ?side4 ?side5 ?side6 ?side7 ?side8 A10.out).mono ?_); (case side1 => exact cX_ (aU HR1.out (Short.hB HB))); (case side2 => exact HC1.out); (case side3 => exact cX_ (aU HR2_2.out (Short.hB HB))); (case side4 => exact HC2_2.out); (case side5 => exact cX_ (aU HR2_10.out (Short.hB HB))); (case side6 => exact HC2_10.out); (case side7 => exact cX_ (aU HR2_11.out (Short.hB HB))); (case side8 => exact HC2_11.out); rintro e w14 ⟨rfl, hb⟩; have n0_ := mk_ (bB_ BK321 hb); have n1_ := mk_ (aC (Short.hB HB) hb); clear BK321 HB; revert n0_ n1_; intro BK321 HB; (try clear hb); (try clear hb2); (try clear hk); (try clear hi)))
  go_ret
  exact ⟨q0, Short.hB HB⟩
 replace c11 := Bool.eq_false_iff.mpr c11
 subst c11
 rw [if_neg (show ¬ (false = true) by decide)] at H
 obtain rfl := Option.some.inj H
 go_enter Tryz.func14, Tryz.ntmps14
 go_wp2_with (first | ((with_reducible refine aQ (N := 5) rfl ?_); refine aN ?hg (N := 5) ?hd (cs := #[.int .i64 a2_0, .int .i64 a2_1, .slice A2_2 l2_2.length c2_2, .int .i64 a2_3, .int .i64 a2_4, .int .i64 a2_5, .int .i64 a2_6, .int .i64 a2_7, .string a2_8, .int .i64 a2_9, .slice A2_10 l2_10.length c2_10, .slice A2_11 l2_11.length c2_11]) (t := 31) ?hr ?_; (case hd => rfl); (case hg => rfl); (case hr => first | (go_simp; done) | (go_simp; rfl)); intro gb321 hg w15 hbox hb; have n0_ := mk_ (aC (Short.hB HB) hb); have n1_ := mk_ (hbox); have n2_ := mk_ ((by rw [hg]; exact (aA (Short.hB HB)) : w.heap.size ≤ gb321)); have n3_ := mk_ ((by rw [hg]; exact (aA (Short.hB HB)) : w.heap.size ≤ gb321)); clear HB; revert n0_ n1_ n2_ n3_; intro HB BK321 GW321 GE321; clear hb hbox hg) | ((with_reducible refine aE (f := 10) rfl ?_); refine Short.gL (some 9) Tryz.func10 #[.slice A1 l1.length c1] (h := ?_); (with_reducible refine (aV.calls k _ _ l1 t322 _ ?side1 ?side2 A4.out).mono ?_); (case side1 => exact cX_ (aU HR1.out HB.out)); (case side2 => exact HC1.out); rintro e w' ⟨rfl, ⟨nd, rfl⟩⟩; refine ⟨_, rfl, ?_⟩; have hcz_0 := aD BK321.out; have hfz_0 := aX BK321.out) | (go_at_call 33; (with_reducible refine (eT.calls a0 _ _ l1 a2_0 a2_1 _ _ l2_2 a2_3 a2_4 a2_5 a2_6 a2_7 a2_8 a2_9 _ _ l2_10 _ _ l2_11 false _ ?side1 ?side2 ?side3 ?side4 ?side5 ?side6 ?side7 ?side8 A10.out).mono ?_); (case side1 => exact cX_ (aU HR1.out (Short.hB HB))); (case side2 => exact HC1.out); (case side3 => exact cX_ (aU HR2_2.out (Short.hB HB))); (case side4 => exact HC2_2.out); (case side5 => exact cX_ (aU HR2_10.out (Short.hB HB))); (case side6 => exact HC2_10.out); (case side7 => exact cX_ (aU HR2_11.out (Short.hB HB))); (case side8 => exact HC2_11.out); rintro e w17 ⟨rfl, hb⟩; have n0_ := mk_ (bB_ BK321 hb); have n1_ := mk_ (aC (Short.hB HB) hb); clear BK321 HB; revert n0_ n1_; intro BK321 HB; (try clear hb); (try clear hb2); (try clear hk); (try clear hi)))
 go_ret
 exact ⟨q0, Short.hB HB⟩
end Go.Proofs.YtjnjfogfpmeacaaGreat.PAll
end
section
namespace Go.Proofs.YtjnjfogfpmeacaaGreat.Ops
open Go.RowKit PAll Plain PrintWords PrintLast PrintMore Go.Proofs.YtjnjfogfpmeacaaGreat.Sep ZipT PrintWords.Kd PrintMore.Kd
set_option linter.unusedVariables false
set_option linter.unusedSimpArgs false
section
variable {w w0 : World} {g : Nat} {A : Option Addr} {c : Nat} {l : List Int} {F : List Part}
theorem sp_el {α : Type} {d : Kd α} {p : α} {cs : List Value} {w : World} {F : List Part} (hM : ∀ (w : World) (ok : Nat → Prop), d.M w 0 ok p cs) (h : Sp w F) : Sp w (El d p cs :: F) :=
 ⟨fun _ => False, fun _ h => h.elim, hM _ _, h.wide (fun k hk => ⟨hk, fun e => e⟩)⟩
theorem fL {α : Type} {d : Kd α} {e : Nat} {w : World} {F : List Part} (h : Sp w F) : Sp w (Row d e (.slice none 0 0) [] :: F) :=
 ⟨fun _ => False, fun _ h => h.elim, R_nil _ _ _ _ _, h.wide (fun k hk => ⟨hk, fun e => e⟩)⟩
theorem jO {P : Program} {ops : Array Oper} {Q : Exit → Act → World → Prop} {S : World → Prop} {ds : List Nat} {id n : Nat} {a : Act} {w : World} (J : World → Prop) (l : Array Bool) (hm : P.follows .mixedOrders = true) (hn : ops.size = n) (hl : Array.replicate n false = l)
  (hJ : J w.drew) (hS : ∀ W, J W → S W) (h : ∀ W, J W → wpAnyLast P .any ops Q S ds n l a W) : (Code.region id ops true).wp P Q a w :=
 fM l hm hn hl (hS _ hJ) (fun _ => h _ hJ)
theorem times_len {α : Type} (f : List Int → Rr → α × Rr) (l : List Int) : ∀ (n : Nat) (acc : List α) (r : Rr), (rTimes f l n acc r).1.length = acc.length + n
 | 0, acc, r => rfl
 | n + 1, acc, r => by rw [rTimes, times_len f l n]; simp; omega
theorem rAt_many {l : List Int} {r : Rr} (hb : Bytes l) (s : Nat) (h1 : 1 ≤ s) (h7 : s ≤ 7) (m : Int) (h : rAt l r) : rAt l (rMany (s : Int) m l r).2 := by
 have := gU hb s h1 h7 h
 unfold rMany
 split
 ·
  exact this
 ·
  exact this
theorem rnums_calls (hC0 : Kd.C (Kd.int .u8) w0 A l.length l) (hlc : l.length ≤ c) (hb : Bytes l) (hl : l.length ≤ 1000000) (r : Rr) (hp : rAt l r) (hS : Sp w (RdP g A l.length c r :: Old w0 :: F)) :
  Calls Tryz.prog 72 #[.pointer (some ⟨g, 0, none⟩)] w fun e w' => ∃ v, e = .returned v ∧ Sp w' (Row (Kd.int .i64) 3 v (rNums l r).1 :: RdP g A l.length c (rNums l r).2 :: Old w0 :: F) := by
 have hm := rAt_many hb 1 z5_ z5_ 5 hp
 have HN := mk_ (rmany_calls hC0 hlc hb hl r 1 5 hp hS)
 have hu : rNums l r = rTimes (rNum 4) l (rMany 1 5 l r).1.toNat [] (rMany 1 5 l r).2 := rfl
 have hle : (rMany 1 5 l r).1 ≤ 5 := by unfold rMany; split <;> omega
 rw [hu]
 have hm : rAt l (rMany 1 5 l r).2 := hm
 generalize rMany 1 5 l r = q at *
 obtain ⟨n, r1⟩ := q
 dsimp only at hle hm HN ⊢
 have HT : Aside0 (∀ i, rAt l (rTimes (rNum 4) l i [] r1).2) := ⟨fun i => rAt_times (fun r h => gU hb 4 z5_ z5_ h) i [] _ hm⟩
 have HC := mk_ (And.intro hC0 (And.intro hlc (And.intro hb hl)))
 have HLE := mk_ hle
 clear hC0 hlc hb hl hp hS hu hle hm
 go_enter Tryz.func72, Tryz.ntmps72
 go_wp2_with (go_at_call 76; refine HN.out.mono ?_; rintro e V ⟨rfl, h1⟩; have HS1 := mk_ h1; clear h1)
 go_loopg [6, 3] (n.toNat + 1) (fun kq v6 v3 W' => ∃ (i : Nat) (v : Value), v6 = .int .i64 (i : Int) ∧ v3 = v ∧ Aside0 (Sp W' (Row (Kd.int .i64) 3 v (rTimes (rNum 4) l i [] r1).1 :: RdP g A l.length c (rTimes (rNum 4) l i [] r1).2 :: Old w0 :: F)) ∧ Aside0 (kq + i = n.toNat + 1 ∧ i ≤ n.toNat))
 case atStart => exact ⟨0, _, rfl, rfl, ⟨fL HS1.out⟩, ⟨by omega⟩⟩
 case round =>
  obtain ⟨i, _, rfl, rfl, HA, HK⟩ := hrel
  obtain ⟨k1, rfl⟩ : ∃ k1, gk = k1 + 1 := ⟨gk - 1, by have := HK.out; omega⟩
  by_cases hi : (i : Int) < n
  rotate_left
  ·
   have hb2 : decide ((i : Int) < n) = false := decide_eq_false hi
   have hie : i = n.toNat := by have := HK.out; omega
   clear hi
   go_wp2
   go_ret
   subst hie
   exact ⟨_, rfl, HA.out⟩
  have hb2 : decide ((i : Int) < n) = true := decide_eq_true hi
  have HI := mk_ hi
  have HX := mk_ (jH (rNum 4) l i [] r1)
  have HTi := mk_ (HT.out i)
  have HTL : Aside0 ((rTimes (rNum 4) l i [] r1).1.length = i) := ⟨by rw [times_len]; simp⟩
  clear hi HT
  generalize rTimes (rNum 4) l i [] r1 = t at *
  obtain ⟨xs, ri⟩ := t
  dsimp only at HA HX HTi HTL
  have HQ := mk_ (fun V hv => fN (g := g) (w := V) (F := Row (Kd.int .i64) 3 u3 xs :: F) HC.out.1 HC.out.2.1 HC.out.2.2.1 HC.out.2.2.2 ri 4 HTi.out hv)
  generalize rNum 4 l ri = q at *
  obtain ⟨p, rj⟩ := q
  dsimp only at HQ HX
  go_wp2_with (first
   | (go_at_call 70; (with_reducible show Calls _ _ #[_, .int .i64 4] _ _); refine (HQ.out _ (HA.out.s1).s2.s1).mono ?_; rintro e V2 ⟨rfl, h1⟩; have HS3 := mk_ (Sp.s1 (sp_el (d := Kd.int .i64) (p := p) (cs := [.int .i64 p]) (fun _ _ => rfl) h1.s2)); clear h1)
   | ((with_reducible refine cK (b := .append) (xs := #[.tmp 8, .tmp 11]) rfl ?_); at_builtin; refine Sp.append (Kd.int .i64) rfl (.tmp 8) (.tmp 11) 25 3 (.int .i64 0) 8 rfl Tryz.underlying25 z2_ rfl z5_ z3_ u3 xs p [.int .i64 p] rfl rfl HS3.out (by have := HTL.out; have := HI.out; have := HLE.out; omega) ?_; intro v1 w1 h1; have HS4 := mk_ h1; clear h1))
  go_roundg k1
  case measure => exact Nat.lt_succ_self _
  case rel => exact ⟨i + 1, v1, by rw [w64 z3_ (by have := HI.out; have := HLE.out; omega)]; rfl, rfl, ⟨by rw [HX.out]; exact HS4.out⟩, ⟨by have := HK.out; omega, by have := HI.out; omega⟩⟩
theorem rop_calls (hC0 : Kd.C (Kd.int .u8) w0 A l.length l) (hlc : l.length ≤ c) (hb : Bytes l) (hl : l.length ≤ 1000000) (r : Rr) (hp : rAt l r) (hS : Sp w (RdP g A l.length c r :: Old w0 :: F)) :
  Calls Tryz.prog 44 #[.pointer (some ⟨g, 0, none⟩)] w fun e w' => ∃ v1 v7 v8, e = .returned (.agg #[.int .i64 (rOp l r).1.f0.f0, .int .i64 (rOp l r).1.f0.f1, v1, .int .i64 (rOp l r).1.f2.f0, .int .i64 (rOp l r).1.f2.f1, .int .i64 (rOp l r).1.f2.f2, .int .i64 (rOp l r).1.f3, .int .i64 (rOp l r).1.f4, .string (rOp l r).1.f5, .int .i64 (rOp l r).1.f6, v7, v8]) ∧
   Sp w' (Row (Kd.int .i64) 3 v1 (rOp l r).1.f1 :: Row k102 102 v7 (rOp l r).1.f7 :: Row k24 24 v8 (rOp l r).1.f8 :: RdP g A l.length c (rOp l r).2 :: Old w0 :: F) := by
 obtain ⟨q1, hq1⟩ : ∃ q, q = rNum 1 l r := ⟨_, rfl⟩
 have C1 : ∀ V F', Sp V (RdP g A l.length c r :: Old w0 :: F') → Calls Tryz.prog 70 #[.pointer (some ⟨g, 0, none⟩), .int .i64 1] V (fun e w' => e = .returned (.int .i64 q1.1) ∧ Sp w' (RdP g A l.length c q1.2 :: Old w0 :: F')) := fun V F' h => by rw [hq1]; exact fN hC0 hlc hb hl r 1 hp h
 have p1 : rAt l q1.2 := by rw [hq1]; exact gU hb 1 z5_ z5_ hp
 obtain ⟨q2, hq2⟩ : ∃ q, q = rDot l q1.2 := ⟨_, rfl⟩
 have C2 : ∀ V F', Sp V (RdP g A l.length c q1.2 :: Old w0 :: F') → Calls Tryz.prog 71 #[.pointer (some ⟨g, 0, none⟩)] V (fun e w' => e = .returned (.agg #[.int .i64 q2.1.f0, .int .i64 q2.1.f1]) ∧ Sp w' (RdP g A l.length c q2.2 :: Old w0 :: F')) := fun V F' h => by rw [hq2]; exact rdot_calls hC0 hlc hb hl q1.2 p1 (gU hb 1 z5_ z5_ p1) h
 have p2 : rAt l q2.2 := by rw [hq2]; exact Reads.dot.place l q1.2 hb p1.1 p1.2
 obtain ⟨q3, hq3⟩ : ∃ q, q = rNums l q2.2 := ⟨_, rfl⟩
 have C3 : ∀ V F', Sp V (RdP g A l.length c q2.2 :: Old w0 :: F') → Calls Tryz.prog 72 #[.pointer (some ⟨g, 0, none⟩)] V (fun e w' => ∃ v, e = .returned v ∧ Sp w' (Row (Kd.int .i64) 3 v q3.1 :: RdP g A l.length c q3.2 :: Old w0 :: F')) := fun V F' h => by rw [hq3]; exact rnums_calls hC0 hlc hb hl q2.2 p2 h
 have p3 : rAt l q3.2 := by rw [hq3]; exact Reads.nums.place l q2.2 hb p2.1 p2.2
 obtain ⟨q4, hq4⟩ : ∃ q, q = rStamp l q3.2 := ⟨_, rfl⟩
 have C4 : ∀ V F', Sp V (RdP g A l.length c q3.2 :: Old w0 :: F') → Calls Tryz.prog 73 #[.pointer (some ⟨g, 0, none⟩)] V (fun e w' => e = .returned (.agg #[.int .i64 q4.1.f0, .int .i64 q4.1.f1, .int .i64 q4.1.f2]) ∧ Sp w' (RdP g A l.length c q4.2 :: Old w0 :: F')) := fun V F' h => by rw [hq4]; exact rstamp_calls hC0 hlc hb hl q3.2 p3 (gU hb 6 z5_ z5_ p3) (gU hb 3 z5_ z5_ (gU hb 6 z5_ z5_ p3)) h
 have p4 : rAt l q4.2 := by rw [hq4]; exact Reads.stamp.place l q3.2 hb p3.1 p3.2
 obtain ⟨q5, hq5⟩ : ∃ q, q = rNum 1 l q4.2 := ⟨_, rfl⟩
 have C5 : ∀ V F', Sp V (RdP g A l.length c q4.2 :: Old w0 :: F') → Calls Tryz.prog 70 #[.pointer (some ⟨g, 0, none⟩), .int .i64 1] V (fun e w' => e = .returned (.int .i64 q5.1) ∧ Sp w' (RdP g A l.length c q5.2 :: Old w0 :: F')) := fun V F' h => by rw [hq5]; exact fN hC0 hlc hb hl q4.2 1 p4 h
 have p5 : rAt l q5.2 := by rw [hq5]; exact gU hb 1 z5_ z5_ p4
 obtain ⟨q6, hq6⟩ : ∃ q, q = rText l q5.2 := ⟨_, rfl⟩
 have C6 : ∀ V F', Sp V (RdP g A l.length c q5.2 :: Old w0 :: F') → Calls Tryz.prog 74 #[.pointer (some ⟨g, 0, none⟩)] V (fun e w' => e = .returned (.string q6.1) ∧ Sp w' (RdP g A l.length c q6.2 :: Old w0 :: F')) := fun V F' h => by rw [hq6]; exact rtext_calls hC0 hlc hb hl q5.2 p5 h
 have p6 : rAt l q6.2 := by rw [hq6]; exact Reads.text.place l q5.2 hb p5.1 p5.2
 obtain ⟨q7, hq7⟩ : ∃ q, q = rNum 1 l q6.2 := ⟨_, rfl⟩
 have C7 : ∀ V F', Sp V (RdP g A l.length c q6.2 :: Old w0 :: F') → Calls Tryz.prog 70 #[.pointer (some ⟨g, 0, none⟩), .int .i64 1] V (fun e w' => e = .returned (.int .i64 q7.1) ∧ Sp w' (RdP g A l.length c q7.2 :: Old w0 :: F')) := fun V F' h => by rw [hq7]; exact fN hC0 hlc hb hl q6.2 1 p6 h
 have p7 : rAt l q7.2 := by rw [hq7]; exact gU hb 1 z5_ z5_ p6
 have hu : rOp l r = if (rRow l q7.2).2.2 = true then (zOp, (rRow l q7.2).2) else (⟨q2.1, q3.1, q4.1, q1.1, q5.1, q6.1, q7.1, (rRow l q7.2).1, (rDots l (rRow l q7.2).2).1⟩, (rDots l (rRow l q7.2).2).2) := by
  subst hq7 hq6 hq5 hq4 hq3 hq2 hq1; rfl
 have hg := rowRead_eq 80 l q7.2.1 hb hl (by have := p7.2; omega) (Nat.le_refl _)
 have hr : rRow l q7.2 = rOf [] (sRowRead l q7.2.1) q7.2 := rfl
 have pr : rAt l (rRow l q7.2).2 := Reads.row.place l q7.2 hb p7.1 p7.2
 have hcl : ∀ V, Below w0.heap.size w0 V → Kd.C (Kd.int .u8) V A l.length l := fun V h => aU hC0 h
 have CM : ∀ V F' r, rAt l r → Sp V (RdP g A l.length c r :: Old w0 :: F') → Calls Tryz.prog 76 #[.pointer (some ⟨g, 0, none⟩), .int .i64 1, .int .i64 64] V (fun e w' => e = .returned (.int .i64 (rMany 1 64 l r).1) ∧ Sp w' (RdP g A l.length c (rMany 1 64 l r).2 :: Old w0 :: F')) := fun V F' r p h => rmany_calls hC0 hlc hb hl r 1 64 p h
 have CD : ∀ V F' r, rAt l r → Sp V (RdP g A l.length c r :: Old w0 :: F') → Calls Tryz.prog 71 #[.pointer (some ⟨g, 0, none⟩)] V (fun e w' => e = .returned (.agg #[.int .i64 (rDot l r).1.f0, .int .i64 (rDot l r).1.f1]) ∧ Sp w' (RdP g A l.length c (rDot l r).2 :: Old w0 :: F')) := fun V F' r p h => rdot_calls hC0 hlc hb hl r p (gU hb 1 z5_ z5_ p) h
 have PM : ∀ r, rAt l r → rAt l (rMany 1 64 l r).2 := fun r p => rAt_many hb 1 z5_ z5_ 64 p
 have PD : ∀ r, rAt l r → rAt l (rDot l r).2 := fun r p => Reads.dot.place l r hb p.1 p.2
 rw [hr] at pr hu
 generalize sRowRead l q7.2.1 = gg at hg hu pr
 obtain ⟨vals, nx, e_⟩ := gg
 clear hr hq7 hq6 hq5 hq4 hq3 hq2 hq1 p1 p2 p3 p4 p5 p6 p7 hb hC0 hp
 obtain ⟨n1, r1⟩ := q1
 obtain ⟨d_, r2⟩ := q2
 obtain ⟨l3, r3⟩ := q3
 obtain ⟨t_, r4⟩ := q4
 obtain ⟨n5, r5⟩ := q5
 obtain ⟨s6, r6⟩ := q6
 obtain ⟨n7, r7⟩ := q7
 obtain ⟨at7, bad7⟩ := r7
 dsimp only at C1 C2 C3 C4 C5 C6 C7 hg hu pr
 have HG := mk_ hg
 have HLC := mk_ hlc
 have HCL := mk_ hcl
 have HC1 := mk_ C1
 have HC2 := mk_ C2
 have HC3 := mk_ C3
 have HC4 := mk_ C4
 have HC5 := mk_ C5
 have HC6 := mk_ C6
 have HC7 := mk_ C7
 have HCM := mk_ CM
 have HCD := mk_ CD
 have HPM := mk_ PM
 have HPD := mk_ PD
 have HS0 := mk_ (Sp.s1 (Sp.s2 (Sp.s1 (hS.box (.cells #[.int .i64 0, .int .i64 0, .slice none 0 0, .int .i64 0, .int .i64 0, .int .i64 0, .int .i64 0, .int .i64 0, .string ⟨#[]⟩, .int .i64 0, .slice none 0 0, .slice none 0 0] 31 (0, 0))))))
 clear C1 C2 C3 C4 C5 C6 C7 CM CD PM PD hg hlc hcl hS
 cases bad7 with
 | true =>
  have hz : rOp l r = (zOp, (at7, true)) := by rw [hu]; unfold rOf; simp
  rw [hz]
  clear hu hz pr
  go_enter Tryz.func44, Tryz.ntmps44
  go_wp2_with (first
  | (go_at_call 70; (with_reducible show Calls _ _ _ (World.alloc w _) _); refine (HC1.out _ _ HS0.out).mono ?_; rintro e V1 ⟨rfl, h1⟩; have HS1 := mk_ h1; clear h1)
  | (go_at_call 71; (with_reducible show Calls _ _ _ V1 _); refine (HC2.out _ _ HS1.out).mono ?_; rintro e V2 ⟨rfl, h1⟩; have HS2 := mk_ h1; clear h1)
  | (go_at_call 72; (with_reducible show Calls _ _ _ V2 _); refine (HC3.out _ _ HS2.out).mono ?_; rintro e V3 ⟨v3, rfl, h1⟩; obtain ⟨A3, c3, rfl, _, _⟩ := h1.row; have HS3 := mk_ h1.s1.s2.s1; clear h1)
  | (go_at_call 73; (with_reducible show Calls _ _ _ V3 _); refine (HC4.out _ _ HS3.out).mono ?_; rintro e V4 ⟨rfl, h1⟩; have HS4 := mk_ h1; clear h1)
  | (go_at_call 70; (with_reducible show Calls _ _ _ V4 _); refine (HC5.out _ _ HS4.out).mono ?_; rintro e V5 ⟨rfl, h1⟩; have HS5 := mk_ h1; clear h1)
  | (go_at_call 74; (with_reducible show Calls _ _ _ V5 _); refine (HC6.out _ _ HS5.out).mono ?_; rintro e V6 ⟨rfl, h1⟩; have HS6 := mk_ h1; clear h1)
  | (go_at_call 70; (with_reducible show Calls _ _ _ V6 _); refine (HC7.out _ _ HS6.out).mono ?_; rintro e V7 ⟨rfl, h1⟩; have HS7 := mk_ h1; clear h1)
  | ((with_reducible refine fH (ty := 31) (x := .tmp 3) (y := .tmp 21) rfl ?_); refine wpList_store_row rfl 31 (.tmp 3) (.tmp 21) rfl V7.heap.size #[.int .i64 d_.f0, .int .i64 d_.f1, .slice A3 l3.length c3, .int .i64 t_.f0, .int .i64 t_.f1, .int .i64 t_.f2, .int .i64 n1, .int .i64 n5, .string s6, .int .i64 n7, .slice none 0 0, .slice none 0 0] rfl rfl 31 #[.int .i64 0, .int .i64 0, .slice none 0 0, .int .i64 0, .int .i64 0, .int .i64 0, .int .i64 0, .int .i64 0, .string ⟨#[]⟩, .int .i64 0, .slice none 0 0, .slice none 0 0] (HS7.out.box (.cells #[.int .i64 0, .int .i64 0, .slice none 0 0, .int .i64 0, .int .i64 0, .int .i64 0, .int .i64 0, .int .i64 0, .string ⟨#[]⟩, .int .i64 0, .slice none 0 0, .slice none 0 0] 31 (0, 0))).blk z2_ rfl (by first | decide | rfl | simp [Value.oneCell']) ?_; have HSx := mk_ (cG (HS7.out.box (.cells #[.int .i64 0, .int .i64 0, .slice none 0 0, .int .i64 0, .int .i64 0, .int .i64 0, .int .i64 0, .int .i64 0, .string ⟨#[]⟩, .int .i64 0, .slice none 0 0, .slice none 0 0] 31 (0, 0))) #[.int .i64 d_.f0, .int .i64 d_.f1, .slice A3 l3.length c3, .int .i64 t_.f0, .int .i64 t_.f1, .int .i64 t_.f2, .int .i64 n1, .int .i64 n5, .string s6, .int .i64 n7, .slice none 0 0, .slice none 0 0]); have kr0 := aD HSx.out.s1.blk 0; have kr1 := aD HSx.out.s1.blk 1))
  have hSd := HSx.out.drew
  clear kr0 kr1
  refine jO (n := 16) (S := fun w' => w'.cell? ⟨g, 0, none⟩ = some (.slice A l.length c) ∧ w'.cell? ⟨g, 1, none⟩ = some (.int .i64 at7) ∧ True) (ds := []) (fun W => Sp W (Blk V7.heap.size (.cells #[.int .i64 d_.f0, .int .i64 d_.f1, .slice A3 l3.length c3, .int .i64 t_.f0, .int .i64 t_.f1, .int .i64 t_.f2, .int .i64 n1, .int .i64 n5, .string s6, .int .i64 n7, .slice none 0 0, .slice none 0 0] 31 (0, 0)) :: RdP g A l.length c (at7, true) :: Old w0 :: Row (Kd.int .i64) 3 (.slice A3 l3.length c3) l3 :: Blk w.heap.size (.cells #[.int .i64 0, .int .i64 0, .slice none 0 0, .int .i64 0, .int .i64 0, .int .i64 0, .int .i64 0, .int .i64 0, .string ⟨#[]⟩, .int .i64 0, .slice none 0 0, .slice none 0 0] 31 (0, 0)) :: F)) (Steps.Bs 16 0) z2_ rfl rfl hSd (fun W hJ => ⟨aD hJ.s1.blk 0, aD hJ.s1.blk 1, trivial⟩) (fun W0 hJ => ?_)
  clear hSd HSx
  have hHeld : W0.cell? ⟨g, 0, none⟩ = some (.slice A l.length c) ∧ W0.cell? ⟨g, 1, none⟩ = some (.int .i64 at7) ∧ True := ⟨aD hJ.s1.blk 0, aD hJ.s1.blk 1, trivial⟩
  refine sI 0 23 16 1 ?_
  refine sI 1 24 16 3 ?_
  refine sI 2 25 16 7 ?_
  refine sI 4 27 16 23 ?_
  refine sI 5 28 16 55 ?_
  refine sI 6 29 16 119 ?_
  refine sT hHeld 3 26 16 127 ?_
  refine sT hHeld 7 30 16 255 ?_
  refine one_ (i := 8) (N := some 31) (Steps.Bs 16 511) rfl rfl z2_ z5_ (fun K hK => ?_)
  refine goes_ Tryz.func75 z2_ rfl #[.slice A l.length c, .int .i64 at7] (by rfl) rfl rfl (by (try simp only [List.map_toArray, List.map_cons, List.map_nil]); first | done | rfl) ?_
  refine (PAll.row_Read.calls 80 A c l at7 vals nx e_ _ (HCL.out _ hJ.s2.old) HLC.out HG.out).mono ?_
  rintro e V8 ⟨v7_, rfl, hr_, hq_⟩
  obtain ⟨A7, c7, rfl⟩ := cU hr_
  refine ⟨_, rfl, ?_⟩
  have HS8 := mk_ (Sp.made hJ hq_ hr_)
  clear hr_ hq_ hJ hHeld
  refine hK.out _ _ ⟨aD HS8.out.s2.blk 0, aD HS8.out.s2.blk 1, trivial⟩ (fun _ => ?_)
  clear hK K
  refine nrm 31 ?_
  refine sI 9 22 16 1023 ?_
  refine sI 10 32 16 2047 ?_
  refine sI 11 33 16 4095 ?_
  refine sI 12 34 16 8191 ?_
  refine sI 13 4 16 16383 ?_
  refine sI 14 5 16 32767 ?_
  refine sI 15 6 16 65535 ?_
  refine done_ z2_ ?_
  have ks := aD HS8.out.s2.blk
  have fs := aX HS8.out.s2.blk
  have kx := aD HS8.out.s1.blk
  have fx := aX HS8.out.s1.blk
  go_wp2_with (first
  | ((with_reducible refine fH (ty := 31) (x := .tmp 2) (y := .tmp 46) rfl ?_); have HSA := mk_ (HS8.out.s2.store 2 (.bool true)); refine wpList_store_row rfl 31 (.tmp 2) (.tmp 46) rfl w.heap.size #[.int .i64 0, .int .i64 0, .slice none 0 0, .int .i64 0, .int .i64 0, .int .i64 0, .int .i64 0, .int .i64 0, .string ⟨#[]⟩, .int .i64 0, .slice none 0 0, .slice none 0 0] rfl rfl 31 #[.int .i64 0, .int .i64 0, .slice none 0 0, .int .i64 0, .int .i64 0, .int .i64 0, .int .i64 0, .int .i64 0, .string ⟨#[]⟩, .int .i64 0, .slice none 0 0, .slice none 0 0] HSA.out.s5.blk z2_ rfl (by first | decide | rfl | simp [Value.oneCell']) ?_))
  refine bodyPost_ret (results_cell_row rfl _ _ w.heap.size 31 #[.int .i64 0, .int .i64 0, .slice none 0 0, .int .i64 0, .int .i64 0, .int .i64 0, .int .i64 0, .int .i64 0, .string ⟨#[]⟩, .int .i64 0, .slice none 0 0, .slice none 0 0] (0, 0) _ rfl (cG HSA.out.s5 _).blk Tryz.underlying31 rfl z2_) rfl ?_
  exact ⟨_, _, _, rfl, fL (fL (fL (((cG HSA.out.s5 #[.int .i64 0, .int .i64 0, .slice none 0 0, .int .i64 0, .int .i64 0, .int .i64 0, .int .i64 0, .int .i64 0, .string ⟨#[]⟩, .int .i64 0, .slice none 0 0, .slice none 0 0]).tail.s1.tail.s1.tail.s2.tail : Sp _ (RdP g A l.length c (at7, true) :: Old w0 :: F)))))⟩
 | false =>
  by_cases he : e_ = 0
  rotate_left
  ·
   have hz : rOp l r = (zOp, (at7, true)) := by rw [hu]; unfold rOf; simp [he]
   have hb0 : (e_ == 0) = false := beq_eq_false_iff_ne.2 he
   have hb1 : (e_ != 0) = true := bne_iff_ne.2 he
   have hb2 : decide (e_ = 0) = false := decide_eq_false he
   rw [hz]
   clear hu hz pr he
   go_enter Tryz.func44, Tryz.ntmps44
   go_wp2_with (first
  | (go_at_call 70; (with_reducible show Calls _ _ _ (World.alloc w _) _); refine (HC1.out _ _ HS0.out).mono ?_; rintro e V1 ⟨rfl, h1⟩; have HS1 := mk_ h1; clear h1)
  | (go_at_call 71; (with_reducible show Calls _ _ _ V1 _); refine (HC2.out _ _ HS1.out).mono ?_; rintro e V2 ⟨rfl, h1⟩; have HS2 := mk_ h1; clear h1)
  | (go_at_call 72; (with_reducible show Calls _ _ _ V2 _); refine (HC3.out _ _ HS2.out).mono ?_; rintro e V3 ⟨v3, rfl, h1⟩; obtain ⟨A3, c3, rfl, _, _⟩ := h1.row; have HS3 := mk_ h1.s1.s2.s1; clear h1)
  | (go_at_call 73; (with_reducible show Calls _ _ _ V3 _); refine (HC4.out _ _ HS3.out).mono ?_; rintro e V4 ⟨rfl, h1⟩; have HS4 := mk_ h1; clear h1)
  | (go_at_call 70; (with_reducible show Calls _ _ _ V4 _); refine (HC5.out _ _ HS4.out).mono ?_; rintro e V5 ⟨rfl, h1⟩; have HS5 := mk_ h1; clear h1)
  | (go_at_call 74; (with_reducible show Calls _ _ _ V5 _); refine (HC6.out _ _ HS5.out).mono ?_; rintro e V6 ⟨rfl, h1⟩; have HS6 := mk_ h1; clear h1)
  | (go_at_call 70; (with_reducible show Calls _ _ _ V6 _); refine (HC7.out _ _ HS6.out).mono ?_; rintro e V7 ⟨rfl, h1⟩; have HS7 := mk_ h1; clear h1)
  | ((with_reducible refine fH (ty := 31) (x := .tmp 3) (y := .tmp 21) rfl ?_); refine wpList_store_row rfl 31 (.tmp 3) (.tmp 21) rfl V7.heap.size #[.int .i64 d_.f0, .int .i64 d_.f1, .slice A3 l3.length c3, .int .i64 t_.f0, .int .i64 t_.f1, .int .i64 t_.f2, .int .i64 n1, .int .i64 n5, .string s6, .int .i64 n7, .slice none 0 0, .slice none 0 0] rfl rfl 31 #[.int .i64 0, .int .i64 0, .slice none 0 0, .int .i64 0, .int .i64 0, .int .i64 0, .int .i64 0, .int .i64 0, .string ⟨#[]⟩, .int .i64 0, .slice none 0 0, .slice none 0 0] (HS7.out.box (.cells #[.int .i64 0, .int .i64 0, .slice none 0 0, .int .i64 0, .int .i64 0, .int .i64 0, .int .i64 0, .int .i64 0, .string ⟨#[]⟩, .int .i64 0, .slice none 0 0, .slice none 0 0] 31 (0, 0))).blk z2_ rfl (by first | decide | rfl | simp [Value.oneCell']) ?_; have HSx := mk_ (cG (HS7.out.box (.cells #[.int .i64 0, .int .i64 0, .slice none 0 0, .int .i64 0, .int .i64 0, .int .i64 0, .int .i64 0, .int .i64 0, .string ⟨#[]⟩, .int .i64 0, .slice none 0 0, .slice none 0 0] 31 (0, 0))) #[.int .i64 d_.f0, .int .i64 d_.f1, .slice A3 l3.length c3, .int .i64 t_.f0, .int .i64 t_.f1, .int .i64 t_.f2, .int .i64 n1, .int .i64 n5, .string s6, .int .i64 n7, .slice none 0 0, .slice none 0 0]); have kr0 := aD HSx.out.s1.blk 0; have kr1 := aD HSx.out.s1.blk 1))
   have hSd := HSx.out.drew
   clear kr0 kr1
   refine jO (n := 16) (S := fun w' => w'.cell? ⟨g, 0, none⟩ = some (.slice A l.length c) ∧ w'.cell? ⟨g, 1, none⟩ = some (.int .i64 at7) ∧ True) (ds := []) (fun W => Sp W (Blk V7.heap.size (.cells #[.int .i64 d_.f0, .int .i64 d_.f1, .slice A3 l3.length c3, .int .i64 t_.f0, .int .i64 t_.f1, .int .i64 t_.f2, .int .i64 n1, .int .i64 n5, .string s6, .int .i64 n7, .slice none 0 0, .slice none 0 0] 31 (0, 0)) :: RdP g A l.length c (at7, false) :: Old w0 :: Row (Kd.int .i64) 3 (.slice A3 l3.length c3) l3 :: Blk w.heap.size (.cells #[.int .i64 0, .int .i64 0, .slice none 0 0, .int .i64 0, .int .i64 0, .int .i64 0, .int .i64 0, .int .i64 0, .string ⟨#[]⟩, .int .i64 0, .slice none 0 0, .slice none 0 0] 31 (0, 0)) :: F)) (Steps.Bs 16 0) z2_ rfl rfl hSd (fun W hJ => ⟨aD hJ.s1.blk 0, aD hJ.s1.blk 1, trivial⟩) (fun W0 hJ => ?_)
   clear hSd HSx
   have hHeld : W0.cell? ⟨g, 0, none⟩ = some (.slice A l.length c) ∧ W0.cell? ⟨g, 1, none⟩ = some (.int .i64 at7) ∧ True := ⟨aD hJ.s1.blk 0, aD hJ.s1.blk 1, trivial⟩
   refine sI 0 23 16 1 ?_
   refine sI 1 24 16 3 ?_
   refine sI 2 25 16 7 ?_
   refine sI 4 27 16 23 ?_
   refine sI 5 28 16 55 ?_
   refine sI 6 29 16 119 ?_
   refine sT hHeld 3 26 16 127 ?_
   refine sT hHeld 7 30 16 255 ?_
   refine one_ (i := 8) (N := some 31) (Steps.Bs 16 511) rfl rfl z2_ z5_ (fun K hK => ?_)
   refine goes_ Tryz.func75 z2_ rfl #[.slice A l.length c, .int .i64 at7] (by rfl) rfl rfl (by (try simp only [List.map_toArray, List.map_cons, List.map_nil]); first | done | rfl) ?_
   refine (PAll.row_Read.calls 80 A c l at7 vals nx e_ _ (HCL.out _ hJ.s2.old) HLC.out HG.out).mono ?_
   rintro e V8 ⟨v7_, rfl, hr_, hq_⟩
   obtain ⟨A7, c7, rfl⟩ := cU hr_
   refine ⟨_, rfl, ?_⟩
   have HS8 := mk_ (Sp.made hJ hq_ hr_)
   clear hr_ hq_ hJ hHeld
   refine hK.out _ _ ⟨aD HS8.out.s2.blk 0, aD HS8.out.s2.blk 1, trivial⟩ (fun _ => ?_)
   clear hK K
   refine nrm 31 ?_
   refine sI 9 22 16 1023 ?_
   refine sI 10 32 16 2047 ?_
   refine sI 11 33 16 4095 ?_
   refine sI 12 34 16 8191 ?_
   refine sI 13 4 16 16383 ?_
   refine sI 14 5 16 32767 ?_
   refine sI 15 6 16 65535 ?_
   refine done_ z2_ ?_
   have ks := aD HS8.out.s2.blk
   have fs := aX HS8.out.s2.blk
   have kx := aD HS8.out.s1.blk
   have fx := aX HS8.out.s1.blk
   go_wp2_with (first
  | ((with_reducible refine fH (ty := 31) (x := .tmp 2) (y := .tmp 46) rfl ?_); have HSA := mk_ (HS8.out.s2.store 2 (.bool true)); refine wpList_store_row rfl 31 (.tmp 2) (.tmp 46) rfl w.heap.size #[.int .i64 0, .int .i64 0, .slice none 0 0, .int .i64 0, .int .i64 0, .int .i64 0, .int .i64 0, .int .i64 0, .string ⟨#[]⟩, .int .i64 0, .slice none 0 0, .slice none 0 0] rfl rfl 31 #[.int .i64 0, .int .i64 0, .slice none 0 0, .int .i64 0, .int .i64 0, .int .i64 0, .int .i64 0, .int .i64 0, .string ⟨#[]⟩, .int .i64 0, .slice none 0 0, .slice none 0 0] HSA.out.s5.blk z2_ rfl (by first | decide | rfl | simp [Value.oneCell']) ?_))
   refine bodyPost_ret (results_cell_row rfl _ _ w.heap.size 31 #[.int .i64 0, .int .i64 0, .slice none 0 0, .int .i64 0, .int .i64 0, .int .i64 0, .int .i64 0, .int .i64 0, .string ⟨#[]⟩, .int .i64 0, .slice none 0 0, .slice none 0 0] (0, 0) _ rfl (cG HSA.out.s5 _).blk Tryz.underlying31 rfl z2_) rfl ?_
   exact ⟨_, _, _, rfl, fL (fL (fL (((cG HSA.out.s5 #[.int .i64 0, .int .i64 0, .slice none 0 0, .int .i64 0, .int .i64 0, .int .i64 0, .int .i64 0, .int .i64 0, .string ⟨#[]⟩, .int .i64 0, .slice none 0 0, .slice none 0 0]).tail.s1.tail.s1.tail.s2.tail : Sp _ (RdP g A l.length c (at7, true) :: Old w0 :: F)))))⟩
  ·
   subst he
   have hz : rOf ([] : List V) (vals, nx, 0) (at7, false) = (vals, (nx, false)) := by unfold rOf; simp
   rw [hz] at hu pr
   rw [if_neg (by show ¬ (false = true); decide)] at hu
   rw [hu]
   dsimp only at pr ⊢
   clear hu hz
   have hq : rDots l (nx, false) = rTimes rDot l (rMany 1 64 l (nx, false)).1.toNat [] (rMany 1 64 l (nx, false)).2 := rfl
   have pm := HPM.out (nx, false) pr
   have HQ := mk_ (fun V F' hv => HCM.out V F' (nx, false) pr hv)
   have hle : (rMany 1 64 l (nx, false)).1 ≤ 64 := by unfold rMany; split <;> omega
   rw [hq]
   clear hq pr
   generalize rMany 1 64 l (nx, false) = q9 at *
   obtain ⟨m, r9⟩ := q9
   dsimp only at HQ pm hle ⊢
   have HLE := mk_ hle
   have HT : Aside0 (∀ i, rAt l (rTimes rDot l i [] r9).2) := ⟨fun i => rAt_times (fun r h => HPD.out r h) i [] _ pm⟩
   clear hle pm HPM HPD HCM
   go_enter Tryz.func44, Tryz.ntmps44
   go_wp2_with (first
  | (go_at_call 70; (with_reducible show Calls _ _ _ (World.alloc w _) _); refine (HC1.out _ _ HS0.out).mono ?_; rintro e V1 ⟨rfl, h1⟩; have HS1 := mk_ h1; clear h1)
  | (go_at_call 71; (with_reducible show Calls _ _ _ V1 _); refine (HC2.out _ _ HS1.out).mono ?_; rintro e V2 ⟨rfl, h1⟩; have HS2 := mk_ h1; clear h1)
  | (go_at_call 72; (with_reducible show Calls _ _ _ V2 _); refine (HC3.out _ _ HS2.out).mono ?_; rintro e V3 ⟨v3, rfl, h1⟩; obtain ⟨A3, c3, rfl, _, _⟩ := h1.row; have HS3 := mk_ h1.s1.s2.s1; clear h1)
  | (go_at_call 73; (with_reducible show Calls _ _ _ V3 _); refine (HC4.out _ _ HS3.out).mono ?_; rintro e V4 ⟨rfl, h1⟩; have HS4 := mk_ h1; clear h1)
  | (go_at_call 70; (with_reducible show Calls _ _ _ V4 _); refine (HC5.out _ _ HS4.out).mono ?_; rintro e V5 ⟨rfl, h1⟩; have HS5 := mk_ h1; clear h1)
  | (go_at_call 74; (with_reducible show Calls _ _ _ V5 _); refine (HC6.out _ _ HS5.out).mono ?_; rintro e V6 ⟨rfl, h1⟩; have HS6 := mk_ h1; clear h1)
  | (go_at_call 70; (with_reducible show Calls _ _ _ V6 _); refine (HC7.out _ _ HS6.out).mono ?_; rintro e V7 ⟨rfl, h1⟩; have HS7 := mk_ h1; clear h1)
  | ((with_reducible refine fH (ty := 31) (x := .tmp 3) (y := .tmp 21) rfl ?_); refine wpList_store_row rfl 31 (.tmp 3) (.tmp 21) rfl V7.heap.size #[.int .i64 d_.f0, .int .i64 d_.f1, .slice A3 l3.length c3, .int .i64 t_.f0, .int .i64 t_.f1, .int .i64 t_.f2, .int .i64 n1, .int .i64 n5, .string s6, .int .i64 n7, .slice none 0 0, .slice none 0 0] rfl rfl 31 #[.int .i64 0, .int .i64 0, .slice none 0 0, .int .i64 0, .int .i64 0, .int .i64 0, .int .i64 0, .int .i64 0, .string ⟨#[]⟩, .int .i64 0, .slice none 0 0, .slice none 0 0] (HS7.out.box (.cells #[.int .i64 0, .int .i64 0, .slice none 0 0, .int .i64 0, .int .i64 0, .int .i64 0, .int .i64 0, .int .i64 0, .string ⟨#[]⟩, .int .i64 0, .slice none 0 0, .slice none 0 0] 31 (0, 0))).blk z2_ rfl (by first | decide | rfl | simp [Value.oneCell']) ?_; have HSx := mk_ (cG (HS7.out.box (.cells #[.int .i64 0, .int .i64 0, .slice none 0 0, .int .i64 0, .int .i64 0, .int .i64 0, .int .i64 0, .int .i64 0, .string ⟨#[]⟩, .int .i64 0, .slice none 0 0, .slice none 0 0] 31 (0, 0))) #[.int .i64 d_.f0, .int .i64 d_.f1, .slice A3 l3.length c3, .int .i64 t_.f0, .int .i64 t_.f1, .int .i64 t_.f2, .int .i64 n1, .int .i64 n5, .string s6, .int .i64 n7, .slice none 0 0, .slice none 0 0]); have kr0 := aD HSx.out.s1.blk 0; have kr1 := aD HSx.out.s1.blk 1))
   have hSd := HSx.out.drew
   clear kr0 kr1
   refine jO (n := 16) (S := fun w' => w'.cell? ⟨g, 0, none⟩ = some (.slice A l.length c) ∧ w'.cell? ⟨g, 1, none⟩ = some (.int .i64 at7) ∧ True) (ds := []) (fun W => Sp W (Blk V7.heap.size (.cells #[.int .i64 d_.f0, .int .i64 d_.f1, .slice A3 l3.length c3, .int .i64 t_.f0, .int .i64 t_.f1, .int .i64 t_.f2, .int .i64 n1, .int .i64 n5, .string s6, .int .i64 n7, .slice none 0 0, .slice none 0 0] 31 (0, 0)) :: RdP g A l.length c (at7, false) :: Old w0 :: Row (Kd.int .i64) 3 (.slice A3 l3.length c3) l3 :: Blk w.heap.size (.cells #[.int .i64 0, .int .i64 0, .slice none 0 0, .int .i64 0, .int .i64 0, .int .i64 0, .int .i64 0, .int .i64 0, .string ⟨#[]⟩, .int .i64 0, .slice none 0 0, .slice none 0 0] 31 (0, 0)) :: F)) (Steps.Bs 16 0) z2_ rfl rfl hSd (fun W hJ => ⟨aD hJ.s1.blk 0, aD hJ.s1.blk 1, trivial⟩) (fun W0 hJ => ?_)
   clear hSd HSx
   have hHeld : W0.cell? ⟨g, 0, none⟩ = some (.slice A l.length c) ∧ W0.cell? ⟨g, 1, none⟩ = some (.int .i64 at7) ∧ True := ⟨aD hJ.s1.blk 0, aD hJ.s1.blk 1, trivial⟩
   refine sI 0 23 16 1 ?_
   refine sI 1 24 16 3 ?_
   refine sI 2 25 16 7 ?_
   refine sI 4 27 16 23 ?_
   refine sI 5 28 16 55 ?_
   refine sI 6 29 16 119 ?_
   refine sT hHeld 3 26 16 127 ?_
   refine sT hHeld 7 30 16 255 ?_
   refine one_ (i := 8) (N := some 31) (Steps.Bs 16 511) rfl rfl z2_ z5_ (fun K hK => ?_)
   refine goes_ Tryz.func75 z2_ rfl #[.slice A l.length c, .int .i64 at7] (by rfl) rfl rfl (by (try simp only [List.map_toArray, List.map_cons, List.map_nil]); first | done | rfl) ?_
   refine (PAll.row_Read.calls 80 A c l at7 vals nx 0 _ (HCL.out _ hJ.s2.old) HLC.out HG.out).mono ?_
   rintro e V8 ⟨v7_, rfl, hr_, hq_⟩
   obtain ⟨A7, c7, rfl⟩ := cU hr_
   refine ⟨_, rfl, ?_⟩
   have HS8 := mk_ (Sp.made hJ hq_ hr_)
   clear hr_ hq_ hJ hHeld
   refine hK.out _ _ ⟨aD HS8.out.s2.blk 0, aD HS8.out.s2.blk 1, trivial⟩ (fun _ => ?_)
   clear hK K
   refine nrm 31 ?_
   refine sI 9 22 16 1023 ?_
   refine sI 10 32 16 2047 ?_
   refine sI 11 33 16 4095 ?_
   refine sI 12 34 16 8191 ?_
   refine sI 13 4 16 16383 ?_
   refine sI 14 5 16 32767 ?_
   refine sI 15 6 16 65535 ?_
   refine done_ z2_ ?_
   have ks := aD HS8.out.s2.blk
   have fs := aX HS8.out.s2.blk
   have kx := aD HS8.out.s1.blk
   have fx := aX HS8.out.s1.blk
   go_wp2_with (first
  | (go_at_call 76; refine (HQ.out _ _ (((HS8.out.s1.store 10 (.slice A7 vals.length c7)).s2.store 1 (.int .i64 nx)).s3.s1)).mono ?_; rintro e V9 ⟨rfl, h1⟩; have HS9 := mk_ h1; clear h1))
   go_loopg [55] (m.toNat + 1) (fun kq v55 W' => ∃ (i : Nat) (v8 : Value), v55 = .int .i64 (i : Int) ∧ Aside0 (Sp W' (Row k24 24 v8 (rTimes rDot l i [] r9).1 :: RdP g A l.length c (rTimes rDot l i [] r9).2 :: Old w0 :: Blk V7.heap.size (.cells #[.int .i64 d_.f0, .int .i64 d_.f1, .slice A3 l3.length c3, .int .i64 t_.f0, .int .i64 t_.f1, .int .i64 t_.f2, .int .i64 n1, .int .i64 n5, .string s6, .int .i64 n7, .slice A7 vals.length c7, v8] 31 (0, 0)) :: Row k102 102 (.slice A7 vals.length c7) vals :: Row (Kd.int .i64) 3 (.slice A3 l3.length c3) l3 :: Blk w.heap.size (.cells #[.int .i64 0, .int .i64 0, .slice none 0 0, .int .i64 0, .int .i64 0, .int .i64 0, .int .i64 0, .int .i64 0, .string ⟨#[]⟩, .int .i64 0, .slice none 0 0, .slice none 0 0] 31 (0, 0)) :: F)) ∧ Aside0 (kq + i = m.toNat + 1 ∧ i ≤ m.toNat))
   case atStart => exact ⟨0, .slice none 0 0, rfl, ⟨fL HS9.out⟩, ⟨by omega⟩⟩
   case round =>
    obtain ⟨i, v8, rfl, HA, HK⟩ := hrel
    obtain ⟨k1, rfl⟩ : ∃ k1, gk = k1 + 1 := ⟨gk - 1, by have := HK.out; omega⟩
    by_cases hi : (i : Int) < m
    ·
     have hb2 : decide ((i : Int) < m) = true := decide_eq_true hi
     have HI := mk_ hi
     have HX := mk_ (jH rDot l i [] r9)
     have HTi := mk_ (HT.out i)
     have HTL : Aside0 ((rTimes rDot l i [] r9).1.length = i) := ⟨by rw [times_len]; simp⟩
     clear hi HT
     generalize rTimes rDot l i [] r9 = tt at *
     obtain ⟨xs, ri⟩ := tt
     dsimp only at HA HX HTi HTL
     have HQD := mk_ (fun V F' hv => HCD.out V F' ri HTi.out hv)
     clear HCD
     generalize rDot l ri = qd at *
     obtain ⟨p, rj⟩ := qd
     dsimp only at HQD HX
     obtain ⟨A8, c8, rfl, _, _⟩ := HA.out.row
     have k11 := aD HA.out.s3.blk 11
     have hSd := HA.out.drew
     go_wp2
     refine fM (n := 8) (S := fun w' => w'.cell? ⟨V7.heap.size, 11, none⟩ = some (.slice A8 xs.length c8) ∧ True) (ds := [7]) (Steps.Bs 8 0) z2_ rfl rfl ⟨k11, trivial⟩ (fun hHeld => ?_)
     generalize World.drew _ = W at hSd hHeld ⊢
     clear k11 HA
     refine sI 0 57 8 1 ?_
     refine sI 2 59 8 5 ?_
     refine sT hHeld 1 58 8 7 ?_
     refine one_ (i := 3) (N := some 60) (Steps.Bs 8 15) rfl rfl z2_ z5_ (fun K hK => ?_)
     refine goes_ Tryz.func71 z2_ rfl #[.pointer (some ⟨g, 0, none⟩)] (by rfl) rfl rfl (by (try simp only [List.map_toArray, List.map_cons, List.map_nil]); first | done | rfl) ?_
     refine (HQD.out _ _ hSd.s1.s2.s1).mono ?_
     rintro e W2 ⟨rfl, h1⟩
     refine ⟨_, rfl, ?_⟩
     have hHeld1 : W2.cell? ⟨V7.heap.size, 11, none⟩ = some (.slice A8 xs.length c8) := aD h1.s3.blk 11
     have HS3 := mk_ (Sp.s1 (sp_el (d := k24) (p := p) (cs := [.int .i64 p.f0, .int .i64 p.f1]) (fun W ok => k24_mkM W 0 ok p) h1.s2))
     clear hHeld hSd h1
     refine hK.out _ _ ⟨hHeld1, trivial⟩ (fun _ => ?_)
     clear hK K
     refine nrm 60 ?_
     refine one_ (i := 4) (N := some 61) (Steps.Bs 8 31) rfl rfl z2_ z5_ (fun K hK => ?_)
     refine value_ (w1 := ?_) (v := ?_) (by rfl) rfl ?_ ?_
     rotate_left 2
     ·
      go_simp
      constructor
      ·
       rfl
      ·
       rfl
     refine hK.out _ _ ⟨(Below.cell (dP (Below.refl _ _) _) (World.block_lt_of_cell? W2 _ hHeld1)).trans hHeld1, trivial⟩ (fun _ => ?_)
     clear hK K
     refine nrm 61 ?_
     refine one_ (i := 5) (N := some 62) (Steps.Bs 8 63) rfl rfl z2_ z5_ (fun K hK => ?_)
     refine Sp.append_step k24 (W := W2) (by rfl) (.tmp 58) (.tmp 61) 29 24 (.agg #[.int .i64 0, .int .i64 0]) 16 rfl Tryz.underlying29 z2_ rfl z5_ z3_ (.slice A8 xs.length c8) xs p [.int .i64 p.f0, .int .i64 p.f1] rfl rfl HS3.out (by have := HTL.out; have := HI.out; have := HLE.out; omega) ?_
     intro v9 w1 hS4
     have HS4 := mk_ hS4
     have hg1 := hS4.s3.blk
     obtain ⟨A9, c9, rfl, _, _⟩ := hS4.row
     clear hS4
     refine hK.out _ _ ⟨aD hg1 11, trivial⟩ (fun _ => ?_)
     clear hK K
     refine nrm 62 ?_
     refine sI 6 63 8 127 ?_
     refine last_ (i := 7) (N := none) (Steps.Bs 8 255) rfl rfl z2_ z5_ (fun K hK => ?_)
     have hc0 := aD hg1 11
     have hf0 := aX hg1 11
     refine skip_ (w1 := ?_) (by rfl) rfl ?_ ?_
     rotate_left
     ·
      go_simp
      rfl
     refine hK.out _ _ ?_
     clear hK K
     refine done_ z2_ ?_
     have h5 := (HS4.out.s3.store 11 (.slice A9 (xs ++ [p]).length c9)).s3.s3.s3
     rw [show (xs ++ [p]).length = xs.length + 1 by simp] at h5
     have HS5 := mk_ h5
     clear h5
     clear hc0 hf0 hg1 HS3 HS4 hHeld1
     go_wp2
     go_roundg k1
     case measure => exact Nat.lt_succ_self _
     case rel => exact ⟨i + 1, .slice A9 (xs.length + 1) c9, by rw [w64 z3_ (by have := HI.out; have := HLE.out; omega)]; rfl, ⟨by rw [HX.out]; exact HS5.out⟩, ⟨by have := HK.out; omega, by have := HI.out; omega⟩⟩
    ·
     have hb2 : decide ((i : Int) < m) = false := decide_eq_false hi
     have hie : i = m.toNat := by have := HK.out; omega
     clear hi
     obtain ⟨A8, c8, rfl, _, _⟩ := HA.out.row
     have kx := aD HA.out.s3.blk
     subst hie
     go_wp2_with ((with_reducible refine fH (ty := 31) (x := .tmp 2) (y := .tmp 65) rfl ?_); refine wpList_store_row rfl 31 (.tmp 2) (.tmp 65) rfl w.heap.size #[.int .i64 d_.f0, .int .i64 d_.f1, .slice A3 l3.length c3, .int .i64 t_.f0, .int .i64 t_.f1, .int .i64 t_.f2, .int .i64 n1, .int .i64 n5, .string s6, .int .i64 n7, .slice A7 vals.length c7, .slice A8 (rTimes rDot l m.toNat [] r9).1.length c8] rfl rfl 31 #[.int .i64 0, .int .i64 0, .slice none 0 0, .int .i64 0, .int .i64 0, .int .i64 0, .int .i64 0, .int .i64 0, .string ⟨#[]⟩, .int .i64 0, .slice none 0 0, .slice none 0 0] (HA.out.s3.tail.s5.blk) z2_ rfl (by first | decide | rfl | simp [Value.oneCell']) ?_)
     refine bodyPost_ret (results_cell_row rfl _ _ w.heap.size 31 #[.int .i64 d_.f0, .int .i64 d_.f1, .slice A3 l3.length c3, .int .i64 t_.f0, .int .i64 t_.f1, .int .i64 t_.f2, .int .i64 n1, .int .i64 n5, .string s6, .int .i64 n7, .slice A7 vals.length c7, .slice A8 (rTimes rDot l m.toNat [] r9).1.length c8] (0, 0) _ rfl (cG HA.out.s3.tail.s5 _).blk Tryz.underlying31 rfl z2_) rfl ?_
     exact ⟨_, _, _, rfl, (cG HA.out.s3.tail.s5 #[.int .i64 d_.f0, .int .i64 d_.f1, .slice A3 l3.length c3, .int .i64 t_.f0, .int .i64 t_.f1, .int .i64 t_.f2, .int .i64 n1, .int .i64 n5, .string s6, .int .i64 n7, .slice A7 vals.length c7, .slice A8 (rTimes rDot l m.toNat [] r9).1.length c8]).tail.s3.s4⟩
end
end Go.Proofs.YtjnjfogfpmeacaaGreat.Ops
end
section
namespace Go.Proofs.YtjnjfogfpmeacaaGreat.Ops
open Go.RowKit PAll Plain PrintWords PrintLast PrintMore Go.Proofs.YtjnjfogfpmeacaaGreat.Sep ZipT PrintWords.Kd PrintMore.Kd
set_option linter.unusedVariables false
set_option linter.unusedSimpArgs false
theorem Sp.frame {w w' : World} {F X : List Part} (h : Sp w F) (h' : Sp w' (X ++ [Old w])) : Sp w' (X ++ F) := by
 obtain ⟨ok, h1, h2, ok2, h3, h4, _⟩ := Sep.split h'
 refine Sep.app h2 (Sep.moved (Moved.of_below h4.2 (fun _ => False)) h (fun _ _ _ e => e)) h1 (fun k hk => Nat.lt_of_lt_of_le hk h4.2.size) (fun k hk hw => ?_)
 exact (h3 k (h4.1 k hw)).2 hk
theorem Sp.rowOut {α : Type} {d : Kd α} {e : Nat} {v : Value} {xs : List α} {w w' : World} {F : List Part} (hM : ∀ {b b' : Nat} {ok ok' : Nat → Prop} {x : α} {cs : List Value}, d.M w' b ok x cs → d.M w' b' ok' x cs) (h : Sp w' (Row d e v xs :: Old w :: F)) :
  d.R e w' w.heap.size (fun _ => True) v xs := by
 obtain ⟨ok, h1, ⟨h0, inner, ⟨hl, ho⟩, hr⟩, ok2, h3, h4, _⟩ := h
 refine ⟨fun _ _ => trivial, inner, ⟨hl, ?_⟩, hr.imp_ (fun _ _ hp => hM hp)⟩
 rcases ho with h | ⟨g, cap, cur, rfl, _, hg, rest⟩
 ·
  exact .inl h
 ·
  refine .inr ⟨g, cap, cur, rfl, ?_, hg, rest⟩
  rcases Nat.lt_or_ge g w.heap.size with hlt | hge
  ·
   exact absurd (h0 g rfl) (h3 g (h4.1 g hlt)).2
  ·
   exact hge
section
variable {P : Program} {ops : Array Oper} {o : Oper} {a : Act} {Q : Exit → Act → World → Prop} {Kc : Act → World → Prop}
theorem store_row_step {W : World} (hw : Region.wanted o (yielded ops a.tmps) = true) (ty : TypeId) (x y : Operand) (ho : o.op = .store ty x y)
  (g : Nat) (cells : Array Value) (hx : a.eval x = .pointer (some ⟨g, 0, none⟩)) (hy : a.eval y = .agg cells)
  (t : TypeId) (old : Array Value) (hg : W.heap[g]? = some (.cells old t (0, 0))) (hi : (P.info? ty).map (·.size) = some cells.size)
  (hold : old.size = cells.size) (h1 : cells.all (·.oneCell') = true) (h : Kc (a.put o.dst undef) (W.setRow g cells)) :
  if Region.wanted o (yielded ops a.tmps) = true then Oper.wp P o a W Kc Q else Kc (a.put o.dst undef) W := by
 rw [if_pos hw]
 exact wp_store_row ty x y ho g cells hx hy t old hg hi hold h1 h
end
section
variable {w : World} {A : Option Addr} {c : Nat} {l : List Int}
theorem read_sp (hC0 : Kd.C (Kd.int .u8) w A l.length l) (hlc : l.length ≤ c) (hb : Bytes l) (hl : l.length ≤ 1000000) (a1 : Int) :
  Calls Tryz.prog 19 #[.slice A l.length c, .int .i64 a1] w fun e w' => ∃ v1 v7 v8, e = .returned (.tuple #[.agg #[.int .i64 (sOpRead l a1).1.f0.f0, .int .i64 (sOpRead l a1).1.f0.f1, v1, .int .i64 (sOpRead l a1).1.f2.f0, .int .i64 (sOpRead l a1).1.f2.f1, .int .i64 (sOpRead l a1).1.f2.f2, .int .i64 (sOpRead l a1).1.f3, .int .i64 (sOpRead l a1).1.f4, .string (sOpRead l a1).1.f5, .int .i64 (sOpRead l a1).1.f6, v7, v8], .int .i64 (sOpRead l a1).2.1, .int .i64 (sOpRead l a1).2.2]) ∧
   Sp w' [Row (Kd.int .i64) 3 v1 (sOpRead l a1).1.f1, Row k102 102 v7 (sOpRead l a1).1.f7, Row k24 24 v8 (sOpRead l a1).1.f8, Old w] := by
 have h0 := Sp.start w
 have h1 := h0.box (.cells #[.int .i64 0, .int .i64 0, .slice none 0 0, .int .i64 0, .int .i64 0, .int .i64 0, .int .i64 0, .int .i64 0, .string ⟨#[]⟩, .int .i64 0, .slice none 0 0, .slice none 0 0] 31 (0, 0))
 by_cases ha : a1 < 0
 ·
  have hd1 : decide (a1 < 0) = true := decide_eq_true ha
  have hz : sOpRead l a1 = (zOp, 0, 1) := by unfold sOpRead; rw [if_pos (.inl ha)]
  rw [hz]
  have HS1 := mk_ h1
  clear h0 h1 hz hC0 hb
  go_enter Tryz.func19, Tryz.ntmps19
  go_wp2_with (((with_reducible refine fH (ty := 31) (x := .tmp 4) (y := .tmp 16) rfl ?_); refine wpList_store_row rfl 31 (.tmp 4) (.tmp 16) rfl w.heap.size #[.int .i64 0, .int .i64 0, .slice none 0 0, .int .i64 0, .int .i64 0, .int .i64 0, .int .i64 0, .int .i64 0, .string ⟨#[]⟩, .int .i64 0, .slice none 0 0, .slice none 0 0] rfl rfl 31 #[.int .i64 0, .int .i64 0, .slice none 0 0, .int .i64 0, .int .i64 0, .int .i64 0, .int .i64 0, .int .i64 0, .string ⟨#[]⟩, .int .i64 0, .slice none 0 0, .slice none 0 0] HS1.out.blk z2_ rfl (by first | decide | rfl | simp [Value.oneCell']) ?_))
  refine bodyPost_ret (dQ rfl _ _ w.heap.size 31 #[.int .i64 0, .int .i64 0, .slice none 0 0, .int .i64 0, .int .i64 0, .int .i64 0, .int .i64 0, .int .i64 0, .string ⟨#[]⟩, .int .i64 0, .slice none 0 0, .slice none 0 0] (0, 0) _ rfl (cG HS1.out _).blk Tryz.underlying31 rfl z2_) rfl ?_
  exact ⟨_, _, _, rfl, fL (fL (fL ((cG HS1.out #[.int .i64 0, .int .i64 0, .slice none 0 0, .int .i64 0, .int .i64 0, .int .i64 0, .int .i64 0, .int .i64 0, .string ⟨#[]⟩, .int .i64 0, .slice none 0 0, .slice none 0 0]).tail)))⟩
 have hd1 : decide (a1 < 0) = false := decide_eq_false ha
 by_cases hn : a1 > l.length
 ·
  have hd2 : decide ((l.length : Int) < a1) = true := decide_eq_true hn
  have hz : sOpRead l a1 = (zOp, 0, 1) := by unfold sOpRead; rw [if_pos (.inr hn)]
  rw [hz]
  have HS1 := mk_ h1
  clear h0 h1 hz hC0 hb
  go_enter Tryz.func19, Tryz.ntmps19
  go_wp2_with (((with_reducible refine fH (ty := 31) (x := .tmp 4) (y := .tmp 16) rfl ?_); refine wpList_store_row rfl 31 (.tmp 4) (.tmp 16) rfl w.heap.size #[.int .i64 0, .int .i64 0, .slice none 0 0, .int .i64 0, .int .i64 0, .int .i64 0, .int .i64 0, .int .i64 0, .string ⟨#[]⟩, .int .i64 0, .slice none 0 0, .slice none 0 0] rfl rfl 31 #[.int .i64 0, .int .i64 0, .slice none 0 0, .int .i64 0, .int .i64 0, .int .i64 0, .int .i64 0, .int .i64 0, .string ⟨#[]⟩, .int .i64 0, .slice none 0 0, .slice none 0 0] HS1.out.blk z2_ rfl (by first | decide | rfl | simp [Value.oneCell']) ?_))
  refine bodyPost_ret (dQ rfl _ _ w.heap.size 31 #[.int .i64 0, .int .i64 0, .slice none 0 0, .int .i64 0, .int .i64 0, .int .i64 0, .int .i64 0, .int .i64 0, .string ⟨#[]⟩, .int .i64 0, .slice none 0 0, .slice none 0 0] (0, 0) _ rfl (cG HS1.out _).blk Tryz.underlying31 rfl z2_) rfl ?_
  exact ⟨_, _, _, rfl, fL (fL (fL ((cG HS1.out #[.int .i64 0, .int .i64 0, .slice none 0 0, .int .i64 0, .int .i64 0, .int .i64 0, .int .i64 0, .int .i64 0, .string ⟨#[]⟩, .int .i64 0, .slice none 0 0, .slice none 0 0]).tail)))⟩
 have hd2 : decide ((l.length : Int) < a1) = false := decide_eq_false hn
 have hp : rAt l (a1, false) := ⟨by show 0 ≤ a1; omega, by show a1 ≤ _; omega⟩
 have hu : sOpRead l a1 = if (rOp l (a1, false)).2.2 = true then (zOp, 0, 3) else ((rOp l (a1, false)).1, (rOp l (a1, false)).2.1, 0) := by unfold sOpRead; rw [if_neg (fun e => e.elim ha hn)]
 have h2 := h1.box (.cells #[.slice A l.length c, .int .i64 a1, .bool false] 80 (0, 0))
 rw [show (w.alloc (.cells #[.int .i64 0, .int .i64 0, .slice none 0 0, .int .i64 0, .int .i64 0, .int .i64 0, .int .i64 0, .int .i64 0, .string ⟨#[]⟩, .int .i64 0, .slice none 0 0, .slice none 0 0] 31 (0, 0))).heap.size = w.heap.size + 1 from Array.size_push _] at h2
 have hQ := rop_calls (w0 := w) hC0 hlc hb hl (a1, false) hp (show Sp _ (RdP (w.heap.size + 1) A l.length c (a1, false) :: Old w :: [Blk w.heap.size (.cells #[.int .i64 0, .int .i64 0, .slice none 0 0, .int .i64 0, .int .i64 0, .int .i64 0, .int .i64 0, .int .i64 0, .string ⟨#[]⟩, .int .i64 0, .slice none 0 0, .slice none 0 0] 31 (0, 0))]) from h2.s2.s1)
 rw [hu]
 clear hu h0 h1 h2 hC0 hb hp
 generalize rOp l (a1, false) = q at hQ ⊢
 obtain ⟨x, at2, bad2⟩ := q
 dsimp only at hQ ⊢
 have HQ := mk_ hQ
 clear hQ ha hn
 cases bad2 with
 | true =>
  rw [if_pos rfl]
  go_enter Tryz.func19, Tryz.ntmps19
  go_wp2_with (first | (go_at_call 44; refine HQ.out.mono ?_; rintro e V ⟨v1, v7, v8, rfl, h⟩; obtain ⟨A1, c1, rfl, _, _⟩ := h.row; obtain ⟨A7, c7, rfl, _, _⟩ := h.tail.row; obtain ⟨A8, c8, rfl, _, _⟩ := h.tail.tail.row; have HS3 := mk_ h; clear h) | ((with_reducible refine fH (ty := 31) (x := .tmp 4) (y := .tmp 22) rfl ?_); refine wpList_store_row rfl 31 (.tmp 4) (.tmp 22) rfl w.heap.size #[.int .i64 x.f0.f0, .int .i64 x.f0.f1, .slice A1 x.f1.length c1, .int .i64 x.f2.f0, .int .i64 x.f2.f1, .int .i64 x.f2.f2, .int .i64 x.f3, .int .i64 x.f4, .string x.f5, .int .i64 x.f6, .slice A7 x.f7.length c7, .slice A8 x.f8.length c8] rfl rfl 31 #[.int .i64 0, .int .i64 0, .slice none 0 0, .int .i64 0, .int .i64 0, .int .i64 0, .int .i64 0, .int .i64 0, .string ⟨#[]⟩, .int .i64 0, .slice none 0 0, .slice none 0 0] HS3.out.s5.blk z2_ rfl (by first | decide | rfl | simp [Value.oneCell']) ?_; have HS4 := mk_ (cG HS3.out.s5 #[.int .i64 x.f0.f0, .int .i64 x.f0.f1, .slice A1 x.f1.length c1, .int .i64 x.f2.f0, .int .i64 x.f2.f1, .int .i64 x.f2.f2, .int .i64 x.f3, .int .i64 x.f4, .string x.f5, .int .i64 x.f6, .slice A7 x.f7.length c7, .slice A8 x.f8.length c8]); have kr := aD HS4.out.s4.blk; have kx := aD HS4.out.blk) | ((with_reducible refine fH (ty := 31) (x := .tmp 4) (y := .tmp 27) rfl ?_); refine wpList_store_row rfl 31 (.tmp 4) (.tmp 27) rfl w.heap.size #[.int .i64 0, .int .i64 0, .slice none 0 0, .int .i64 0, .int .i64 0, .int .i64 0, .int .i64 0, .int .i64 0, .string ⟨#[]⟩, .int .i64 0, .slice none 0 0, .slice none 0 0] rfl rfl 31 #[.int .i64 x.f0.f0, .int .i64 x.f0.f1, .slice A1 x.f1.length c1, .int .i64 x.f2.f0, .int .i64 x.f2.f1, .int .i64 x.f2.f2, .int .i64 x.f3, .int .i64 x.f4, .string x.f5, .int .i64 x.f6, .slice A7 x.f7.length c7, .slice A8 x.f8.length c8] HS4.out.blk z2_ rfl (by first | decide | rfl | simp [Value.oneCell']) ?_))
  refine bodyPost_ret (dQ rfl _ _ w.heap.size 31 #[.int .i64 0, .int .i64 0, .slice none 0 0, .int .i64 0, .int .i64 0, .int .i64 0, .int .i64 0, .int .i64 0, .string ⟨#[]⟩, .int .i64 0, .slice none 0 0, .slice none 0 0] (0, 0) _ rfl (cG HS4.out _).blk Tryz.underlying31 rfl z2_) rfl ?_
  exact ⟨_, _, _, rfl, fL (fL (fL ((cG HS4.out #[.int .i64 0, .int .i64 0, .slice none 0 0, .int .i64 0, .int .i64 0, .int .i64 0, .int .i64 0, .int .i64 0, .string ⟨#[]⟩, .int .i64 0, .slice none 0 0, .slice none 0 0]).tail.tail.tail.tail.tail)))⟩
 | false =>
  rw [if_neg (by show ¬ (false = true); decide)]
  go_enter Tryz.func19, Tryz.ntmps19
  go_wp2_with (first | (go_at_call 44; refine HQ.out.mono ?_; rintro e V ⟨v1, v7, v8, rfl, h⟩; obtain ⟨A1, c1, rfl, _, _⟩ := h.row; obtain ⟨A7, c7, rfl, _, _⟩ := h.tail.row; obtain ⟨A8, c8, rfl, _, _⟩ := h.tail.tail.row; have HS3 := mk_ h; clear h) | ((with_reducible refine fH (ty := 31) (x := .tmp 4) (y := .tmp 22) rfl ?_); refine wpList_store_row rfl 31 (.tmp 4) (.tmp 22) rfl w.heap.size #[.int .i64 x.f0.f0, .int .i64 x.f0.f1, .slice A1 x.f1.length c1, .int .i64 x.f2.f0, .int .i64 x.f2.f1, .int .i64 x.f2.f2, .int .i64 x.f3, .int .i64 x.f4, .string x.f5, .int .i64 x.f6, .slice A7 x.f7.length c7, .slice A8 x.f8.length c8] rfl rfl 31 #[.int .i64 0, .int .i64 0, .slice none 0 0, .int .i64 0, .int .i64 0, .int .i64 0, .int .i64 0, .int .i64 0, .string ⟨#[]⟩, .int .i64 0, .slice none 0 0, .slice none 0 0] HS3.out.s5.blk z2_ rfl (by first | decide | rfl | simp [Value.oneCell']) ?_; have HS4 := mk_ (cG HS3.out.s5 #[.int .i64 x.f0.f0, .int .i64 x.f0.f1, .slice A1 x.f1.length c1, .int .i64 x.f2.f0, .int .i64 x.f2.f1, .int .i64 x.f2.f2, .int .i64 x.f3, .int .i64 x.f4, .string x.f5, .int .i64 x.f6, .slice A7 x.f7.length c7, .slice A8 x.f8.length c8]); have kr := aD HS4.out.s4.blk; have kx := aD HS4.out.blk))
  have hSd := HS4.out.drew
  clear kr kx
  refine jO (n := 8) (S := fun w' => w'.cell? ⟨w.heap.size, 0, none⟩ = some (.int .i64 x.f0.f0) ∧ w'.cell? ⟨w.heap.size, 1, none⟩ = some (.int .i64 x.f0.f1) ∧ w'.cell? ⟨w.heap.size, 2, none⟩ = some (.slice A1 x.f1.length c1) ∧ w'.cell? ⟨w.heap.size, 3, none⟩ = some (.int .i64 x.f2.f0) ∧ w'.cell? ⟨w.heap.size, 4, none⟩ = some (.int .i64 x.f2.f1) ∧ w'.cell? ⟨w.heap.size, 5, none⟩ = some (.int .i64 x.f2.f2) ∧ w'.cell? ⟨w.heap.size, 6, none⟩ = some (.int .i64 x.f3) ∧ w'.cell? ⟨w.heap.size, 7, none⟩ = some (.int .i64 x.f4) ∧ w'.cell? ⟨w.heap.size, 8, none⟩ = some (.string x.f5) ∧ w'.cell? ⟨w.heap.size, 9, none⟩ = some (.int .i64 x.f6) ∧ w'.cell? ⟨w.heap.size, 10, none⟩ = some (.slice A7 x.f7.length c7) ∧ w'.cell? ⟨w.heap.size, 11, none⟩ = some (.slice A8 x.f8.length c8) ∧ w'.cell? ⟨w.heap.size + 1, 1, none⟩ = some (.int .i64 at2) ∧ True) (ds := []) (fun W => Sp W [Blk w.heap.size (.cells #[.int .i64 x.f0.f0, .int .i64 x.f0.f1, .slice A1 x.f1.length c1, .int .i64 x.f2.f0, .int .i64 x.f2.f1, .int .i64 x.f2.f2, .int .i64 x.f3, .int .i64 x.f4, .string x.f5, .int .i64 x.f6, .slice A7 x.f7.length c7, .slice A8 x.f8.length c8] 31 (0, 0)), Row (Kd.int .i64) 3 (.slice A1 x.f1.length c1) x.f1, Row k102 102 (.slice A7 x.f7.length c7) x.f7, Row k24 24 (.slice A8 x.f8.length c8) x.f8, RdP (w.heap.size + 1) A l.length c (at2, false), Old w]) (Steps.Bs 8 0) z2_ rfl rfl hSd (fun W hJ => ⟨aD hJ.blk 0, aD hJ.blk 1, aD hJ.blk 2, aD hJ.blk 3, aD hJ.blk 4, aD hJ.blk 5, aD hJ.blk 6, aD hJ.blk 7, aD hJ.blk 8, aD hJ.blk 9, aD hJ.blk 10, aD hJ.blk 11, aD hJ.s4.blk 1, trivial⟩) (fun W0 hJ => ?_)
  clear hSd HS4 HS3
  have hHeld : W0.cell? ⟨w.heap.size, 0, none⟩ = some (.int .i64 x.f0.f0) ∧ W0.cell? ⟨w.heap.size, 1, none⟩ = some (.int .i64 x.f0.f1) ∧ W0.cell? ⟨w.heap.size, 2, none⟩ = some (.slice A1 x.f1.length c1) ∧ W0.cell? ⟨w.heap.size, 3, none⟩ = some (.int .i64 x.f2.f0) ∧ W0.cell? ⟨w.heap.size, 4, none⟩ = some (.int .i64 x.f2.f1) ∧ W0.cell? ⟨w.heap.size, 5, none⟩ = some (.int .i64 x.f2.f2) ∧ W0.cell? ⟨w.heap.size, 6, none⟩ = some (.int .i64 x.f3) ∧ W0.cell? ⟨w.heap.size, 7, none⟩ = some (.int .i64 x.f4) ∧ W0.cell? ⟨w.heap.size, 8, none⟩ = some (.string x.f5) ∧ W0.cell? ⟨w.heap.size, 9, none⟩ = some (.int .i64 x.f6) ∧ W0.cell? ⟨w.heap.size, 10, none⟩ = some (.slice A7 x.f7.length c7) ∧ W0.cell? ⟨w.heap.size, 11, none⟩ = some (.slice A8 x.f8.length c8) ∧ W0.cell? ⟨w.heap.size + 1, 1, none⟩ = some (.int .i64 at2) ∧ True := ⟨aD hJ.blk 0, aD hJ.blk 1, aD hJ.blk 2, aD hJ.blk 3, aD hJ.blk 4, aD hJ.blk 5, aD hJ.blk 6, aD hJ.blk 7, aD hJ.blk 8, aD hJ.blk 9, aD hJ.blk 10, aD hJ.blk 11, aD hJ.s4.blk 1, trivial⟩
  refine sI 1 29 8 2 ?_
  refine sI 2 30 8 6 ?_
  refine sI 3 31 8 14 ?_
  refine sT hHeld 0 28 8 15 ?_
  refine sT hHeld 4 32 8 31 ?_
  refine one_ (i := 5) (N := none) (Steps.Bs 8 63) rfl rfl z2_ z5_ (fun K hK => ?_)
  refine store_row_step (by rfl) 31 (.tmp 4) (.tmp 28) rfl w.heap.size #[.int .i64 x.f0.f0, .int .i64 x.f0.f1, .slice A1 x.f1.length c1, .int .i64 x.f2.f0, .int .i64 x.f2.f1, .int .i64 x.f2.f2, .int .i64 x.f3, .int .i64 x.f4, .string x.f5, .int .i64 x.f6, .slice A7 x.f7.length c7, .slice A8 x.f8.length c8] rfl rfl 31 #[.int .i64 x.f0.f0, .int .i64 x.f0.f1, .slice A1 x.f1.length c1, .int .i64 x.f2.f0, .int .i64 x.f2.f1, .int .i64 x.f2.f2, .int .i64 x.f3, .int .i64 x.f4, .string x.f5, .int .i64 x.f6, .slice A7 x.f7.length c7, .slice A8 x.f8.length c8] hJ.blk z2_ rfl (by first | decide | rfl | simp [Value.oneCell']) ?_
  have hS5 := cG hJ #[.int .i64 x.f0.f0, .int .i64 x.f0.f1, .slice A1 x.f1.length c1, .int .i64 x.f2.f0, .int .i64 x.f2.f1, .int .i64 x.f2.f2, .int .i64 x.f3, .int .i64 x.f4, .string x.f5, .int .i64 x.f6, .slice A7 x.f7.length c7, .slice A8 x.f8.length c8]
  refine hK.out _ _ ⟨aD hS5.blk 0, aD hS5.blk 1, aD hS5.blk 2, aD hS5.blk 3, aD hS5.blk 4, aD hS5.blk 5, aD hS5.blk 6, aD hS5.blk 7, aD hS5.blk 8, aD hS5.blk 9, aD hS5.blk 10, aD hS5.blk 11, aD hS5.s4.blk 1, trivial⟩ (fun _ => ?_)
  clear hK K
  refine norm_ (a' := ?_) ?_ ?_
  rotate_left
  ·
   show Act.put _ none _ = _
   rfl
  refine sI 6 5 8 127 ?_
  refine sI 7 6 8 255 ?_
  refine done_ z2_ ?_
  go_wp2
  refine bodyPost_ret (dQ rfl _ _ w.heap.size 31 #[.int .i64 x.f0.f0, .int .i64 x.f0.f1, .slice A1 x.f1.length c1, .int .i64 x.f2.f0, .int .i64 x.f2.f1, .int .i64 x.f2.f2, .int .i64 x.f3, .int .i64 x.f4, .string x.f5, .int .i64 x.f6, .slice A7 x.f7.length c7, .slice A8 x.f8.length c8] (0, 0) _ rfl hS5.blk Tryz.underlying31 rfl z2_) rfl ?_
  exact ⟨_, _, _, rfl, hS5.tail.s3.tail⟩
end
end Go.Proofs.YtjnjfogfpmeacaaGreat.Ops
end
section
namespace Go.Proofs.YtjnjfogfpmeacaaGreat.Ops
open Go.RowKit PAll Plain PrintWords PrintLast PrintMore Go.Proofs.YtjnjfogfpmeacaaGreat.Sep ZipT PrintWords.Kd PrintMore.Kd
set_option linter.unusedVariables false
set_option linter.unusedSimpArgs false
theorem wNums_len (l : List Int) (s : Wr) : (wNums l s).1.length ≤ s.1.length + 7 + 7 * l.length := by
 have h1 := hI (f := fun n => wNum n 4) (m := 7) (fun x s => dU x 4 s) l (wNum l.length 1 (wOr (decide (l.length > 5)) s))
 have h2 := dU l.length 1 (wOr (decide (l.length > 5)) s)
 have h3 : (wOr (decide (l.length > 5)) s).1.length = s.1.length := rfl
 unfold wNums; omega
theorem rowOut_len (l : List V) : (if rowE l = 0 then (rowB l, (0 : Int)) else ([], rowE l)).1.length ≤ 700 := by
 split
 ·
  rename_i h; exact Nat.le_trans (rowB_len h) z3_
 ·
  simp
def opSmall (x : Ox) : Prop := x.f1.length ≤ 1000 ∧ x.f7.length ≤ 1000 ∧ x.f8.length ≤ 1000
instance (x : Ox) : Decidable (opSmall x) := by unfold opSmall; infer_instance
theorem rd_T_get {l : List Dt} {i : Nat} (h : i < l.length) : aW l (i : Int) = l[i] := by
 unfold aW
 rw [Int.toNat_natCast, List.getD_eq_getElem?_getD, List.getElem?_eq_getElem h]; rfl
section
variable {w : World} {g : Nat} {F : List Part}
theorem wop_calls {w0 : World} (x : Ox) (A1 A7 A8 : Option Addr) (c1 c7 c8 : Nat) (hC1 : Kd.C (Kd.int .i64) w0 A1 x.f1.length x.f1) (h1c : x.f1.length ≤ c1) (hC7 : Kd.C k102 w0 A7 x.f7.length x.f7) (h7c : x.f7.length ≤ c7) (hC8 : Kd.C k24 w0 A8 x.f8.length x.f8) (h8c : x.f8.length ≤ c8) (hx : opSmall x) (s : Wr) (hS : Sp w (WrP g s :: Old w0 :: F)) (hl : s.1.length ≤ 600000000) :
  Calls Tryz.prog 25 #[.pointer (some ⟨g, 0, none⟩), .agg #[.int .i64 x.f0.f0, .int .i64 x.f0.f1, .slice A1 x.f1.length c1, .int .i64 x.f2.f0, .int .i64 x.f2.f1, .int .i64 x.f2.f2, .int .i64 x.f3, .int .i64 x.f4, .string x.f5, .int .i64 x.f6, .slice A7 x.f7.length c7, .slice A8 x.f8.length c8]] w fun r w' => (∃ v, r = .returned v) ∧ Sp w' (WrP g (wOp x s) :: Old w0 :: F) := by
 have h0 := hS.box (.cells #[.int .i64 x.f0.f0, .int .i64 x.f0.f1, .slice A1 x.f1.length c1, .int .i64 x.f2.f0, .int .i64 x.f2.f1, .int .i64 x.f2.f2, .int .i64 x.f3, .int .i64 x.f4, .string x.f5, .int .i64 x.f6, .slice A7 x.f7.length c7, .slice A8 x.f8.length c8] 31 (0, 0))
 have L1 := dU x.f3 1 s
 obtain ⟨s1, e1⟩ : ∃ q, q = wNum x.f3 1 s := ⟨_, rfl⟩
 have L2 := jR x.f0 s1
 obtain ⟨s2, e2⟩ : ∃ q, q = wDot x.f0 s1 := ⟨_, rfl⟩
 have L3 := wNums_len x.f1 s2
 obtain ⟨s3, e3⟩ : ∃ q, q = wNums x.f1 s2 := ⟨_, rfl⟩
 have L4 := wStamp_len x.f2 s3
 obtain ⟨s4, e4⟩ : ∃ q, q = wStamp x.f2 s3 := ⟨_, rfl⟩
 have L5 := dU x.f4 1 s4
 obtain ⟨s5, e5⟩ : ∃ q, q = wNum x.f4 1 s4 := ⟨_, rfl⟩
 have L6 := wText_len x.f5 s5
 obtain ⟨s6, e6⟩ : ∃ q, q = wText x.f5 s5 := ⟨_, rfl⟩
 have L7 := dU x.f6 1 s6
 obtain ⟨s7, e7⟩ : ∃ q, q = wNum x.f6 1 s6 := ⟨_, rfl⟩
 have LR := rowOut_len x.f7
 have hR := rowBytes_eq 1100 x.f7 (by have := hx.2.1; omega) (by have := hx.2.1; omega)
 have hwr : wRow x.f7 s7 = wAdd s7 (if rowE x.f7 = 0 then (rowB x.f7, 0) else ([], rowE x.f7)) := rfl
 have hu : wOp x s = wAll wDot x.f8 (wNum x.f8.length 1 (wOr (decide (x.f8.length > 64)) (wRow x.f7 s7))) := by subst e7 e6 e5 e4 e3 e2 e1; rfl
 generalize (if rowE x.f7 = 0 then (rowB x.f7, (0 : Int)) else ([], rowE x.f7)) = rr at LR hR hwr
 obtain ⟨rb, re⟩ := rr
 rw [hwr] at hu
 obtain ⟨s8, e8⟩ : ∃ q, q = wAdd s7 (rb, re) := ⟨_, rfl⟩
 have L8 : s8.1.length ≤ s7.1.length + 700 := by have : rb.length ≤ 700 := LR; rw [e8]; unfold wAdd; simp only [List.length_append]; omega
 rw [← e1] at L1; rw [← e2] at L2; rw [← e3] at L3; rw [← e4] at L4; rw [← e5] at L5; rw [← e6] at L6; rw [← e7] at L7; rw [← e8] at hu
 have LR2 : rb.length ≤ 700 := LR
 have HLEN := mk_ (show s.1.length ≤ 600000000 ∧ s1.1.length ≤ 600000007 ∧ s2.1.length ≤ 600000021 ∧ s3.1.length ≤ 600007028 ∧ s4.1.length ≤ 600007049 ∧ s5.1.length ≤ 600007056 ∧ s6.1.length ≤ 600007081 ∧ s7.1.length ≤ 600007088 ∧ s8.1.length ≤ 600007788 ∧ rb.length ≤ 700 from by have := hx.1; omega)
 have HE1 := mk_ e1
 have HE2 := mk_ e2
 have HE3 := mk_ e3
 have HE4 := mk_ e4
 have HE5 := mk_ e5
 have HE6 := mk_ e6
 have HE7 := mk_ e7
 have HE8 := mk_ e8
 have HU := mk_ hu
 have HR := mk_ (show PAll.row_Bytes.f 1100 x.f7 = some (rb, re) from hR)
 have HC1 := mk_ hC1
 have HC7 := mk_ hC7
 have HC8 := mk_ hC8
 have HX := mk_ (And.intro hx (And.intro h1c (And.intro h7c h8c)))
 have HS0 := mk_ (Sp.s2 (Sp.s2 h0))
 clear h0 hS hl L1 L2 L3 L4 L5 L6 L7 L8 LR hR hwr hu e1 e2 e3 e4 e5 e6 e7 e8 hC1 hC7 hC8 hx h1c h7c h8c
 obtain ⟨b8, bad8⟩ := s8
 cases bad8 with
 | true =>
  have hn0 : wOr (decide (x.f8.length > 64)) (b8, true) = (b8, true) := by unfold wOr; simp
  have HU2 := mk_ (HU.out.trans (congrArg (fun q => wAll wDot x.f8 (wNum x.f8.length 1 q)) hn0))
  clear hn0 HU
  go_enter Tryz.func25, Tryz.ntmps25
  go_wp2_with (first
  | (go_at_call 50; (with_reducible show Calls _ _ _ (World.alloc w _) _); refine (dD s x.f3 1 HS0.out (by have := HLEN.out; omega)).mono ?_; rintro e V1 ⟨⟨u, rfl⟩, h1⟩; rw [← HE1.out] at h1; have HS1 := mk_ h1; have kx1 := aD HS1.out.s2.blk; clear h1)
  | (go_at_call 51; (with_reducible show Calls _ _ _ V1 _); refine (gQ s1 x.f0 HS1.out (by have := HLEN.out; omega)).mono ?_; rintro e V2 ⟨⟨u, rfl⟩, h1⟩; rw [← HE2.out] at h1; have HS2 := mk_ h1; have kx2 := aD HS2.out.s2.blk; clear h1)
  | (go_at_call 52; (with_reducible show Calls _ _ _ V2 _); refine (iW A1 c1 x.f1 HC1.out HX.out.2.1 HX.out.1.1 s2 HS2.out (by have := HLEN.out; omega)).mono ?_; rintro e V3 ⟨⟨u, rfl⟩, h1⟩; rw [← HE3.out] at h1; have HS3 := mk_ h1; have kx3 := aD HS3.out.s2.blk; clear h1)
  | (go_at_call 53; (with_reducible show Calls _ _ _ V3 _); refine (iU s3 x.f2 HS3.out (by have := HLEN.out; omega)).mono ?_; rintro e V4 ⟨⟨u, rfl⟩, h1⟩; rw [← HE4.out] at h1; have HS4 := mk_ h1; have kx4 := aD HS4.out.s2.blk; clear h1)
  | (go_at_call 50; (with_reducible show Calls _ _ _ V4 _); refine (dD s4 x.f4 1 HS4.out (by have := HLEN.out; omega)).mono ?_; rintro e V5 ⟨⟨u, rfl⟩, h1⟩; rw [← HE5.out] at h1; have HS5 := mk_ h1; have kx5 := aD HS5.out.s2.blk; clear h1)
  | (go_at_call 54; (with_reducible show Calls _ _ _ V5 _); refine (iY s5 x.f5 HS5.out (by have := HLEN.out; omega)).mono ?_; rintro e V6 ⟨⟨u, rfl⟩, h1⟩; rw [← HE6.out] at h1; have HS6 := mk_ h1; have kx6 := aD HS6.out.s2.blk; clear h1)
  | (go_at_call 50; (with_reducible show Calls _ _ _ V6 _); refine (dD s6 x.f6 1 HS6.out (by have := HLEN.out; omega)).mono ?_; rintro e V7 ⟨⟨u, rfl⟩, h1⟩; rw [← HE7.out] at h1; have HS7 := mk_ h1; have kx7 := aD HS7.out.s2.blk; clear h1)
  | (go_at_call 56; refine (PAll.row_Bytes.calls 1100 A7 c7 x.f7 rb re _ (aU HC7.out HS7.out.s1.old) HX.out.2.2.1 HR.out).mono ?_; rintro e V8 ⟨v_, rfl, hr_, hq_⟩; obtain ⟨Ab, cb, rfl⟩ := cU hr_; have HS8 := mk_ (Sp.made HS7.out hq_ hr_).s1; clear hr_ hq_)
  | (go_at_call 55; refine (iE s7.1 s7.2 Ab cb rb re HS8.out (by have := HLEN.out; omega)).mono ?_; rintro e V9 ⟨⟨u, rfl⟩, h1⟩; rw [show ((s7.1, s7.2) : Wr) = s7 from rfl, ← HE8.out] at h1; have kx9 := aD h1.s2.blk; obtain ⟨v9, h2⟩ := WrP.open h1; have k91 := aD h2.blk 1; have f91 := aX h2.blk 1; have HS9 := mk_ h2; clear h1 h2)
  | (go_at_call 50; (with_reducible show Calls _ _ _ (World.setCell V9 _ _) _); refine (dD (b8, true) (x.f8.length : Int) 1 (WrP.shut (HS9.out.store 1 (.bool true))) (by have := HLEN.out; show b8.length ≤ _; omega)).mono ?_; rintro e V10 ⟨⟨u, rfl⟩, h1⟩; have HS10 := mk_ h1; have kx10 := aD HS10.out.s2.blk; clear h1))
  go_loopg [62] (x.f8.length + 1) (fun kq v62 W' => ∃ (i : Nat), v62 = .int .i64 (i : Int) ∧ Aside0 (Sp W' (WrP g (wAll wDot (x.f8.take i) (wNum (x.f8.length : Int) 1 (b8, true))) :: Old w0 :: Blk w.heap.size (.cells #[.int .i64 x.f0.f0, .int .i64 x.f0.f1, .slice A1 x.f1.length c1, .int .i64 x.f2.f0, .int .i64 x.f2.f1, .int .i64 x.f2.f2, .int .i64 x.f3, .int .i64 x.f4, .string x.f5, .int .i64 x.f6, .slice A7 x.f7.length c7, .slice A8 x.f8.length c8] 31 (0, 0)) :: F)) ∧ Aside0 (kq + i = x.f8.length + 1 ∧ i ≤ x.f8.length))
  case atStart => exact ⟨0, rfl, ⟨HS10.out⟩, ⟨by omega⟩⟩
  case round =>
   obtain ⟨i, rfl, HA, HK⟩ := hrel
   obtain ⟨k1, rfl⟩ : ∃ k1, gk = k1 + 1 := ⟨gk - 1, by have := HK.out; omega⟩
   by_cases hi : i < x.f8.length
   rotate_left
   ·
    have hie : i = x.f8.length := by have := HK.out; omega
    have hb2 : decide ((i : Int) < (x.f8.length : Int)) = false := decide_eq_false z3_
    have hb3 : decide (i < x.f8.length) = false := decide_eq_false hi
    clear hi
    go_wp2
    go_end0
    refine ⟨⟨_, rfl⟩, ?_⟩
    have h := HA.out
    rw [hie, List.take_length] at h
    rw [HU2.out]
    exact (Sp.s2 h).tail
   obtain ⟨ad, hA, hx0, hx1⟩ := fS (aU HC8.out HA.out.s1.old) (i : Int) z3_ z3_
   cases hA
   rw [rd_T_get hi] at hx0 hx1
   rw [Int.toNat_natCast] at hx0 hx1
   have hb0 : (0 ≤ (i : Int)) = True := eq_true z3_
   have hb1 : ((i : Int) < (x.f8.length : Int)) = True := eq_true z3_
   have hb2 : decide ((i : Int) < (x.f8.length : Int)) = true := decide_eq_true z3_
   have hb3 : decide (i < x.f8.length) = true := decide_eq_true hi
   have HI2 := mk_ hi
   have HT := mk_ (iA hi)
   generalize x.f8[i] = d at *
   clear hi
   have HD := mk_ (HA.out.box (.cells #[.int .i64 0, .int .i64 0] 24 (0, 0)))
   go_wp2_with (first | ((with_reducible refine fH (ty := 24) (x := .tmp 5) (y := .tmp 65) rfl ?_); refine wpList_store_row rfl 24 (.tmp 5) (.tmp 65) rfl wr.heap.size #[.int .i64 d.f0, .int .i64 d.f1] rfl rfl 24 #[.int .i64 0, .int .i64 0] HD.out.blk z2_ rfl (by first | decide | rfl | simp [Value.oneCell']) ?_; have HE := mk_ (cG HD.out #[.int .i64 d.f0, .int .i64 d.f1]); have kd := aD HE.out.blk) | (go_at_call 51; refine (gQ _ d HE.out.tail (by have := HLEN.out; have h1 := hI (f := wDot) (m := 14) jR (x.f8.take i) (wNum (x.f8.length : Int) 1 (b8, true)); have h2 := dU (x.f8.length : Int) 1 (b8, true); have h3 := HX.out.1.2.2; have h4 := List.length_take_le i x.f8; have h6 := HI2.out; have h5 : (b8, true).1.length = b8.length := rfl; omega)).mono ?_; rintro e W2 ⟨⟨u, rfl⟩, h1⟩; have HS11 := mk_ h1; clear h1))
   go_roundg k1
   case measure => exact Nat.lt_succ_self _
   case rel => exact ⟨i + 1, by rw [w64 z3_ (by have := HI2.out; have := HX.out.1.2.2; omega)]; rfl, ⟨by rw [HT.out, gT]; exact HS11.out⟩, ⟨by have := HK.out; omega, by have := HI2.out; omega⟩⟩
 | false =>
  by_cases hc : x.f8.length > 64
  ·
   have hd1 : decide ((64 : Int) < (x.f8.length : Int)) = true := decide_eq_true z3_
   have hd2 : decide (64 < x.f8.length) = true := decide_eq_true hc
   have hn0 : wOr (decide (x.f8.length > 64)) (b8, false) = (b8, true) := by unfold wOr; simp [hc]
   have HU2 := mk_ (HU.out.trans (congrArg (fun q => wAll wDot x.f8 (wNum x.f8.length 1 q)) hn0))
   clear hn0 HU
   go_enter Tryz.func25, Tryz.ntmps25
   go_wp2_with (first
  | (go_at_call 50; (with_reducible show Calls _ _ _ (World.alloc w _) _); refine (dD s x.f3 1 HS0.out (by have := HLEN.out; omega)).mono ?_; rintro e V1 ⟨⟨u, rfl⟩, h1⟩; rw [← HE1.out] at h1; have HS1 := mk_ h1; have kx1 := aD HS1.out.s2.blk; clear h1)
  | (go_at_call 51; (with_reducible show Calls _ _ _ V1 _); refine (gQ s1 x.f0 HS1.out (by have := HLEN.out; omega)).mono ?_; rintro e V2 ⟨⟨u, rfl⟩, h1⟩; rw [← HE2.out] at h1; have HS2 := mk_ h1; have kx2 := aD HS2.out.s2.blk; clear h1)
  | (go_at_call 52; (with_reducible show Calls _ _ _ V2 _); refine (iW A1 c1 x.f1 HC1.out HX.out.2.1 HX.out.1.1 s2 HS2.out (by have := HLEN.out; omega)).mono ?_; rintro e V3 ⟨⟨u, rfl⟩, h1⟩; rw [← HE3.out] at h1; have HS3 := mk_ h1; have kx3 := aD HS3.out.s2.blk; clear h1)
  | (go_at_call 53; (with_reducible show Calls _ _ _ V3 _); refine (iU s3 x.f2 HS3.out (by have := HLEN.out; omega)).mono ?_; rintro e V4 ⟨⟨u, rfl⟩, h1⟩; rw [← HE4.out] at h1; have HS4 := mk_ h1; have kx4 := aD HS4.out.s2.blk; clear h1)
  | (go_at_call 50; (with_reducible show Calls _ _ _ V4 _); refine (dD s4 x.f4 1 HS4.out (by have := HLEN.out; omega)).mono ?_; rintro e V5 ⟨⟨u, rfl⟩, h1⟩; rw [← HE5.out] at h1; have HS5 := mk_ h1; have kx5 := aD HS5.out.s2.blk; clear h1)
  | (go_at_call 54; (with_reducible show Calls _ _ _ V5 _); refine (iY s5 x.f5 HS5.out (by have := HLEN.out; omega)).mono ?_; rintro e V6 ⟨⟨u, rfl⟩, h1⟩; rw [← HE6.out] at h1; have HS6 := mk_ h1; have kx6 := aD HS6.out.s2.blk; clear h1)
  | (go_at_call 50; (with_reducible show Calls _ _ _ V6 _); refine (dD s6 x.f6 1 HS6.out (by have := HLEN.out; omega)).mono ?_; rintro e V7 ⟨⟨u, rfl⟩, h1⟩; rw [← HE7.out] at h1; have HS7 := mk_ h1; have kx7 := aD HS7.out.s2.blk; clear h1)
  | (go_at_call 56; refine (PAll.row_Bytes.calls 1100 A7 c7 x.f7 rb re _ (aU HC7.out HS7.out.s1.old) HX.out.2.2.1 HR.out).mono ?_; rintro e V8 ⟨v_, rfl, hr_, hq_⟩; obtain ⟨Ab, cb, rfl⟩ := cU hr_; have HS8 := mk_ (Sp.made HS7.out hq_ hr_).s1; clear hr_ hq_)
  | (go_at_call 55; refine (iE s7.1 s7.2 Ab cb rb re HS8.out (by have := HLEN.out; omega)).mono ?_; rintro e V9 ⟨⟨u, rfl⟩, h1⟩; rw [show ((s7.1, s7.2) : Wr) = s7 from rfl, ← HE8.out] at h1; have kx9 := aD h1.s2.blk; obtain ⟨v9, h2⟩ := WrP.open h1; have k91 := aD h2.blk 1; have f91 := aX h2.blk 1; have HS9 := mk_ h2; clear h1 h2)
  | (go_at_call 50; (with_reducible show Calls _ _ _ (World.setCell V9 _ _) _); refine (dD (b8, true) (x.f8.length : Int) 1 (WrP.shut (HS9.out.store 1 (.bool true))) (by have := HLEN.out; show b8.length ≤ _; omega)).mono ?_; rintro e V10 ⟨⟨u, rfl⟩, h1⟩; have HS10 := mk_ h1; have kx10 := aD HS10.out.s2.blk; clear h1))
   go_loopg [62] (x.f8.length + 1) (fun kq v62 W' => ∃ (i : Nat), v62 = .int .i64 (i : Int) ∧ Aside0 (Sp W' (WrP g (wAll wDot (x.f8.take i) (wNum (x.f8.length : Int) 1 (b8, true))) :: Old w0 :: Blk w.heap.size (.cells #[.int .i64 x.f0.f0, .int .i64 x.f0.f1, .slice A1 x.f1.length c1, .int .i64 x.f2.f0, .int .i64 x.f2.f1, .int .i64 x.f2.f2, .int .i64 x.f3, .int .i64 x.f4, .string x.f5, .int .i64 x.f6, .slice A7 x.f7.length c7, .slice A8 x.f8.length c8] 31 (0, 0)) :: F)) ∧ Aside0 (kq + i = x.f8.length + 1 ∧ i ≤ x.f8.length))
   case atStart => exact ⟨0, rfl, ⟨HS10.out⟩, ⟨by omega⟩⟩
   case round =>
    obtain ⟨i, rfl, HA, HK⟩ := hrel
    obtain ⟨k1, rfl⟩ : ∃ k1, gk = k1 + 1 := ⟨gk - 1, by have := HK.out; omega⟩
    by_cases hi : i < x.f8.length
    ·
     obtain ⟨ad, hA, hx0, hx1⟩ := fS (aU HC8.out HA.out.s1.old) (i : Int) z3_ z3_
     cases hA
     rw [rd_T_get hi] at hx0 hx1
     rw [Int.toNat_natCast] at hx0 hx1
     have hb0 : (0 ≤ (i : Int)) = True := eq_true z3_
     have hb1 : ((i : Int) < (x.f8.length : Int)) = True := eq_true z3_
     have hb2 : decide ((i : Int) < (x.f8.length : Int)) = true := decide_eq_true z3_
     have hb3 : decide (i < x.f8.length) = true := decide_eq_true hi
     have HI2 := mk_ hi
     have HT := mk_ (iA hi)
     generalize x.f8[i] = d at *
     clear hi
     have HD := mk_ (HA.out.box (.cells #[.int .i64 0, .int .i64 0] 24 (0, 0)))
     go_wp2_with (first | ((with_reducible refine fH (ty := 24) (x := .tmp 5) (y := .tmp 65) rfl ?_); refine wpList_store_row rfl 24 (.tmp 5) (.tmp 65) rfl wr.heap.size #[.int .i64 d.f0, .int .i64 d.f1] rfl rfl 24 #[.int .i64 0, .int .i64 0] HD.out.blk z2_ rfl (by first | decide | rfl | simp [Value.oneCell']) ?_; have HE := mk_ (cG HD.out #[.int .i64 d.f0, .int .i64 d.f1]); have kd := aD HE.out.blk) | (go_at_call 51; refine (gQ _ d HE.out.tail (by have := HLEN.out; have h1 := hI (f := wDot) (m := 14) jR (x.f8.take i) (wNum (x.f8.length : Int) 1 (b8, true)); have h2 := dU (x.f8.length : Int) 1 (b8, true); have h3 := HX.out.1.2.2; have h4 := List.length_take_le i x.f8; have h6 := HI2.out; have h5 : (b8, true).1.length = b8.length := rfl; omega)).mono ?_; rintro e W2 ⟨⟨u, rfl⟩, h1⟩; have HS11 := mk_ h1; clear h1))
     go_roundg k1
     case measure => exact Nat.lt_succ_self _
     case rel => exact ⟨i + 1, by rw [w64 z3_ (by have := HI2.out; have := HX.out.1.2.2; omega)]; rfl, ⟨by rw [HT.out, gT]; exact HS11.out⟩, ⟨by have := HK.out; omega, by have := HI2.out; omega⟩⟩
    ·
     have hie : i = x.f8.length := by have := HK.out; omega
     have hb2 : decide ((i : Int) < (x.f8.length : Int)) = false := decide_eq_false z3_
     have hb3 : decide (i < x.f8.length) = false := decide_eq_false hi
     clear hi
     go_wp2
     go_end0
     refine ⟨⟨_, rfl⟩, ?_⟩
     have h := HA.out
     rw [hie, List.take_length] at h
     rw [HU2.out]
     exact (Sp.s2 h).tail
  ·
   have hd1 : decide ((64 : Int) < (x.f8.length : Int)) = false := decide_eq_false z3_
   have hd2 : decide (64 < x.f8.length) = false := decide_eq_false hc
   have hn0 : wOr (decide (x.f8.length > 64)) (b8, false) = (b8, false) := by unfold wOr; simp; omega
   have HU2 := mk_ (HU.out.trans (congrArg (fun q => wAll wDot x.f8 (wNum x.f8.length 1 q)) hn0))
   clear hn0 HU
   go_enter Tryz.func25, Tryz.ntmps25
   go_wp2_with (first
  | (go_at_call 50; (with_reducible show Calls _ _ _ (World.alloc w _) _); refine (dD s x.f3 1 HS0.out (by have := HLEN.out; omega)).mono ?_; rintro e V1 ⟨⟨u, rfl⟩, h1⟩; rw [← HE1.out] at h1; have HS1 := mk_ h1; have kx1 := aD HS1.out.s2.blk; clear h1)
  | (go_at_call 51; (with_reducible show Calls _ _ _ V1 _); refine (gQ s1 x.f0 HS1.out (by have := HLEN.out; omega)).mono ?_; rintro e V2 ⟨⟨u, rfl⟩, h1⟩; rw [← HE2.out] at h1; have HS2 := mk_ h1; have kx2 := aD HS2.out.s2.blk; clear h1)
  | (go_at_call 52; (with_reducible show Calls _ _ _ V2 _); refine (iW A1 c1 x.f1 HC1.out HX.out.2.1 HX.out.1.1 s2 HS2.out (by have := HLEN.out; omega)).mono ?_; rintro e V3 ⟨⟨u, rfl⟩, h1⟩; rw [← HE3.out] at h1; have HS3 := mk_ h1; have kx3 := aD HS3.out.s2.blk; clear h1)
  | (go_at_call 53; (with_reducible show Calls _ _ _ V3 _); refine (iU s3 x.f2 HS3.out (by have := HLEN.out; omega)).mono ?_; rintro e V4 ⟨⟨u, rfl⟩, h1⟩; rw [← HE4.out] at h1; have HS4 := mk_ h1; have kx4 := aD HS4.out.s2.blk; clear h1)
  | (go_at_call 50; (with_reducible show Calls _ _ _ V4 _); refine (dD s4 x.f4 1 HS4.out (by have := HLEN.out; omega)).mono ?_; rintro e V5 ⟨⟨u, rfl⟩, h1⟩; rw [← HE5.out] at h1; have HS5 := mk_ h1; have kx5 := aD HS5.out.s2.blk; clear h1)
  | (go_at_call 54; (with_reducible show Calls _ _ _ V5 _); refine (iY s5 x.f5 HS5.out (by have := HLEN.out; omega)).mono ?_; rintro e V6 ⟨⟨u, rfl⟩, h1⟩; rw [← HE6.out] at h1; have HS6 := mk_ h1; have kx6 := aD HS6.out.s2.blk; clear h1)
  | (go_at_call 50; (with_reducible show Calls _ _ _ V6 _); refine (dD s6 x.f6 1 HS6.out (by have := HLEN.out; omega)).mono ?_; rintro e V7 ⟨⟨u, rfl⟩, h1⟩; rw [← HE7.out] at h1; have HS7 := mk_ h1; have kx7 := aD HS7.out.s2.blk; clear h1)
  | (go_at_call 56; refine (PAll.row_Bytes.calls 1100 A7 c7 x.f7 rb re _ (aU HC7.out HS7.out.s1.old) HX.out.2.2.1 HR.out).mono ?_; rintro e V8 ⟨v_, rfl, hr_, hq_⟩; obtain ⟨Ab, cb, rfl⟩ := cU hr_; have HS8 := mk_ (Sp.made HS7.out hq_ hr_).s1; clear hr_ hq_)
  | (go_at_call 55; refine (iE s7.1 s7.2 Ab cb rb re HS8.out (by have := HLEN.out; omega)).mono ?_; rintro e V9 ⟨⟨u, rfl⟩, h1⟩; rw [show ((s7.1, s7.2) : Wr) = s7 from rfl, ← HE8.out] at h1; have kx9 := aD h1.s2.blk; obtain ⟨v9, h2⟩ := WrP.open h1; have k91 := aD h2.blk 1; have f91 := aX h2.blk 1; have HS9 := mk_ h2; clear h1 h2)
  | (go_at_call 50; (with_reducible show Calls _ _ _ (World.setCell V9 _ _) _); refine (dD (b8, false) (x.f8.length : Int) 1 (WrP.shut (HS9.out.store 1 (.bool false))) (by have := HLEN.out; show b8.length ≤ _; omega)).mono ?_; rintro e V10 ⟨⟨u, rfl⟩, h1⟩; have HS10 := mk_ h1; have kx10 := aD HS10.out.s2.blk; clear h1))
   go_loopg [62] (x.f8.length + 1) (fun kq v62 W' => ∃ (i : Nat), v62 = .int .i64 (i : Int) ∧ Aside0 (Sp W' (WrP g (wAll wDot (x.f8.take i) (wNum (x.f8.length : Int) 1 (b8, false))) :: Old w0 :: Blk w.heap.size (.cells #[.int .i64 x.f0.f0, .int .i64 x.f0.f1, .slice A1 x.f1.length c1, .int .i64 x.f2.f0, .int .i64 x.f2.f1, .int .i64 x.f2.f2, .int .i64 x.f3, .int .i64 x.f4, .string x.f5, .int .i64 x.f6, .slice A7 x.f7.length c7, .slice A8 x.f8.length c8] 31 (0, 0)) :: F)) ∧ Aside0 (kq + i = x.f8.length + 1 ∧ i ≤ x.f8.length))
   case atStart => exact ⟨0, rfl, ⟨HS10.out⟩, ⟨by omega⟩⟩
   case round =>
    obtain ⟨i, rfl, HA, HK⟩ := hrel
    obtain ⟨k1, rfl⟩ : ∃ k1, gk = k1 + 1 := ⟨gk - 1, by have := HK.out; omega⟩
    by_cases hi : i < x.f8.length
    ·
     obtain ⟨ad, hA, hx0, hx1⟩ := fS (aU HC8.out HA.out.s1.old) (i : Int) z3_ z3_
     cases hA
     rw [rd_T_get hi] at hx0 hx1
     rw [Int.toNat_natCast] at hx0 hx1
     have hb0 : (0 ≤ (i : Int)) = True := eq_true z3_
     have hb1 : ((i : Int) < (x.f8.length : Int)) = True := eq_true z3_
     have hb2 : decide ((i : Int) < (x.f8.length : Int)) = true := decide_eq_true z3_
     have hb3 : decide (i < x.f8.length) = true := decide_eq_true hi
     have HI2 := mk_ hi
     have HT := mk_ (iA hi)
     generalize x.f8[i] = d at *
     clear hi
     have HD := mk_ (HA.out.box (.cells #[.int .i64 0, .int .i64 0] 24 (0, 0)))
     go_wp2_with (first | ((with_reducible refine fH (ty := 24) (x := .tmp 5) (y := .tmp 65) rfl ?_); refine wpList_store_row rfl 24 (.tmp 5) (.tmp 65) rfl wr.heap.size #[.int .i64 d.f0, .int .i64 d.f1] rfl rfl 24 #[.int .i64 0, .int .i64 0] HD.out.blk z2_ rfl (by first | decide | rfl | simp [Value.oneCell']) ?_; have HE := mk_ (cG HD.out #[.int .i64 d.f0, .int .i64 d.f1]); have kd := aD HE.out.blk) | (go_at_call 51; refine (gQ _ d HE.out.tail (by have := HLEN.out; have h1 := hI (f := wDot) (m := 14) jR (x.f8.take i) (wNum (x.f8.length : Int) 1 (b8, false)); have h2 := dU (x.f8.length : Int) 1 (b8, false); have h3 := HX.out.1.2.2; have h4 := List.length_take_le i x.f8; have h6 := HI2.out; have h5 : (b8, false).1.length = b8.length := rfl; omega)).mono ?_; rintro e W2 ⟨⟨u, rfl⟩, h1⟩; have HS11 := mk_ h1; clear h1))
     go_roundg k1
     case measure => exact Nat.lt_succ_self _
     case rel => exact ⟨i + 1, by rw [w64 z3_ (by have := HI2.out; have := HX.out.1.2.2; omega)]; rfl, ⟨by rw [HT.out, gT]; exact HS11.out⟩, ⟨by have := HK.out; omega, by have := HI2.out; omega⟩⟩
    ·
     have hie : i = x.f8.length := by have := HK.out; omega
     have hb2 : decide ((i : Int) < (x.f8.length : Int)) = false := decide_eq_false z3_
     have hb3 : decide (i < x.f8.length) = false := decide_eq_false hi
     clear hi
     go_wp2
     go_end0
     refine ⟨⟨_, rfl⟩, ?_⟩
     have h := HA.out
     rw [hie, List.take_length] at h
     rw [HU2.out]
     exact (Sp.s2 h).tail
end
end Go.Proofs.YtjnjfogfpmeacaaGreat.Ops
end
section
namespace Go.Proofs.YtjnjfogfpmeacaaGreat.Ops
open Go.RowKit PAll Ops Plain PrintWords PrintLast PrintMore Go.Proofs.YtjnjfogfpmeacaaGreat.Sep ZipT PrintWords.Kd PrintMore.Kd
set_option linter.unusedVariables false
set_option linter.unusedSimpArgs false
section
variable {w : World}
theorem bytes_sp (x : Ox) (A1 A7 A8 : Option Addr) (c1 c7 c8 : Nat) (hC1 : Kd.C (Kd.int .i64) w A1 x.f1.length x.f1) (h1c : x.f1.length ≤ c1) (hC7 : Kd.C k102 w A7 x.f7.length x.f7) (h7c : x.f7.length ≤ c7) (hC8 : Kd.C k24 w A8 x.f8.length x.f8) (h8c : x.f8.length ≤ c8) (hx : opSmall x) :
  Calls Tryz.prog 8 #[.agg #[.int .i64 x.f0.f0, .int .i64 x.f0.f1, .slice A1 x.f1.length c1, .int .i64 x.f2.f0, .int .i64 x.f2.f1, .int .i64 x.f2.f2, .int .i64 x.f3, .int .i64 x.f4, .string x.f5, .int .i64 x.f6, .slice A7 x.f7.length c7, .slice A8 x.f8.length c8]] w fun e w' => ∃ v, e = .returned (.tuple #[v, .int .i64 (sOpBytes x).2]) ∧ Sp w' [Row (Kd.int .u8) 5 v (sOpBytes x).1, Old w] := by
 have h1 := (Sp.start w).box (.cells #[.int .i64 x.f0.f0, .int .i64 x.f0.f1, .slice A1 x.f1.length c1, .int .i64 x.f2.f0, .int .i64 x.f2.f1, .int .i64 x.f2.f2, .int .i64 x.f3, .int .i64 x.f4, .string x.f5, .int .i64 x.f6, .slice A7 x.f7.length c7, .slice A8 x.f8.length c8] 31 (0, 0))
 have h2 := h1.box (.cells #[.slice none 0 0, .bool false] 60 (0, 0))
 rw [show (w.alloc (.cells #[.int .i64 x.f0.f0, .int .i64 x.f0.f1, .slice A1 x.f1.length c1, .int .i64 x.f2.f0, .int .i64 x.f2.f1, .int .i64 x.f2.f2, .int .i64 x.f3, .int .i64 x.f4, .string x.f5, .int .i64 x.f6, .slice A7 x.f7.length c7, .slice A8 x.f8.length c8] 31 (0, 0))).heap.size = w.heap.size + 1 from Array.size_push _] at h2
 have h3 := WrP.shut (bs := []) (bad := false) (v := .slice none 0 0) (fL (d := Kd.int .u8) (e := 5) h2).s1
 have hQ := wop_calls (w0 := w) x A1 A7 A8 c1 c7 c8 hC1 h1c hC7 h7c hC8 h8c hx ([], false) h3.s2.s1 (by show 0 ≤ _; omega)
 have hu : sOpBytes x = if (wOp x ([], false)).2 = true then ([], 1) else ((wOp x ([], false)).1, 0) := rfl
 rw [hu]
 clear h1 h2 h3 hC1 hC7 hC8 h1c h7c h8c hx hu
 generalize wOp x ([], false) = q at hQ ⊢
 obtain ⟨bs, bad⟩ := q
 have HQ := mk_ hQ
 clear hQ
 cases bad with
 | true =>
  rw [if_pos rfl]
  go_enter Tryz.func8, Tryz.ntmps8
  go_wp2_with (go_at_call 25; refine HQ.out.mono ?_; rintro e V ⟨⟨u, rfl⟩, h⟩; obtain ⟨v, h4⟩ := WrP.open h; obtain ⟨Av, cv, rfl, _, _⟩ := h4.tail.row; have k0 := aD h4.blk 0; have k1 := aD h4.blk 1; have HS := mk_ h4; clear h h4)
  go_ret2
  exact ⟨_, rfl, fL HS.out.tail.tail.s1.tail⟩
 | false =>
  rw [if_neg (by show ¬ (false = true); decide)]
  go_enter Tryz.func8, Tryz.ntmps8
  go_wp2_with (go_at_call 25; refine HQ.out.mono ?_; rintro e V ⟨⟨u, rfl⟩, h⟩; obtain ⟨v, h4⟩ := WrP.open h; obtain ⟨Av, cv, rfl, _, _⟩ := h4.tail.row; have k0 := aD h4.blk 0; have k1 := aD h4.blk 1; have HS := mk_ h4; clear h h4)
  go_ret2
  exact ⟨_, rfl, HS.out.tail.s2.tail⟩
end
end Go.Proofs.YtjnjfogfpmeacaaGreat.Ops
end
section
namespace Go.Proofs.YtjnjfogfpmeacaaGreat.PAll
open Go.RowKit PAll Ops Plain PrintWords PrintLast PrintMore Go.Proofs.YtjnjfogfpmeacaaGreat.Sep ZipT PrintWords.Kd PrintMore.Kd
set_option linter.unusedVariables false
set_option linter.unusedSimpArgs false
def iB.f (a0_0 : Int) (a0_1 : Int) (l0_2 : List Int) (a0_3 : Int) (a0_4 : Int) (a0_5 : Int) (a0_6 : Int) (a0_7 : Int) (a0_8 : ByteArray) (a0_9 : Int) (l0_10 : List V) (l0_11 : List Dt) : Option (List Int × Int) := if opSmall (⟨⟨a0_0, a0_1⟩, l0_2, ⟨a0_3, a0_4, a0_5⟩, a0_6, a0_7, a0_8, a0_9, l0_10, l0_11⟩ : Ox) then some (sOpBytes (⟨⟨a0_0, a0_1⟩, l0_2, ⟨a0_3, a0_4, a0_5⟩, a0_6, a0_7, a0_8, a0_9, l0_10, l0_11⟩ : Ox)) else none
theorem iB.calls (a0_0 : Int) (a0_1 : Int) (A0_2 : Option Addr) (c0_2 : Nat) (l0_2 : List Int) (a0_3 : Int) (a0_4 : Int) (a0_5 : Int) (a0_6 : Int) (a0_7 : Int) (a0_8 : ByteArray) (a0_9 : Int) (A0_10 : Option Addr) (c0_10 : Nat) (l0_10 : List V) (A0_11 : Option Addr) (c0_11 : Nat) (l0_11 : List Dt) (r1 : List Int) (r2 : Int) (w : World) (hr0_2 : Kd.C (Kd.int .i64) w A0_2 l0_2.length l0_2) (hc0_2 : l0_2.length ≤ c0_2) (hr0_10 : Kd.C k102 w A0_10 l0_10.length l0_10) (hc0_10 : l0_10.length ≤ c0_10) (hr0_11 : Kd.C k24 w A0_11 l0_11.length l0_11) (hc0_11 : l0_11.length ≤ c0_11) (h : iB.f a0_0 a0_1 l0_2 a0_3 a0_4 a0_5 a0_6 a0_7 a0_8 a0_9 l0_10 l0_11 = some (r1, r2)) :
  Calls Tryz.prog 8 #[.agg #[.int .i64 a0_0, .int .i64 a0_1, .slice A0_2 l0_2.length c0_2, .int .i64 a0_3, .int .i64 a0_4, .int .i64 a0_5, .int .i64 a0_6, .int .i64 a0_7, .string a0_8, .int .i64 a0_9, .slice A0_10 l0_10.length c0_10, .slice A0_11 l0_11.length c0_11]] w fun e w' => ∃ v0_ : Value, e = .returned (.tuple #[v0_, .int .i64 r2]) ∧ Kd.R (Kd.int .u8) 5 w' w.heap.size (fun _ => True) v0_ r1 ∧ Below w.heap.size w w' := by
 unfold iB.f at h
 split at h
 ·
  rename_i hs
  have he := Option.some.inj h
  have hQ := bytes_sp (⟨⟨a0_0, a0_1⟩, l0_2, ⟨a0_3, a0_4, a0_5⟩, a0_6, a0_7, a0_8, a0_9, l0_10, l0_11⟩ : Ox) A0_2 A0_10 A0_11 c0_2 c0_10 c0_11 hr0_2 hc0_2 hr0_10 hc0_10 hr0_11 hc0_11 hs
  rw [he] at hQ
  refine hQ.mono ?_
  rintro e w' ⟨v, rfl, h1⟩
  exact ⟨v, rfl, Sp.rowOut (fun h => h) h1, h1.tail.old⟩
 ·
  cases h
instance (l : List Int) : Decidable (Bytes l) := by unfold Bytes Byte; infer_instance
def iQ.f (l0 : List Int) (a1 : Int) : Option (Int × Int × List Int × Int × Int × Int × Int × Int × ByteArray × Int × List V × List Dt × Int × Int) := if Bytes l0 ∧ l0.length ≤ 1000000 then some ((sOpRead l0 a1).1.f0.f0, (sOpRead l0 a1).1.f0.f1, (sOpRead l0 a1).1.f1, (sOpRead l0 a1).1.f2.f0, (sOpRead l0 a1).1.f2.f1, (sOpRead l0 a1).1.f2.f2, (sOpRead l0 a1).1.f3, (sOpRead l0 a1).1.f4, (sOpRead l0 a1).1.f5, (sOpRead l0 a1).1.f6, (sOpRead l0 a1).1.f7, (sOpRead l0 a1).1.f8, (sOpRead l0 a1).2.1, (sOpRead l0 a1).2.2) else none
theorem iQ.calls (A0 : Option Addr) (c0 : Nat) (l0 : List Int) (a1 : Int) (r1 : Int) (r2 : Int) (r3 : List Int) (r4 : Int) (r5 : Int) (r6 : Int) (r7 : Int) (r8 : Int) (r9 : ByteArray) (r10 : Int) (r11 : List V) (r12 : List Dt) (r13 : Int) (r14 : Int) (w : World) (hr0 : Kd.C (Kd.int .u8) w A0 l0.length l0) (hc0 : l0.length ≤ c0) (h : iQ.f l0 a1 = some (r1, r2, r3, r4, r5, r6, r7, r8, r9, r10, r11, r12, r13, r14)) :
  Calls Tryz.prog 19 #[.slice A0 l0.length c0, .int .i64 a1] w fun e w' => ∃ v2_ v10_ v11_ : Value, e = .returned (.tuple #[.agg #[.int .i64 r1, .int .i64 r2, v2_, .int .i64 r4, .int .i64 r5, .int .i64 r6, .int .i64 r7, .int .i64 r8, .string r9, .int .i64 r10, v10_, v11_], .int .i64 r13, .int .i64 r14]) ∧ Kd.R (Kd.int .i64) 3 w' w.heap.size (fun _ => True) v2_ r3 ∧ Kd.R k102 102 w' w.heap.size (fun _ => True) v10_ r11 ∧ Kd.R k24 24 w' w.heap.size (fun _ => True) v11_ r12 ∧ Below w.heap.size w w' := by
 unfold iQ.f at h
 split at h
 ·
  rename_i hs
  have he := Option.some.inj h
  simp only [Prod.mk.injEq] at he
  obtain ⟨rfl, rfl, rfl, rfl, rfl, rfl, rfl, rfl, rfl, rfl, rfl, rfl, rfl, rfl⟩ := he
  refine (read_sp hr0 hc0 hs.1 hs.2 a1).mono ?_
  rintro e w' ⟨v1, v7, v8, rfl, h1⟩
  exact ⟨v1, v7, v8, rfl, Sp.rowOut (fun h => h) h1.s1.tail.s1.tail, Sp.rowOut (fun h => h) h1.tail.s1.tail, Sp.rowOut (fun h => h) h1.tail.tail, h1.tail.tail.tail.old⟩
 ·
  cases h
end Go.Proofs.YtjnjfogfpmeacaaGreat.PAll
end
section
namespace Go.Proofs.YtjnjfogfpmeacaaGreat.Ops
open Go.RowKit PAll Plain PrintWords PrintMore ZipT PrintWords.Kd PrintMore.Kd
set_option linter.unusedVariables false
set_option linter.unusedSimpArgs false
instance : DecidableEq Dt := fun a b => decidable_of_iff (a.f0 = b.f0 ∧ a.f1 = b.f1) ⟨fun ⟨h0, h1⟩ => by cases a; cases b; simp_all, fun h => by subst h; exact ⟨rfl, rfl⟩⟩
instance : DecidableEq St := fun a b => decidable_of_iff (a.f0 = b.f0 ∧ a.f1 = b.f1 ∧ a.f2 = b.f2) ⟨fun ⟨h0, h1, h2⟩ => by cases a; cases b; simp_all, fun h => by subst h; exact ⟨rfl, rfl, rfl⟩⟩
instance : DecidableEq Ox := fun a b => decidable_of_iff (a.f0 = b.f0 ∧ a.f1 = b.f1 ∧ a.f2 = b.f2 ∧ a.f3 = b.f3 ∧ a.f4 = b.f4 ∧ a.f5 = b.f5 ∧ a.f6 = b.f6 ∧ a.f7 = b.f7 ∧ a.f8 = b.f8) ⟨fun ⟨h0, h1, h2, h3, h4, h5, h6, h7, h8⟩ => by cases a; cases b; simp_all, fun h => by subst h; exact ⟨rfl, rfl, rfl, rfl, rfl, rfl, rfl, rfl, rfl⟩⟩
theorem keepDot_eq (a b : Dt) : dX.f a.f0 a.f1 b.f0 b.f1 = some (decide (a = b)) := by
 obtain ⟨a0, a1⟩ := a
 obtain ⟨b0, b1⟩ := b
 unfold dX.f
 simp only
 by_cases h : a0 = b0
 rotate_left
 ·
  rw [if_neg h, decide_eq_false (fun e => h (by injection e))]
 rw [if_pos h]; subst h
 by_cases h1 : a1 = b1
 ·
  subst h1; rw [decide_eq_true rfl, beq_self_eq_true]
 rw [decide_eq_false (fun e => h1 (by injection e)), beq_eq_false_iff_ne.2 h1]
theorem keepStamp_eq (a b : St) : eM.f a.f0 a.f1 a.f2 b.f0 b.f1 b.f2 = some (decide (a = b)) := by
 obtain ⟨a0, a1, a2⟩ := a
 obtain ⟨b0, b1, b2⟩ := b
 unfold eM.f
 simp only
 by_cases h : a0 = b0
 rotate_left
 ·
  rw [if_neg h, decide_eq_false (fun e => h (by injection e))]
 rw [if_pos h]; subst h
 by_cases h1 : a1 = b1
 rotate_left
 ·
  rw [if_neg h1, decide_eq_false (fun e => h1 (by injection e))]
 rw [if_pos h1]; subst h1
 by_cases h2 : a2 = b2
 ·
  subst h2; rw [decide_eq_true rfl, beq_self_eq_true]
 rw [decide_eq_false (fun e => h2 (by injection e)), beq_eq_false_iff_ne.2 h2]
theorem keepDots_l0 (a b : List Dt) (ha : a.length ≤ 1000000) (hl : a.length = b.length) (m : List Dt) : ∀ (k i : Nat), a.drop i = m → m.length < k →
  bT.l0 k a b (i : Int) = some (decide (m = b.drop i)) := by
 induction m with
 | nil =>
  intro k i h hk
  obtain ⟨k, rfl⟩ : ∃ j, k = j + 1 := ⟨k - 1, by omega⟩
  have h1 := dI h
  simp only [bT.l0]
  rw [if_neg z3_, List.drop_eq_nil_iff.2 z3_]; simp
 | cons v m ih =>
  intro k i h hk
  obtain ⟨k, rfl⟩ : ∃ j, k = j + 1 := ⟨k - 1, by omega⟩
  have h1 := dO h
  simp only [bT.l0]
  cases hd : b.drop i with
  | nil => have h2 := dI hd; omega
  | cons t n =>
   rw [if_pos z3_, if_pos z3_, if_pos z3_, iN h, iN hd, keepDot_eq, Option.bind_some, w64 z3_ z3_]
   by_cases hz : v = t
   rotate_left
   ·
    rw [decide_eq_false hz, if_neg z5_]
    simp [hz]
   have := ih k (i + 1) (cM h) (by simp at hk; omega)
   rw [decide_eq_true hz, if_pos rfl, show ((i : Int) + 1) = ((i + 1 : Nat) : Int) from rfl, this, cM hd, hz]
   simp
theorem keepDots_eq (k : Nat) (a b : List Dt) (ha : a.length ≤ 1000000) (hk : a.length + 1 ≤ k) : bT.f k a b = some (decide (a = b)) := by
 unfold bT.f
 by_cases hl : (a.length : Int) = b.length
 rotate_left
 ·
  rw [if_neg hl, decide_eq_false (fun e => hl (by rw [e]))]
 rw [if_pos hl]
 exact keepDots_l0 a b ha z3_ a k 0 rfl z3_
theorem keepOp_eq (k : Nat) (x y : Ox) (h1 : x.f1.length ≤ 1000000) (h7 : x.f7.length ≤ 1000000) (h8 : x.f8.length ≤ 1000000) (hk : x.f1.length + 1 ≤ k ∧ x.f7.length + 1 ≤ k ∧ x.f8.length + 1 ≤ k) :
  eQ.f k x.f0.f0 x.f0.f1 x.f1 x.f2.f0 x.f2.f1 x.f2.f2 x.f3 x.f4 x.f5 x.f6 x.f7 x.f8 y.f0.f0 y.f0.f1 y.f1 y.f2.f0 y.f2.f1 y.f2.f2 y.f3 y.f4 y.f5 y.f6 y.f7 y.f8 = some (decide (x = y)) := by
 unfold eQ.f
 rw [keepDot_eq, Option.bind_some]
 by_cases e0 : x.f0 = y.f0
 rotate_left
 ·
  rw [decide_eq_false e0, if_neg z5_, decide_eq_false (fun e => e0 (by rw [e]))]
 rw [decide_eq_true e0, if_pos rfl, keepInts_eq _ _ _ h1 hk.1, Option.bind_some]
 by_cases e1 : x.f1 = y.f1
 rotate_left
 ·
  rw [decide_eq_false e1, if_neg z5_, decide_eq_false (fun e => e1 (by rw [e]))]
 rw [decide_eq_true e1, if_pos rfl, keepStamp_eq, Option.bind_some]
 by_cases e2 : x.f2 = y.f2
 rotate_left
 ·
  rw [decide_eq_false e2, if_neg z5_, decide_eq_false (fun e => e2 (by rw [e]))]
 rw [decide_eq_true e2, if_pos rfl]
 by_cases e3 : x.f3 = y.f3
 rotate_left
 ·
  rw [if_neg e3, decide_eq_false (fun e => e3 (by rw [e]))]
 rw [if_pos e3]
 by_cases e4 : x.f4 = y.f4
 rotate_left
 ·
  rw [if_neg e4, decide_eq_false (fun e => e4 (by rw [e]))]
 rw [if_pos e4]
 by_cases e5 : x.f5 = y.f5
 rotate_left
 ·
  rw [if_neg (fun e => e5 (toList_inj.1 e)), decide_eq_false (fun e => e5 (by rw [e]))]
 rw [if_pos (toList_inj.2 e5)]
 by_cases e6 : x.f6 = y.f6
 rotate_left
 ·
  rw [if_neg e6, decide_eq_false (fun e => e6 (by rw [e]))]
 rw [if_pos e6, keepRow_eq _ _ _ h7 hk.2.1, Option.bind_some]
 by_cases e7 : x.f7 = y.f7
 rotate_left
 ·
  rw [decide_eq_false e7, if_neg z5_, decide_eq_false (fun e => e7 (by rw [e]))]
 rw [decide_eq_true e7, if_pos rfl, keepDots_eq _ _ _ h8 hk.2.2, Option.bind_some]
 by_cases e8 : x.f8 = y.f8
 rotate_left
 ·
  rw [decide_eq_false e8, decide_eq_false (fun e => e8 (by rw [e]))]
 rw [decide_eq_true e8, decide_eq_true]
 cases x; cases y; simp_all
theorem bytes_f (x : Ox) (h : opSmall x) : iB.f x.f0.f0 x.f0.f1 x.f1 x.f2.f0 x.f2.f1 x.f2.f2 x.f3 x.f4 x.f5 x.f6 x.f7 x.f8 = some (sOpBytes x) := by
 unfold iB.f
 rw [if_pos h]
theorem read_f (l : List Int) (a : Int) (hb : Bytes l) (hl : l.length ≤ 1000000) : iQ.f l a = some ((sOpRead l a).1.f0.f0, (sOpRead l a).1.f0.f1, (sOpRead l a).1.f1, (sOpRead l a).1.f2.f0, (sOpRead l a).1.f2.f1, (sOpRead l a).1.f2.f2, (sOpRead l a).1.f3, (sOpRead l a).1.f4, (sOpRead l a).1.f5, (sOpRead l a).1.f6, (sOpRead l a).1.f7, (sOpRead l a).1.f8, (sOpRead l a).2.1, (sOpRead l a).2.2) := by
 unfold iQ.f
 rw [if_pos ⟨hb, hl⟩]
theorem opFit_small {x : Ox} (h : opFit x) : opSmall x := by
 have h1 := h.1.1.1.1.1.1.2.1
 have h7 := ((gO x.f7).1 h.1.2).1
 have h8 := h.2.1
 exact ⟨by omega, by omega, by omega⟩
theorem encT_bytes (t : ByteArray) (h : t.size ≤ 24) : Bytes (encT t) := Bytes.cons ⟨by omega, by omega⟩ (jE t)
theorem jG {α : Type} {f : α → List Int} (h : ∀ x, Bytes (f x)) : ∀ l : List α, Bytes (l.flatMap f)
 | [] => Bytes.nil
 | x :: l => by rw [List.flatMap_cons]; exact (h x).append (jG h l)
theorem opB_bytes {x : Ox} (h : opFit x) : Bytes (opB x) := by
 have hd : ∀ d : Dt, Bytes (dotB d) := fun d => (fI _ _).append (fI _ _)
 unfold opB numsB stampB dotsB
 exact ((((((((fI _ _).append (hd _)).append ((fI _ _).append (jG (fun n => fI _ _) _))).append (((fI _ _).append (fI _ _)).append (fI _ _))).append (fI _ _)).append (encT_bytes _ h.1.1.1.2)).append (fI _ _)).append (rowB_bytes h.1.2)).append ((fI _ _).append (jG hd _))
theorem read_back {x : Ox} (h : opFit x) : sOpRead (opB x) 0 = (x, ((opB x).length : Int), 0) := by
 have := opRead_put [] [] x h
 simpa using this
def wakeOp : Ox := ⟨⟨0, 2⟩, [1], ⟨0, 0, 0⟩, 3, 0, ⟨#[107]⟩, 0, [], [⟨0, 1⟩]⟩
theorem iX : opFit wakeOp := by decide
end Go.Proofs.YtjnjfogfpmeacaaGreat.Ops
end
section
namespace Go.Proofs.YtjnjfogfpmeacaaGreat.Ops
open Go.RowKit PAll Plain PrintWords PrintMore ZipT PrintWords.Kd PrintMore.Kd
set_option linter.unusedVariables false
set_option linter.unusedSimpArgs false
theorem iS (n : Int) (s : Nat) (h1 : 1 ≤ s) (h7 : s ≤ 7) : bL.f n (s : Int) = some (decide (fitN s n)) := by
 unfold bL.f
 by_cases h : n ≥ 0
 rotate_left
 ·
  rw [if_neg h, decide_eq_false (fun e => h e.1)]
 rw [if_pos h, w64 z3_ z3_, wu64 z3_ z3_, if_pos z3_, shr_bytes n s z3_]
 congr 1
 have hp : (0 : Int) < 256 ^ s := Int.pow_pos z5_
 by_cases hf : fitN s n
 ·
  rw [decide_eq_true hf, beq_iff_eq]; exact Int.ediv_eq_zero_of_lt hf.1 hf.2
 rw [decide_eq_false hf, beq_eq_false_iff_ne]
 intro e
 apply hf
 refine ⟨h, ?_⟩
 have h3 := Int.ediv_mul_le n (show (256 : Int) ^ s ≠ 0 by omega)
 have h4 := Int.emod_lt_of_pos n hp
 have h5 := Int.emod_add_mul_ediv n (256 ^ s)
 rw [e, Int.mul_zero, Int.add_zero] at h5
 omega
theorem dotFit_eq (d : Dt) : dL.f d.f0 d.f1 = some (decide (dotFit d)) := by
 have a1 := iS d.f0 1 z5_ z5_
 have a4 := iS d.f1 4 z5_ z5_
 unfold dL.f
 refine (congrArg (fun q => Option.bind q _) a1).trans ?_
 rw [Option.bind_some]
 by_cases h1 : fitN 1 d.f0
 rotate_left
 ·
  rw [decide_eq_false h1, if_neg z5_, decide_eq_false (fun e => h1 e.1)]
 rw [decide_eq_true h1, if_pos rfl]
 refine (congrArg (fun q => Option.bind q _) a4).trans ?_
 rw [Option.bind_some]
 congr 1; rw [decide_eq_decide]; exact ⟨fun e => ⟨h1, e⟩, fun e => e.2⟩
theorem stampFit_eq (t : St) : eE.f t.f0 t.f1 t.f2 = some (decide (stampFit t)) := by
 have a1 := iS t.f0 6 z5_ z5_
 have a2 := iS t.f1 3 z5_ z5_
 have a3 := iS t.f2 1 z5_ z5_
 unfold eE.f
 refine (congrArg (fun q => Option.bind q _) a1).trans ?_
 rw [Option.bind_some]
 by_cases h1 : fitN 6 t.f0
 rotate_left
 ·
  rw [decide_eq_false h1, if_neg z5_, decide_eq_false (fun e => h1 e.1.1)]
 rw [decide_eq_true h1, if_pos rfl]
 refine (congrArg (fun q => Option.bind q _) a2).trans ?_
 rw [Option.bind_some]
 by_cases h2 : fitN 3 t.f1
 rotate_left
 ·
  rw [decide_eq_false h2, if_neg z5_, decide_eq_false (fun e => h2 e.1.2)]
 rw [decide_eq_true h2, if_pos rfl]
 refine (congrArg (fun q => Option.bind q _) a3).trans ?_
 rw [Option.bind_some]
 congr 1; rw [decide_eq_decide]; exact ⟨fun e => ⟨⟨h1, h2⟩, e⟩, fun e => e.2⟩
theorem vecFit_l0 (l : List Int) (hl : l.length ≤ 1000000) (m : List Int) : ∀ (k i : Nat), l.drop i = m → m.length < k →
  bV.l0 k l (i : Int) = some (decide ((∀ n ∈ m, fitN 4 n) ∧ l.length ≤ 5)) := by
 induction m with
 | nil =>
  intro k i h hk
  obtain ⟨k, rfl⟩ : ∃ j, k = j + 1 := ⟨k - 1, by omega⟩
  have := dI h
  simp only [bV.l0]
  rw [if_neg z3_]
  congr 1; rw [decide_eq_decide]; constructor
  ·
   intro e; exact ⟨fun n hn => (by cases hn), by omega⟩
  ·
   intro e; have := e.2; omega
 | cons v m ih =>
  intro k i h hk
  obtain ⟨k, rfl⟩ : ∃ j, k = j + 1 := ⟨k - 1, by omega⟩
  have hi := dO h
  simp only [List.length_cons] at hk
  have a4 := iS v 4 z5_ z5_
  simp only [bV.l0]
  rw [if_pos z3_, if_pos z3_, gB h]
  refine (congrArg (fun q => Option.bind q _) a4).trans ?_
  rw [Option.bind_some]
  by_cases ho : fitN 4 v
  rotate_left
  ·
   rw [decide_eq_false ho, if_neg z5_, decide_eq_false (fun e => ho (e.1 v List.mem_cons_self))]
  rw [decide_eq_true ho, if_pos rfl, w64 z3_ z3_]
  refine (ih k (i + 1) (cM h) z3_).trans ?_
  congr 1; rw [decide_eq_decide]
  exact ⟨fun e => ⟨fun n hn => by rcases List.mem_cons.1 hn with rfl | hn; exact ho; exact e.1 n hn, e.2⟩, fun e => ⟨fun n hn => e.1 n (List.mem_cons_of_mem _ hn), e.2⟩⟩
theorem vecFit_eq (k : Nat) (l : List Int) (hl : l.length ≤ 1000000) (hk : l.length < k) : bV.f k l = some (decide (numsFit l)) := by
 have := vecFit_l0 l hl l k 0 rfl hk
 unfold bV.f
 refine this.trans ?_
 congr 1; rw [decide_eq_decide]; exact ⟨fun e => ⟨e.2, e.1⟩, fun e => ⟨e.2, e.1⟩⟩
end Go.Proofs.YtjnjfogfpmeacaaGreat.Ops
end
section
namespace Go.Proofs.YtjnjfogfpmeacaaGreat.Ops
open Go.RowKit PAll Ops Plain PrintWords PrintLast PrintMore ZipT PrintWords.Kd PrintMore.Kd
set_option linter.unusedVariables false
set_option linter.unusedSimpArgs false
def dotsOk (l : List Dt) : Bool := decide (∀ d ∈ l, dotFit d)
theorem dots_step {l : List Dt} {i : Nat} (h : i < l.length) : dotsOk (l.drop i) = (decide (dotFit (aW l (i : Int))) && dotsOk (l.drop (i + 1))) := by
 have e1 := List.drop_eq_getElem_cons h
 rw [iN e1, e1]
 unfold dotsOk
 rw [← Bool.decide_and]
 exact decide_eq_decide.2 List.forall_mem_cons
set_option maxHeartbeats 40000000 in
theorem fits_calls (x : Ox) (A2 : Option Addr) (c2 : Nat) (A10 : Option Addr) (c10 : Nat) (A11 : Option Addr) (c11 : Nat) (w : World) (hr2 : Kd.C (Kd.int .i64) w A2 x.f1.length x.f1) (hc2 : x.f1.length ≤ c2) (hr10 : Kd.C k102 w A10 x.f7.length x.f7) (hc10 : x.f7.length ≤ c10) (hr11 : Kd.C k24 w A11 x.f8.length x.f8) (hc11 : x.f8.length ≤ c11)
  (hx : opSmall x) :
  Calls Tryz.prog 17 #[.agg #[.int .i64 x.f0.f0, .int .i64 x.f0.f1, .slice A2 x.f1.length c2, .int .i64 x.f2.f0, .int .i64 x.f2.f1, .int .i64 x.f2.f2, .int .i64 x.f3, .int .i64 x.f4, .string x.f5, .int .i64 x.f6, .slice A10 x.f7.length c10, .slice A11 x.f8.length c11]] w fun e w' => e = .returned (.bool (decide (opFit x))) ∧ Below w.heap.size w w' := by
 have hu1 := Tryz.underlying31
 have hu2 := Tryz.underlying24
 have hu3 := Tryz.underlying27
 obtain ⟨b3, e3⟩ : ∃ b, decide (fitN 1 x.f3) = b := ⟨_, rfl⟩
 obtain ⟨b0, e0⟩ : ∃ b, decide (dotFit x.f0) = b := ⟨_, rfl⟩
 obtain ⟨b1, e1⟩ : ∃ b, decide (numsFit x.f1) = b := ⟨_, rfl⟩
 obtain ⟨b2, e2⟩ : ∃ b, decide (stampFit x.f2) = b := ⟨_, rfl⟩
 obtain ⟨b4, e4⟩ : ∃ b, decide (fitN 1 x.f4) = b := ⟨_, rfl⟩
 obtain ⟨b5, e5⟩ : ∃ b, decide (24 < x.f5.size) = b := ⟨_, rfl⟩
 obtain ⟨b6, e6⟩ : ∃ b, decide (fitN 1 x.f6) = b := ⟨_, rfl⟩
 obtain ⟨b7, e7⟩ : ∃ b, decide (rowE x.f7 = 0) = b := ⟨_, rfl⟩
 obtain ⟨b8, e8⟩ : ∃ b, decide (64 < x.f8.length) = b := ⟨_, rfl⟩
 obtain ⟨ok, hok⟩ : ∃ b, (b3 && b0 && b1 && b2 && b4 && !b5 && b6 && b7 && !b8) = b := ⟨_, rfl⟩
 obtain ⟨res, hres⟩ : ∃ r, decide (opFit x) = r := ⟨_, rfl⟩
 rw [hres]
 have HR0 := mk_ (show res = (ok && dotsOk x.f8) from by
  rw [← hres, ← hok, ← e3, ← e0, ← e1, ← e2, ← e4, ← e5, ← e6, ← e7, ← e8]
  unfold opFit dotsFit dotsOk
  rw [show (!decide (24 < x.f5.size)) = decide (x.f5.size ≤ 24) from by rw [← decide_not]; exact decide_eq_decide.2 Nat.not_lt, show (!decide (64 < x.f8.length)) = decide (x.f8.length ≤ 64) from by rw [← decide_not]; exact decide_eq_decide.2 Nat.not_lt]
  simp only [← Bool.decide_and]
  exact decide_eq_decide.2 (by simp only [and_assoc]))
 have HX := mk_ hok.symm
 have H3 := mk_ (show bL.f x.f3 1 = some b3 from (iS x.f3 1 z5_ z5_).trans (by rw [e3]))
 have H0 := mk_ (show dL.f x.f0.f0 x.f0.f1 = some b0 by rw [dotFit_eq, e0])
 have H1 := mk_ (show bV.f 2000 x.f1 = some b1 by rw [vecFit_eq _ _ (by have := hx.1; omega) (by have := hx.1; omega), e1])
 have H2 := mk_ (show eE.f x.f2.f0 x.f2.f1 x.f2.f2 = some b2 by rw [stampFit_eq, e2])
 have H4 := mk_ (show bL.f x.f4 1 = some b4 from (iS x.f4 1 z5_ z5_).trans (by rw [e4]))
 have H6 := mk_ (show bL.f x.f6 1 = some b6 from (iS x.f6 1 z5_ z5_).trans (by rw [e6]))
 have H7 := mk_ (refRow_eq 2000 x.f7 (by have := hx.2.1; omega) (by have := hx.2.1; omega))
 have f5 : decide ((24 : Int) < (x.f5.size : Int)) = b5 := by rw [← e5]; exact decide_eq_decide.2 z3_
 have f8 : decide ((64 : Int) < (x.f8.length : Int)) = b8 := by rw [← e8]; exact decide_eq_decide.2 z3_
 have f7 : (rowE x.f7 == 0) = b7 := by rw [← e7]; exact (Bool.beq_eq_decide_eq _ _)
 have f7' : (rowE x.f7 != 0) = !b7 := by rw [← f7]; rfl
 have HR2 := mk_ hr2
 have HC2 := mk_ hc2
 have HR10 := mk_ hr10
 have HC10 := mk_ hc10
 have HR11 := mk_ hr11
 have HN := mk_ hx
 clear e3 e0 e1 e2 e4 e6 hres hok hr2 hc2 hr10 hc10 hr11 hc11 hx
 have HB := mk_ (Below.refl w.heap.size w)
 go_enter Tryz.func17, Tryz.ntmps17
 go_upto_region 1 with (first | ((with_reducible refine aQ (N := 1) rfl ?_); (try (refine dC (by rfl) ?_; dsimp only)); refine aN ?hg (N := 1) ?hd (cs := #[.int .i64 x.f0.f0, .int .i64 x.f0.f1, .slice A2 x.f1.length c2, .int .i64 x.f2.f0, .int .i64 x.f2.f1, .int .i64 x.f2.f2, .int .i64 x.f3, .int .i64 x.f4, .string x.f5, .int .i64 x.f6, .slice A10 x.f7.length c10, .slice A11 x.f8.length c11]) (t := 31) ?hr ?_; (case hd => rfl); (case hg => rfl); (case hr => first | (go_simp; done) | (go_simp; rfl)); intro gb hg w5 hbox hb; have n0_ := mk_ (aC HB.out hb); have n1_ := mk_ (hbox); clear HB; revert n0_ n1_; intro HB BK; clear hb hbox hg))
 (try simp only [Act.put, List.setIfInBounds_toArray, List.set_cons_zero, List.set_cons_succ])
 go_cut [55] (fun v55 wc => ∃ b : Bool, v55 = .bool b ∧ Aside0 (b = !ok) ∧ Aside0 (wc.heap[gb]? = some (.cells #[.int .i64 x.f0.f0, .int .i64 x.f0.f1, .slice A2 x.f1.length c2, .int .i64 x.f2.f0, .int .i64 x.f2.f1, .int .i64 x.f2.f2, .int .i64 x.f3, .int .i64 x.f4, .string x.f5, .int .i64 x.f6, .slice A10 x.f7.length c10, .slice A11 x.f8.length c11] 31 (0, 0))) ∧ Aside0 (Below w.heap.size w wc))
 case first =>
  have kb := aD BK.out
  cases b3
  rotate_left
  cases b0
  rotate_left
  cases b1
  rotate_left
  cases b2
  rotate_left
  cases b4
  rotate_left
  cases b5
  cases b6
  rotate_left
  cases b7
  rotate_left
  cases b8
  all_goals
   go_wp2_with (first | ((with_reducible refine aE (f := 39) rfl ?_); refine Go.Proofs.YtjnjfogfpmeacaaGreat.Short.gL (some 6) Tryz.func39 #[.int .i64 x.f3, .int .i64 1] (h := ?_); refine (bL.calls x.f3 1 _ _ H3.out).mono ?_; rintro e V0 ⟨rfl, hq⟩; refine ⟨_, rfl, ?_⟩; have n0_ := mk_ (bE BK.out hq.below); have n1_ := mk_ (aC HB.out hq.below); clear BK HB hq; revert n0_ n1_; intro BK HB; have kb := aD BK.out) | (go_at_call 40; (with_reducible show Calls _ _ #[_] _ _); refine (dL.calls x.f0.f0 x.f0.f1 _ _ H0.out).mono ?_; rintro e V0 ⟨rfl, hq⟩; have n0_ := mk_ (bE BK.out hq); have n1_ := mk_ (aC HB.out hq); clear BK HB hq; revert n0_ n1_; intro BK HB; have kb := aD BK.out) | (go_at_call 41; (with_reducible show Calls _ _ #[_] _ _); refine (bV.calls 2000 A2 c2 x.f1 _ _ (aU HR2.out HB.out) HC2.out H1.out).mono ?_; rintro e V0 ⟨rfl, hq⟩; have n0_ := mk_ (bE BK.out hq.below); have n1_ := mk_ (aC HB.out hq.below); clear BK HB hq; revert n0_ n1_; intro BK HB; have kb := aD BK.out) | (go_at_call 42; (with_reducible show Calls _ _ #[_] _ _); refine (eE.calls x.f2.f0 x.f2.f1 x.f2.f2 _ _ H2.out).mono ?_; rintro e V0 ⟨rfl, hq⟩; have n0_ := mk_ (bE BK.out hq); have n1_ := mk_ (aC HB.out hq); clear BK HB hq; revert n0_ n1_; intro BK HB; have kb := aD BK.out) | (go_at_call 39; (with_reducible show Calls _ _ #[.int .i64 x.f4, _] _ _); refine (bL.calls x.f4 1 _ _ H4.out).mono ?_; rintro e V0 ⟨rfl, hq⟩; have n0_ := mk_ (bE BK.out hq.below); have n1_ := mk_ (aC HB.out hq.below); clear BK HB hq; revert n0_ n1_; intro BK HB; have kb := aD BK.out) | (go_at_call 39; (with_reducible show Calls _ _ #[.int .i64 x.f6, _] _ _); refine (bL.calls x.f6 1 _ _ H6.out).mono ?_; rintro e V0 ⟨rfl, hq⟩; have n0_ := mk_ (bE BK.out hq.below); have n1_ := mk_ (aC HB.out hq.below); clear BK HB hq; revert n0_ n1_; intro BK HB; have kb := aD BK.out) | (go_at_call 43; (with_reducible show Calls _ _ #[_] _ _); refine (cX.calls 2000 A10 c10 x.f7 _ _ (aU HR10.out HB.out) HC10.out H7.out).mono ?_; rintro e V0 ⟨rfl, hq⟩; have n0_ := mk_ (bE BK.out hq); have n1_ := mk_ (aC HB.out hq); clear BK HB hq; revert n0_ n1_; intro BK HB; have kb := aD BK.out))
   go_meet
   case rel => exact ⟨_, rfl, ⟨by rw [HX.out]; rfl⟩, ⟨BK.out⟩, ⟨HB.out⟩⟩
 case rest => as_aux_lemma =>
 obtain ⟨b, rfl, HA, BK, HB⟩ := hcut
 clear f5 f8 f7 f7' e5 e7 e8
 cases b with
 | true =>
  have ht : ok = false := by
   have := HA.out
   cases ok
   ·
    rfl
   ·
    cases this
  go_wp2
  go_ret
  rw [show res = false from by rw [HR0.out, ht]; rfl]
  exact ⟨rfl, HB.out⟩
 | false =>
  have ht : ok = true := by
   have := HA.out
   cases ok
   ·
    cases this
   ·
    rfl
  have HQ0 := mk_ (show res = dotsOk (x.f8.drop 0) from by rw [HR0.out, ht]; rfl)
  clear HR0 HA ht HX
  have kb := aD BK.out
  go_wp2
  go_loopg [3] (x.f8.length + 1) (fun kq v3 W' => ∃ (i : Nat) (z : Int), v3 = .int .i64 z ∧ Aside0 (z = (i : Int) ∧ kq + i = x.f8.length + 1 ∧ i ≤ x.f8.length) ∧ Aside0 (res = dotsOk (x.f8.drop i)) ∧ Aside0 (W'.heap[gb]? = some (.cells #[.int .i64 x.f0.f0, .int .i64 x.f0.f1, .slice A2 x.f1.length c2, .int .i64 x.f2.f0, .int .i64 x.f2.f1, .int .i64 x.f2.f2, .int .i64 x.f3, .int .i64 x.f4, .string x.f5, .int .i64 x.f6, .slice A10 x.f7.length c10, .slice A11 x.f8.length c11] 31 (0, 0))) ∧ Aside0 (Below w.heap.size w W'))
  case atStart => exact ⟨0, 0, rfl, ⟨by omega⟩, ⟨HQ0.out⟩, ⟨BK.out⟩, ⟨HB.out⟩⟩
  case round =>
   clear HQ0 BK HB kb
   obtain ⟨i, z, rfl, HK, HQ, BK, HB⟩ := hrel
   have hz := HK.out.1
   obtain ⟨kk, rfl⟩ : ∃ kk, gk = kk + 1 := ⟨gk - 1, by have := HK.out; omega⟩
   have kb := aD BK.out
   by_cases hi : z < (x.f8.length : Int)
   rotate_left
   ·
    have hi0 : decide (z < (x.f8.length : Int)) = false := decide_eq_false hi
    have hr : res = true := by rw [HQ.out, List.drop_eq_nil_of_le (show x.f8.length ≤ i by omega)]; rfl
    clear hi HQ hz
    go_wp2
    go_ret
    rw [hr]
    exact ⟨rfl, HB.out⟩
   have hst := dots_step (l := x.f8) (i := i) z3_
   rw [← hz] at hst
   obtain ⟨ad, hea, hv0, hv1⟩ := fS HR11.out z z3_ hi
   subst hea
   replace hv0 := up_ HB hv0
   replace hv1 := up_ HB hv1
   have p0 : (0 ≤ z) = True := eq_true z3_
   have p1 : decide (0 ≤ z) = true := decide_eq_true z3_
   have q0 := eq_true hi
   have q1 : decide (z < (x.f8.length : Int)) = true := decide_eq_true hi
   have HI := mk_ hi
   obtain ⟨b9, e9⟩ : ∃ b, decide (dotFit (aW x.f8 z)) = b := ⟨_, rfl⟩
   have HF := mk_ (show dL.f (aW x.f8 z).f0 (aW x.f8 z).f1 = some b9 by rw [dotFit_eq, e9])
   rw [e9] at hst
   have HST := mk_ hst
   clear hst e9 hi hz
   cases b9
   ·
    go_wp2_with (((with_reducible refine aE (f := 40) rfl ?_); refine Go.Proofs.YtjnjfogfpmeacaaGreat.Short.gL (some 68) Tryz.func40 #[.agg #[.int .i64 (aW x.f8 z).f0, .int .i64 (aW x.f8 z).f1]] (h := ?_); refine (dL.calls _ _ _ _ HF.out).mono ?_; rintro e V0 ⟨rfl, hq⟩; refine ⟨_, rfl, ?_⟩; have n0_ := mk_ (bE BK.out hq); have n1_ := mk_ (aC HB.out hq); clear BK HB hq; revert n0_ n1_; intro BK HB; have kb := aD BK.out))
    go_ret
    rw [show res = false from by rw [HQ.out, HST.out]; rfl]
    exact ⟨rfl, HB.out⟩
   go_wp2_with (((with_reducible refine aE (f := 40) rfl ?_); refine Go.Proofs.YtjnjfogfpmeacaaGreat.Short.gL (some 68) Tryz.func40 #[.agg #[.int .i64 (aW x.f8 z).f0, .int .i64 (aW x.f8 z).f1]] (h := ?_); refine (dL.calls _ _ _ _ HF.out).mono ?_; rintro e V0 ⟨rfl, hq⟩; refine ⟨_, rfl, ?_⟩; have n0_ := mk_ (bE BK.out hq); have n1_ := mk_ (aC HB.out hq); clear BK HB hq; revert n0_ n1_; intro BK HB; have kb := aD BK.out))
   go_roundg kk
   case measure => exact Nat.lt_succ_self _
   case rel => exact ⟨i + 1, _, rfl, ⟨by have := HK.out; have := HI.out; have := HN.out.2.2; rw [w64 z3_ z3_]; omega⟩, ⟨by rw [HQ.out, HST.out]; rfl⟩, ⟨BK.out⟩, ⟨HB.out⟩⟩
end Go.Proofs.YtjnjfogfpmeacaaGreat.Ops
namespace Go.Proofs.YtjnjfogfpmeacaaGreat.PAll
open Go.RowKit PAll Ops Plain PrintWords PrintLast PrintMore ZipT PrintWords.Kd PrintMore.Kd
def dV.f (a0_0 : Int) (a0_1 : Int) (l0_2 : List Int) (a0_3 : Int) (a0_4 : Int) (a0_5 : Int) (a0_6 : Int) (a0_7 : Int) (a0_8 : ByteArray) (a0_9 : Int) (l0_10 : List V) (l0_11 : List Dt) : Option Bool := if opSmall (⟨⟨a0_0, a0_1⟩, l0_2, ⟨a0_3, a0_4, a0_5⟩, a0_6, a0_7, a0_8, a0_9, l0_10, l0_11⟩ : Ox) then some (decide (opFit (⟨⟨a0_0, a0_1⟩, l0_2, ⟨a0_3, a0_4, a0_5⟩, a0_6, a0_7, a0_8, a0_9, l0_10, l0_11⟩ : Ox))) else none
theorem dV.calls (a0_0 : Int) (a0_1 : Int) (A0_2 : Option Addr) (c0_2 : Nat) (l0_2 : List Int) (a0_3 : Int) (a0_4 : Int) (a0_5 : Int) (a0_6 : Int) (a0_7 : Int) (a0_8 : ByteArray) (a0_9 : Int) (A0_10 : Option Addr) (c0_10 : Nat) (l0_10 : List V) (A0_11 : Option Addr) (c0_11 : Nat) (l0_11 : List Dt) (r : Bool) (w : World) (hr0_2 : Kd.C (Kd.int .i64) w A0_2 l0_2.length l0_2) (hc0_2 : l0_2.length ≤ c0_2) (hr0_10 : Kd.C k102 w A0_10 l0_10.length l0_10) (hc0_10 : l0_10.length ≤ c0_10) (hr0_11 : Kd.C k24 w A0_11 l0_11.length l0_11) (hc0_11 : l0_11.length ≤ c0_11) (h : dV.f a0_0 a0_1 l0_2 a0_3 a0_4 a0_5 a0_6 a0_7 a0_8 a0_9 l0_10 l0_11 = some r) :
  Calls Tryz.prog 17 #[.agg #[.int .i64 a0_0, .int .i64 a0_1, .slice A0_2 l0_2.length c0_2, .int .i64 a0_3, .int .i64 a0_4, .int .i64 a0_5, .int .i64 a0_6, .int .i64 a0_7, .string a0_8, .int .i64 a0_9, .slice A0_10 l0_10.length c0_10, .slice A0_11 l0_11.length c0_11]] w fun e w' => e = .returned (.bool r) ∧ Below w.heap.size w w' := by
 unfold dV.f at h
 split at h
 ·
  rename_i hs
  obtain rfl := Option.some.inj h
  exact fits_calls (⟨⟨a0_0, a0_1⟩, l0_2, ⟨a0_3, a0_4, a0_5⟩, a0_6, a0_7, a0_8, a0_9, l0_10, l0_11⟩ : Ox) A0_2 c0_2 A0_10 c0_10 A0_11 c0_11 w hr0_2 hc0_2 hr0_10 hc0_10 hr0_11 hc0_11 hs
 ·
  cases h
end Go.Proofs.YtjnjfogfpmeacaaGreat.PAll
namespace Go.Proofs.YtjnjfogfpmeacaaGreat.Ops
open Go.RowKit PAll Plain ZipT PrintWords.Kd PrintMore.Kd
theorem opFits_eq (x : Ox) (hx : opSmall x) : dV.f x.f0.f0 x.f0.f1 x.f1 x.f2.f0 x.f2.f1 x.f2.f2 x.f3 x.f4 x.f5 x.f6 x.f7 x.f8 = some (decide (opFit x)) := by
 unfold dV.f
 exact if_pos hx
end Go.Proofs.YtjnjfogfpmeacaaGreat.Ops
end
section
namespace Go.Proofs.YtjnjfogfpmeacaaGreat.Ops
open Go.RowKit PAll Plain PrintWords PrintMore ZipT PrintWords.Kd PrintMore.Kd
set_option linter.unusedVariables false
set_option linter.unusedSimpArgs false
theorem right_eq (n : Int) (f : List Tb) (x : Ox) (hx : x.f1.length ≤ 1000 ∧ x.f7.length ≤ 1000 ∧ x.f8.length ≤ 1000) (hf : f.length ≤ 1000 ∧ ∀ t ∈ f, t.f0.length ≤ 1000) :
  gM.f n f x.f0.f0 x.f0.f1 x.f1 x.f2.f0 x.f2.f1 x.f2.f2 x.f3 x.f4 x.f5 x.f6 x.f7 x.f8 = some (rightB n f x) := by
 unfold gM.f
 exact if_pos ⟨hx, hf⟩
theorem check_op_eq (k : Nat) (n : Int) (f : List Tb) (x : Ox) (hx : x.f1.length ≤ 1000 ∧ x.f7.length ≤ 1000 ∧ x.f8.length ≤ 1000) (hf : f.length ≤ 1000 ∧ ∀ t ∈ f, t.f0.length ≤ 1000) (hk : 1100 ≤ k) :
  hG.f k n f x.f0.f0 x.f0.f1 x.f1 x.f2.f0 x.f2.f1 x.f2.f2 x.f3 x.f4 x.f5 x.f6 x.f7 x.f8 = some (checkE n f x) := by
 unfold hG.f checkE
 rw [forms_eq _ _ hf.1 z3_, Option.bind_some]
 by_cases h0 : formsE f = 0
 rotate_left
 ·
  rw [if_neg h0, if_pos (show formsE f ≠ 0 from h0)]
 rw [if_pos h0, if_neg (show ¬ formsE f ≠ 0 from fun e => e h0)]
 by_cases h1 : n < 1
 ·
  rw [if_pos h1, if_pos (.inl h1)]
 rw [if_neg h1]
 by_cases h2 : n > 5
 ·
  rw [if_pos h2, if_pos (.inr h2)]
 rw [if_neg h2, if_neg z3_, right_eq _ _ _ hx hf, Option.bind_some]
 cases rightB n f x <;> rfl
end Go.Proofs.YtjnjfogfpmeacaaGreat.Ops
end
