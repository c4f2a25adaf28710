-- Put together by a program of this session (wip/slice2.py) out of the seat's texts.
import Derived.Test.YtcbfliajgopdaaaZSUp7

set_option maxHeartbeats 8000000
set_option maxRecDepth 100000
open Go.Proofs.YtcbfliajgopdaaaW Go.Proofs.Ytcbfliajgopdaaa
section
namespace Go.Proofs.Ytcbfliajgopdaaa.Logs
open Go.RowKit PAll Plain Ops PrintWords PrintLast PrintMore Pads Go.Proofs.Ytcbfliajgopdaaa.Sep ZipT PrintWords.Kd PrintMore.Kd
set_option linter.unusedVariables false
set_option linter.unusedSimpArgs false
section
variable {w : World} {F : List Part} {g : Nat} {p : Pd}
def LogP (gl g : Nat) : Part := Blk gl (.cells #[.pointer (some ⟨g, 0, none⟩)] 128 (0, 0))
theorem open_calls (hS : Sp w (PadP g p :: F)) (hok : p.Ok) (hoff : p.off = false) (harm : p.arm = none) (hby : ∀ s ∈ p.slots, Bytes s.1) (hns : noSnap p.slots) :
  Calls Try.prog 19 #[.pointer (some ⟨g, 0, none⟩)] w fun e w' => ∃ gl v, e = .returned (.tuple #[.pointer (some ⟨gl, 0, none⟩), .agg snap0.toArray, v, .int .i64 0]) ∧
   Sp w' (LogP gl g :: Row k54 54 v (opsOf p.slots) :: PadP g (opened p) :: F) := by
 have h1 := (hS.box (.cells #[.slice none 0 0, .int .i64 0, .int .i64 0, .int .i64 0, .slice none 0 0, .slice none 0 0, .slice none 0 0] 31 (0, 0))).s1
 have HS := mk_ (dG (d := k54) (e := 54) h1)
 have HOK := mk_ hok
 have HBY := mk_ hby
 have HNS := mk_ hns
 obtain ⟨n, hn⟩ : ∃ n, p.slots.length = n := ⟨_, rfl⟩
 have hn4 : n ≤ 4000 := by rw [← hn]; exact hok.len
 have HK := mk_ (iX p.slots)
 rw [hn] at HK
 have HN := mk_ hn
 have HOF := mk_ hoff
 have HAR := mk_ harm
 clear hS h1 hok hby hns hn hoff harm
 go_enter Try.func19, Try.ntmps19
 go_wp2_with (first
  | (go_at_call 62; refine (off_calls HS.out.s1).mono ?_; rw [HOF.out]; rintro e w2 ⟨rfl, rfl⟩)
  | (go_at_call 21; refine (len_calls HS.out.s1).mono ?_; rw [HN.out]; rintro e w2 ⟨rfl, rfl⟩))
 go_loopg [4, 22] n (fun kq v4 v22 w' => ∃ i : Nat, v22 = .int .i64 (i : Int) ∧ Aside0 (i + kq = n) ∧ Aside0 (i ≤ (opsOf p.slots).length) ∧ Aside0 (Sp w' (Row k54 54 v4 ((opsOf p.slots).take i) :: PadP g p :: Blk w.heap.size (.cells #[.slice none 0 0, .int .i64 0, .int .i64 0, .int .i64 0, .slice none 0 0, .slice none 0 0, .slice none 0 0] 31 (0, 0)) :: F)))
 case atStart => exact ⟨0, rfl, ⟨by omega⟩, ⟨Nat.zero_le _⟩, HS⟩
 case round =>
  obtain ⟨i, rfl, HI, HL, HP⟩ := hrel
  clear HS
  by_cases hlt : i < n
  rotate_left
  ·
   have hb1 : decide ((i : Int) < (n : Int)) = false := decide_eq_false z2_
   have hb1' : decide (i < n) = false := decide_eq_false hlt
   have hi : i = n := by have := HI.out; omega
   have hl : (opsOf p.slots).length = p.slots.length := by rw [HN.out]; have := HL.out; have := HK.out; omega
   have HLL := mk_ hl
   have HII := mk_ (show i = (opsOf p.slots).length by rw [hl, HN.out]; exact hi)
   clear hl hi hlt
   go_wp2_with ((go_at_call 66; refine (sync_to HP.out.s1 HOK.out (sync_all HOF.out HAR.out HLL.out)).mono ?_; rintro e W8 ⟨rfl, h1⟩; have HS := mk_ h1; clear h1; have k3 := aC HS.out.s2.blk; have kf3 := aH HS.out.s2.blk; have h_ := HS.out.box (.cells #[.pointer (some ⟨g, 0, none⟩)] 128 (0, 0)); clear HS; have HS := mk_ h_; clear h_; have k3a := aC HS.out.s3.blk; have kf3a := aH HS.out.s3.blk))
   have h8 := (HS.out.s3.put7 (.slice none 0 0) (.int .i64 0) (.int .i64 0) (.int .i64 0) (.slice none 0 0) (.slice none 0 0) (.slice none 0 0)).drew
   unfold put7 at h8
   clear HS
   go_region
   clear k3 kf3 k3a kf3a
   revert h8
   generalize World.drew _ = W9
   intro h8
   have HS := mk_ h8
   clear h8
   go_wp2
   (try simp only [Exit.inBlock, Exit.then])
   refine bodyPost_ret (kD rfl _ _ w.heap.size 31 #[.slice none 0 0, .int .i64 0, .int .i64 0, .int .i64 0, .slice none 0 0, .slice none 0 0, .slice none 0 0] (0, 0) _ rfl HS.out.blk Try.underlying31 rfl z1_) rfl ?_
   refine ⟨_, _, rfl, ?_⟩
   have hT : (opsOf p.slots).take i = opsOf p.slots := by rw [HII.out, List.take_length]
   have h9 := HS.out.tail
   rw [hT] at h9
   exact Sep.cons (fun _ => Sep.swap) h9
  have hb1 : decide ((i : Int) < (n : Int)) = true := decide_eq_true z2_
  have hb1' : decide (i < n) = true := decide_eq_true hlt
  cases gk with
  | zero => exact absurd HI.out z2_
  | succ k1 =>
  have HLT := mk_ hlt
  clear hlt
  by_cases hgood : i < (opsOf p.slots).length
  ·
   obtain ⟨b, x, hr, hx, hxi, s, hs, hsb⟩ := read_good HOF.out hgood
   have hbB : Bytes b := by rw [← hsb]; exact HBY.out s hs
   have hbl : b.length ≤ 65536 := by rw [← hsb]; exact HOK.out.bytes s hs
   have HR := mk_ hr
   have HX := mk_ hx
   have HXI := mk_ hxi
   have HBB := mk_ hbB
   have HBL := mk_ hbl
   clear hr hx hxi hs hsb hbB hbl
   go_wp2_with (first
    | (go_at_call 63; refine (read_to HP.out.s1 HOK.out (i : Int) HR.out).mono ?_; rintro e W1 ⟨vb, rfl, h1⟩; obtain ⟨Ab, cb, rfl, hbc, hbC⟩ := h1.row; have HBC := mk_ hbc; have HC := mk_ hbC; have HS := mk_ h1.tail; clear h1 hbc hbC)
    | (go_at_call 64; have q_ := record_some Ab cb b HBC.out HC.out HBB.out (by have := HBL.out; omega) x HX.out; unfold opC snap0 at q_; refine q_.mono ?_; clear q_; rintro e W2 ⟨v2, v10, v11, rfl, h_⟩; have n_ := Sp.frame (X := [_, _, _]) HS.out h_; simp only [List.cons_append, List.nil_append] at n_; obtain ⟨A2, c2, rfl, _, _⟩ := n_.row; obtain ⟨A10, c10, rfl, _, _⟩ := n_.s1.row; obtain ⟨A11, c11, rfl, _, _⟩ := n_.s2.row; clear HS h_; have HS := mk_ n_; clear n_)
    | ((with_reducible refine bP (N := 10) rfl ?_); go_loud (refine bL ?hg (N := 10) ?hd (cs := #[.int .i64 0, .int .i64 0, .slice none 0 0, .int .i64 0, .int .i64 0, .int .i64 0, .int .i64 0, .int .i64 0, .string ⟨#[]⟩, .int .i64 0, .slice none 0 0, .slice none 0 0]) (t := 54) ?hr ?_; (case hd => rfl); (case hg => rfl); (case hr => first | (go_simp; done) | (go_simp; rfl)); intro g10 hg W3 hbox hb; have h_ := HS.out.boxed hg hbox hb; clear hbox hb hg; clear HS; have HS := mk_ h_; clear h_))
    | ((with_reducible refine bP (N := 11) rfl ?_); go_loud (refine bL ?hg (N := 11) ?hd (cs := #[.slice none 0 0, .int .i64 0, .int .i64 0, .int .i64 0, .slice none 0 0, .slice none 0 0, .slice none 0 0]) (t := 31) ?hr ?_; (case hd => rfl); (case hg => rfl); (case hr => first | (go_simp; done) | (go_simp; rfl)); intro g11 hg W4 hbox hb; have h_ := HS.out.boxed hg hbox hb; clear hbox hb hg; clear HS; have HS := mk_ h_; clear h_; have k10 := aC HS.out.s1.blk; have kf10 := aH HS.out.s1.blk))
    | ((with_reducible refine cN (t := 54) (p := 10) rfl ?_); go_loud (refine cF (t := 54) (p := 10) (v := ?vo10) (w1 := put12 W4 g10 (.int .i64 x.f0.f0) (.int .i64 x.f0.f1) (.slice A2 x.f1.length c2) (.int .i64 x.f2.f0) (.int .i64 x.f2.f1) (.int .i64 x.f2.f2) (.int .i64 x.f3) (.int .i64 x.f4) (.string x.f5) (.int .i64 x.f6) (.slice A10 x.f7.length c10) (.slice A11 x.f8.length c11)) ?hg ?ho ?hn ?hr ?_; (case ho => rfl); (case hg => rfl); (case hn => rfl); (case hr => first | (go_simp; done) | (go_simp; rfl)); intro W5 hw; have h_ := (HS.out.s1).put12 (.int .i64 x.f0.f0) (.int .i64 x.f0.f1) (.slice A2 x.f1.length c2) (.int .i64 x.f2.f0) (.int .i64 x.f2.f1) (.int .i64 x.f2.f2) (.int .i64 x.f3) (.int .i64 x.f4) (.string x.f5) (.int .i64 x.f6) (.slice A10 x.f7.length c10) (.slice A11 x.f8.length c11); rw [← hw] at h_; clear hw HS; have HS := mk_ h_; clear h_; clear k10 kf10; have k11 := aC HS.out.s1.blk; have kf11 := aH HS.out.s1.blk))
    | ((with_reducible refine cN (t := 31) (p := 11) rfl ?_); go_loud (refine cF (t := 31) (p := 11) (v := ?vo11) (w1 := put7 W5 g11 (.slice none 0 0) (.int .i64 0) (.int .i64 0) (.int .i64 0) (.slice none 0 0) (.slice none 0 0) (.slice none 0 0)) ?hg ?ho ?hn ?hr ?_; (case ho => rfl); (case hg => rfl); (case hn => rfl); (case hr => first | (go_simp; done) | (go_simp; rfl)); intro W6 hw; have h_ := (HS.out.s1).put7 (.slice none 0 0) (.int .i64 0) (.int .i64 0) (.int .i64 0) (.slice none 0 0) (.slice none 0 0) (.slice none 0 0); rw [← hw] at h_; clear hw HS; have HS := mk_ h_; clear h_; clear k11 kf11; have k10 := aC HS.out.s1.blk; have h_ := HS.out.tail.tail; clear HS; have HS := mk_ (op_el h_).s2; clear h_))
    | ((with_reducible refine cJ (b := .append) (xs := #[.tmp 53, .tmp 55]) rfl ?_); at_builtin; go_loud (refine Sp.append k54 rfl (.tmp 53) (.tmp 55) 29 54 (.agg #[.int .i64 0, .int .i64 0, .slice none 0 0, .int .i64 0, .int .i64 0, .int .i64 0, .int .i64 0, .int .i64 0, .string ⟨#[]⟩, .int .i64 0, .slice none 0 0, .slice none 0 0]) 152 rfl Try.underlying29 z1_ rfl z4_ z2_ u4 ((opsOf p.slots).take i) x (opC x (.slice A2 x.f1.length c2) (.slice A10 x.f7.length c10) (.slice A11 x.f8.length c11)) rfl rfl HS.out (by have := HLT.out; have h_ := Nat.le_trans (List.length_take_le i (opsOf p.slots)) (Nat.le_refl i); omega) ?_; intro v1 W7 h1; clear HS; have HS := mk_ h1; clear h1)))
   go_roundg k1
   case measure => exact Nat.lt_succ_self _
   case rel =>
    refine ⟨i + 1, (by have := HLT.out; rw [w64 z2_ z2_]; rfl), ⟨by have := HI.out; omega⟩, ⟨hgood⟩, ⟨?_⟩⟩
    rw [List.take_add_one, HXI.out]
    exact HS.out
  have hi : i = (opsOf p.slots).length := by have := HL.out; omega
  obtain ⟨b, er, hr, hx, hs⟩ := read_bad HOF.out hi (by rw [HN.out]; exact HLT.out)
  have hbB : Bytes b := by rcases hs with rfl | ⟨s, hs, rfl⟩; exact Bytes.nil; exact HBY.out s hs
  have hbl : b.length ≤ 65536 := by rcases hs with rfl | ⟨s, hs, rfl⟩; exact Nat.zero_le _; exact HOK.out.bytes s hs
  have hbh : b.head? ≠ some 2 := by rcases hs with rfl | ⟨s, hs, rfl⟩; simp; exact HNS.out s hs
  have HR := mk_ hr
  have HX := mk_ hx
  have HBB := mk_ hbB
  have HBL := mk_ hbl
  have HBH := mk_ hbh
  have HII := mk_ hi
  have hcut : p.cut (i : Int) = (cutP p, 0) := by rw [cut_none HOF.out HAR.out (by rw [HN.out]; have := HLT.out; omega), hi]; rfl
  have HCUT := mk_ hcut
  clear hr hx hs hbB hbl hbh hi hcut
  obtain ⟨eb, heb⟩ : ∃ eb, (er != 0) = eb := ⟨_, rfl⟩
  cases eb
  all_goals
   go_wp2_with (first
    | (go_at_call 63; refine (read_to HP.out.s1 HOK.out (i : Int) HR.out).mono ?_; rintro e W1 ⟨vb, rfl, h1⟩; obtain ⟨Ab, cb, rfl, hbc, hbC⟩ := h1.row; have HBC := mk_ hbc; have HC := mk_ hbC; have HS := mk_ h1.tail; clear h1 hbc hbC)
    | (go_at_call 64; have q_ := record_none Ab cb b HBC.out HC.out HBB.out (by have := HBL.out; omega) HX.out HBH.out; unfold zop snap0 at q_; refine q_.mono ?_; clear q_; rintro e W2 ⟨rfl, hb⟩; have h_ := HS.out.below hb; clear HS hb; have HS := mk_ h_; clear h_)
    | ((with_reducible refine bP (N := 10) rfl ?_); go_loud (refine bL ?hg (N := 10) ?hd (cs := #[.int .i64 0, .int .i64 0, .slice none 0 0, .int .i64 0, .int .i64 0, .int .i64 0, .int .i64 0, .int .i64 0, .string ⟨#[]⟩, .int .i64 0, .slice none 0 0, .slice none 0 0]) (t := 54) ?hr ?_; (case hd => rfl); (case hg => rfl); (case hr => first | (go_simp; done) | (go_simp; rfl)); intro g10 hg W3 hbox hb; have h_ := HS.out.boxed hg hbox hb; clear hbox hb hg; clear HS; have HS := mk_ h_; clear h_))
    | ((with_reducible refine bP (N := 11) rfl ?_); go_loud (refine bL ?hg (N := 11) ?hd (cs := #[.slice none 0 0, .int .i64 0, .int .i64 0, .int .i64 0, .slice none 0 0, .slice none 0 0, .slice none 0 0]) (t := 31) ?hr ?_; (case hd => rfl); (case hg => rfl); (case hr => first | (go_simp; done) | (go_simp; rfl)); intro g11 hg W4 hbox hb; have h_ := HS.out.boxed hg hbox hb; clear hbox hb hg; clear HS; have HS := mk_ h_; clear h_; have k10 := aC HS.out.s1.blk; have kf10 := aH HS.out.s1.blk))
    | ((with_reducible refine cN (t := 54) (p := 10) rfl ?_); go_loud (refine cF (t := 54) (p := 10) (v := ?vo10) (w1 := put12 W4 g10 (.int .i64 0) (.int .i64 0) (.slice none 0 0) (.int .i64 0) (.int .i64 0) (.int .i64 0) (.int .i64 0) (.int .i64 0) (.string ⟨#[]⟩) (.int .i64 0) (.slice none 0 0) (.slice none 0 0)) ?hg ?ho ?hn ?hr ?_; (case ho => rfl); (case hg => rfl); (case hn => rfl); (case hr => first | (go_simp; done) | (go_simp; rfl)); intro W5 hw; have h_ := (HS.out.s1).put12 (.int .i64 0) (.int .i64 0) (.slice none 0 0) (.int .i64 0) (.int .i64 0) (.int .i64 0) (.int .i64 0) (.int .i64 0) (.string ⟨#[]⟩) (.int .i64 0) (.slice none 0 0) (.slice none 0 0); rw [← hw] at h_; clear hw HS; have HS := mk_ h_; clear h_; clear k10 kf10; have k11 := aC HS.out.s1.blk; have kf11 := aH HS.out.s1.blk))
    | ((with_reducible refine cN (t := 31) (p := 11) rfl ?_); go_loud (refine cF (t := 31) (p := 11) (v := ?vo11) (w1 := put7 W5 g11 (.slice none 0 0) (.int .i64 0) (.int .i64 0) (.int .i64 0) (.slice none 0 0) (.slice none 0 0) (.slice none 0 0)) ?hg ?ho ?hn ?hr ?_; (case ho => rfl); (case hg => rfl); (case hn => rfl); (case hr => first | (go_simp; done) | (go_simp; rfl)); intro W6 hw; have h_ := (HS.out.s1).put7 (.slice none 0 0) (.int .i64 0) (.int .i64 0) (.int .i64 0) (.slice none 0 0) (.slice none 0 0) (.slice none 0 0); rw [← hw] at h_; clear hw HS; have HS := mk_ h_; clear h_; clear k11 kf11; have h_ := HS.out.tail.tail; clear HS; have HS := mk_ h_; clear h_))
    | (go_at_call 65; refine (cut_to HS.out HOK.out (i : Int) HCUT.out).mono ?_; rintro e W7 ⟨rfl, h1⟩; clear HS; have HS := mk_ h1; clear h1)
    | (go_at_call 66; refine (sync_to HS.out (cutP_ok HOK.out HAR.out) (sync_cut HOF.out HAR.out)).mono ?_; rintro e W8 ⟨rfl, h1⟩; clear HS; have HS := mk_ h1; clear h1; have k3 := aC HS.out.s2.blk; have kf3 := aH HS.out.s2.blk; have h_ := HS.out.box (.cells #[.pointer (some ⟨g, 0, none⟩)] 128 (0, 0)); clear HS; have HS := mk_ h_; clear h_; have k3a := aC HS.out.s3.blk; have kf3a := aH HS.out.s3.blk))
   have h8 := (HS.out.s3.put7 (.slice none 0 0) (.int .i64 0) (.int .i64 0) (.int .i64 0) (.slice none 0 0) (.slice none 0 0) (.slice none 0 0)).drew
   unfold put7 at h8
   clear HS
   go_region
   clear k3 kf3 k3a kf3a
   revert h8
   generalize World.drew _ = W9
   intro h8
   have HS := mk_ h8
   clear h8
   go_wp2
   (try simp only [Exit.inBlock, Exit.then])
   refine bodyPost_ret (kD rfl _ _ w.heap.size 31 #[.slice none 0 0, .int .i64 0, .int .i64 0, .int .i64 0, .slice none 0 0, .slice none 0 0, .slice none 0 0] (0, 0) _ rfl HS.out.blk Try.underlying31 rfl z1_) rfl ?_
   refine ⟨_, _, rfl, ?_⟩
   have hT : (opsOf p.slots).take i = opsOf p.slots := by rw [HII.out, List.take_length]
   have h9 := HS.out.tail
   rw [hT] at h9
   exact Sep.cons (fun _ => Sep.swap) h9
end
end Go.Proofs.Ytcbfliajgopdaaa.Logs
end
section
namespace Go.Proofs.Ytcbfliajgopdaaa.Logs
open Go.RowKit PAll Plain Ops PrintWords PrintLast PrintMore Pads Go.Proofs.Ytcbfliajgopdaaa.Sep ZipT PrintWords.Kd PrintMore.Kd
set_option linter.unusedVariables false
set_option linter.unusedSimpArgs false
section
variable {P : Program} {ops : Array Oper} {o : Oper} {a : Act} {Q : Exit → Act → World → Prop} {Kc : Act → World → Prop} {α : Type}
theorem _root_.Go.Proofs.Ytcbfliajgopdaaa.Sep.Sp.appendRow_step (d : Kd α) {W : World} {F : List Part} (hw : Region.wanted o (yielded ops a.tmps) = true) (s x : Operand) (t e : TypeId) (z : Value) (bytes : Nat)
  (ho : o.op = .call { callee := .builtin .append, args := #[s, x], argTypes := #[t, t] })
  (ht : P.underlying t = some (.slice e)) (hinfo : (P.info? e).map (fun i => (i.zero, i.size, i.bytes)) = some (some z, d.sz, bytes)) (hz : z.cells.size = d.sz) (hs0 : 0 < d.sz) (hb0 : 0 < bytes)
  (v : Value) (xs ys : List α) (A : Option Addr) (m c : Nat) (hs : a.eval s = v) (hx : a.eval x = .slice A m c)
  (hKM : ∀ x cs, d.K W x cs → d.M W 0 (fun _ => False) x cs) (hS : Sp W (Row d e v xs :: F)) (hR : d.C W A m ys) (hl : (xs.length + m) * bytes ≤ 140737488355328)
  (h : ∀ v1 w1, Sp w1 (Row d e v1 (xs ++ ys) :: F) → Kc (a.put o.dst v1) w1) :
  if Region.wanted o (yielded ops a.tmps) = true then Oper.wp P o a W Kc Q else Kc (a.put o.dst undef) W := by
 obtain ⟨ok1, h1, hr, h3⟩ := hS
 refine jQ d (w0 := W) 0 hw s x t e z bytes ho ht hinfo hz hs0 hb0 v xs ys A m c (fun k => ok1 k ∨ False ∨ W.heap.size ≤ k) (fun _ => False) hs hx (R_mono hr (fun k hk => .inl hk)) hR hKM (fun _ h => h.elim) (fun k hk => .inr (.inr hk)) (Below.refl _ _) (Nat.zero_le _) hl ?_
 intro v1 w1 hr1 _ hg _
 exact h v1 w1 (Sp.appended (ok2 := fun _ => False) h1 (fun k hk => hk.elim) (h3.wide (fun k hk => ⟨hk, fun e => e⟩)) hr.1 hr1 hg)
end
section
variable {w : World} {F : List Part} {g gl : Nat} {p q : Pd} {y : Int}
theorem lsync_calls (hS : Sp w (LogP gl g :: PadP g p :: F)) (hok : p.Ok) (he : p.sync = (q, y)) :
  Calls Try.prog 22 #[.pointer (some ⟨gl, 0, none⟩)] w fun e w' => e = .returned (.int .i64 y) ∧ Sp w' (LogP gl g :: PadP g q :: F) := by
 have k0 := aC (Sp.blk hS) 0
 have HS := mk_ hS.s1
 have HOK := mk_ hok
 have HE := mk_ he
 clear hS hok he
 go_enter Try.func22, Try.ntmps22
 go_wp2_with (go_at_call 66; refine (sync_to HS.out HOK.out HE.out).mono ?_; rintro e w1 ⟨rfl, h1⟩; clear HS; have HS := mk_ h1.s1; clear h1)
 go_ret
 exact ⟨rfl, HS.out⟩
theorem put_calls (hS : Sp w (LogP gl g :: PadP g p :: F)) (hok : p.Ok) (k : Int) (hk : IntKind.u8.wrap k = k) (A : Option Addr) (c : Nat) (b : List Int) (hbc : b.length ≤ c) (hbl : b.length ≤ 1000000) (hC : Kd.C (Kd.int .u8) w A b.length b) (he : p.append (k :: b) = (q, y)) :
  Calls Try.prog 61 #[.pointer (some ⟨gl, 0, none⟩), .int .u8 k, .slice A b.length c] w fun e w' => e = .returned (.int .i64 y) ∧ Sp w' (LogP gl g :: PadP g q :: F) := by
 have k0 := aC (Sp.blk hS) 0
 have hSd := hS.drew
 have hCd := C_drew hC
 clear hS hC
 have k1 : w.drew.cell? ⟨gl, 0, none⟩ = some (.pointer (some ⟨g, 0, none⟩)) := k0
 go_enter Try.func61, Try.ntmps61
 go_wp2
 refine fI (n := 10) (S := fun w' => w'.cell? ⟨gl, 0, none⟩ = some (.pointer (some ⟨g, 0, none⟩)) ∧ True) (ds := [8]) (Steps.Bs 10 0) z1_ rfl rfl ⟨k1, trivial⟩ (fun hHeld => ?_)
 clear k0 k1
 generalize World.drew _ = W at hSd hCd hHeld ⊢
 refine sI 0 7 10 1 ?_
 refine sI 1 8 10 3 ?_
 refine sI 2 9 10 7 ?_
 refine sI 4 11 10 23 ?_
 refine sI 6 13 10 87 ?_
 refine sT hHeld 3 10 10 95 ?_
 refine one_ (i := 5) (N := some 12) (Steps.Bs 10 127) rfl rfl z1_ z4_ (fun K hK => ?_)
 refine gJ (w1 := ?_) (v := ?_) (by rfl) rfl ?_ ?_
 rotate_left 2
 ·
  go_simp
  constructor
  ·
   rfl
  ·
   rfl
 have hS2 := lit_u8 k hSd
 refine hK.out _ _ ⟨aC (Sp.blk hS2.s1) 0, trivial⟩ (fun hHeld => ?_)
 clear hK K
 refine nrm 12 ?_
 refine one_ (i := 7) (N := some 14) (Steps.Bs 10 255) rfl rfl z1_ z4_ (fun K hK => ?_)
 refine Sp.appendRow_step (Kd.int .u8) (by rfl) (.tmp 12) (.tmp 13) 22 5 (.int .u8 0) 1 rfl Try.underlying22 z1_ rfl z4_ z2_ (.slice (some ⟨W.heap.size, 0, none⟩) 1 1) [k] b A b.length c rfl rfl (fun x cs h => h) hS2 (C_alloc hCd _) (by rw [List.length_singleton]; omega) ?_
 intro v1 w1 h1
 obtain ⟨A1, c1, rfl, hbc1, hC1⟩ := h1.row
 refine hK.out _ _ ⟨aC (Sp.blk h1.s1) 0, trivial⟩ (fun hHeld => ?_)
 clear hK K
 refine nrm 14 ?_
 refine last_ (i := 8) (N := some 15) (Steps.Bs 10 511) rfl rfl z1_ z4_ (fun K hK => ?_)
 refine goes_ Try.func17 z1_ rfl #[.pointer (some ⟨g, 0, none⟩), .slice A1 ([k] ++ b).length c1] (by rfl) rfl rfl z6_ ?_
 refine (append_to h1.s2 hok A1 c1 ([k] ++ b) hbc1 (by rw [List.length_append, List.length_singleton]; omega) hC1 he).mono ?_
 rintro e w2 ⟨rfl, h2⟩
 have h3 := h2.s1.tail.s1
 refine ⟨_, rfl, ?_⟩
 refine hK.out _ _ ?_
 clear hK K h1 h2
 refine nrm 15 ?_
 refine sI 9 6 10 1023 ?_
 refine done_ z1_ ?_
 go_wp2
 go_ret
 exact ⟨rfl, h3⟩
theorem jN (hS : Sp w (LogP gl g :: PadP g p :: F)) (hok : p.Ok) (x : Ox) (A1 A7 A8 : Option Addr) (c1 c7 c8 : Nat) (hC1 : Kd.C (Kd.int .i64) w A1 x.f1.length x.f1) (h1c : x.f1.length ≤ c1) (hC7 : Kd.C k89 w A7 x.f7.length x.f7) (h7c : x.f7.length ≤ c7) (hC8 : Kd.C k50 w A8 x.f8.length x.f8) (h8c : x.f8.length ≤ c8) (hx : opSmall x) (hf : opFit x) (hl : (opB x).length ≤ 1000000) (he : p.append (recB x) = (q, y)) :
  Calls Try.prog 18 #[.pointer (some ⟨gl, 0, none⟩), .agg #[.int .i64 x.f0.f0, .int .i64 x.f0.f1, .slice A1 x.f1.length c1, .int .i64 x.f2.f0, .int .i64 x.f2.f1, .int .i64 x.f2.f2, .int .i64 x.f3, .int .i64 x.f4, .string x.f5, .int .i64 x.f6, .slice A7 x.f7.length c7, .slice A8 x.f8.length c8]] w fun e w' => e = .returned (.int .i64 y) ∧ Sp w' (LogP gl g :: PadP g q :: F) := by
 have h1 := hS.box (.cells #[.int .i64 x.f0.f0, .int .i64 x.f0.f1, .slice A1 x.f1.length c1, .int .i64 x.f2.f0, .int .i64 x.f2.f1, .int .i64 x.f2.f2, .int .i64 x.f3, .int .i64 x.f4, .string x.f5, .int .i64 x.f6, .slice A7 x.f7.length c7, .slice A8 x.f8.length c8] 54 (0, 0))
 have k3 := aC h1.blk
 have hq := bytes_sp x A1 A7 A8 c1 c7 c8 (C_alloc hC1 (.cells #[.int .i64 x.f0.f0, .int .i64 x.f0.f1, .slice A1 x.f1.length c1, .int .i64 x.f2.f0, .int .i64 x.f2.f1, .int .i64 x.f2.f2, .int .i64 x.f3, .int .i64 x.f4, .string x.f5, .int .i64 x.f6, .slice A7 x.f7.length c7, .slice A8 x.f8.length c8] 54 (0, 0))) h1c (C_alloc hC7 (.cells #[.int .i64 x.f0.f0, .int .i64 x.f0.f1, .slice A1 x.f1.length c1, .int .i64 x.f2.f0, .int .i64 x.f2.f1, .int .i64 x.f2.f2, .int .i64 x.f3, .int .i64 x.f4, .string x.f5, .int .i64 x.f6, .slice A7 x.f7.length c7, .slice A8 x.f8.length c8] 54 (0, 0))) h7c (C_alloc hC8 (.cells #[.int .i64 x.f0.f0, .int .i64 x.f0.f1, .slice A1 x.f1.length c1, .int .i64 x.f2.f0, .int .i64 x.f2.f1, .int .i64 x.f2.f2, .int .i64 x.f3, .int .i64 x.f4, .string x.f5, .int .i64 x.f6, .slice A7 x.f7.length c7, .slice A8 x.f8.length c8] 54 (0, 0))) h8c hx
 rw [opBytes_eq, if_pos hf] at hq
 have HS := mk_ h1.tail
 have HOK := mk_ hok
 have HE := mk_ he
 have HQ := mk_ hq
 have HL := mk_ hl
 clear hS h1 hok he hC1 hC7 hC8 hq h1c h7c h8c hx hf hl
 go_enter Try.func18, Try.ntmps18
 go_wp2_with (first
  | (go_at_call 60; go_loud (refine HQ.out.mono ?_; rintro e w1 ⟨v, rfl, h_⟩; have n_ := Sp.frame (X := [_]) HS.out h_; simp only [List.cons_append, List.nil_append] at n_; obtain ⟨Av, cv, rfl, hvc, hvC⟩ := n_.row; have HVC := mk_ hvc; have HV := mk_ hvC; clear HS h_ hvc hvC; have HS := mk_ n_.tail; clear n_))
  | (go_at_call 61; go_loud (refine (put_calls HS.out HOK.out 1 z4_ Av cv (opB x) HVC.out HL.out HV.out HE.out).mono ?_; rintro e w2 ⟨rfl, h2⟩; clear HS; have HS := mk_ h2; clear h2)))
 go_ret
 exact ⟨rfl, HS.out⟩
end
end Go.Proofs.Ytcbfliajgopdaaa.Logs
end
section
namespace Go.Proofs.Ytcbfliajgopdaaa.Keep
open Go.RowKit PAll PrintWords PrintLast PrintMore Plain ZipT PrintWords.Kd PrintMore.Kd
set_option linter.unusedVariables false
set_option linter.unusedSimpArgs false
theorem gC {l : List Int} {i : Nat} {b : Int} {m : List Int} (h : l.drop i = b :: m) : rd l i = b := by
 have hi : i < l.length := by
  rcases Nat.lt_or_ge i l.length with h1 | h1
  ·
   exact h1
  ·
   rw [List.drop_eq_nil_of_le h1] at h; cases h
 show l.getD (i : Int).toNat 0 = b
 rw [List.getD_eq_getElem?_getD, Int.toNat_natCast, List.getElem?_eq_getElem hi]
 have := List.drop_eq_getElem_cons hi
 rw [this] at h
 injection h
theorem jJ {l : List Int} {i : Nat} {b : Int} {m : List Int} (h : l.drop i = b :: m) : l.drop (i + 1) = m := by
 have := congrArg List.tail h
 rwa [List.tail_drop] at this
theorem drop_lt {l : List Int} {i : Nat} {b : Int} {m : List Int} (h : l.drop i = b :: m) : i < l.length := by
 rcases Nat.lt_or_ge i l.length with h1 | h1
 ·
  exact h1
 ·
  rw [List.drop_eq_nil_of_le h1] at h; cases h
theorem kB {l : List Int} {i : Nat} (h : l.drop i = []) : l.length ≤ i := by
 rcases Nat.lt_or_ge i l.length with h1 | h1
 ·
  have := List.drop_eq_getElem_cons h1; rw [this] at h; cases h
 ·
  exact h1
theorem same_l0 (a b : List Int) (hl : a.length = b.length) (m : List Int) : ∀ (k i : Nat), a.drop i = m → i + m.length ≤ 1000000 → m.length < k →
  bT.l0 k a b i = some (decide (m = b.drop i)) := by
 induction m with
 | nil =>
  intro k i h hi hk
  obtain ⟨k, rfl⟩ : ∃ m, k = m + 1 := ⟨k - 1, by omega⟩
  have := kB h
  simp only [bT.l0]
  rw [if_neg z2_, List.drop_eq_nil_of_le z2_]
  simp
 | cons x m ih =>
  intro k i h hi hk
  obtain ⟨k, rfl⟩ : ∃ m, k = m + 1 := ⟨k - 1, by omega⟩
  have hlt := drop_lt h
  have hltb : i < b.length := by omega
  simp only [List.length_cons] at hi hk
  have hb : b.drop i = b[i] :: b.drop (i + 1) := List.drop_eq_getElem_cons hltb
  simp only [bT.l0]
  rw [if_pos z2_, if_pos z2_, if_pos z2_, gC h, gC hb, hb]
  by_cases e : x = b[i]
  rotate_left
  ·
   rw [if_neg e]
   simp only [List.cons.injEq, e, false_and, decide_false]
  rw [if_pos e, w64 z2_ z2_]
  have := ih k (i + 1) (jJ h) z2_ z2_
  rw [show ((i : Int) + 1) = ((i + 1 : Nat) : Int) from rfl, this, e]
  simp only [List.cons.injEq, true_and]
theorem same_eq (k : Nat) (a b : List Int) (ha : a.length ≤ 900000) (hk : a.length + 2 ≤ k) : bT.f k a b = some (decide (a = b)) := by
 unfold bT.f
 by_cases hl : a.length = b.length
 ·
  rw [if_pos z2_]
  have := same_l0 a b hl a k 0 rfl z2_ z2_
  simpa using this
 rw [if_neg z2_]
 have : a ≠ b := fun e => hl (by rw [e])
 simp [this]
theorem twin_eq (l : List Int) (hl : l.length ≤ 1000000) : dM.f l = some l := by
 unfold dM.f
 simp only [List.length_nil, List.nil_append]
 rw [if_pos z2_]
end Go.Proofs.Ytcbfliajgopdaaa.Keep
end
section
namespace Go.Proofs.Ytcbfliajgopdaaa.Pads
open Go.RowKit PrintWords PrintLast PrintMore Go.Proofs.Ytcbfliajgopdaaa.Sep ZipT PrintWords.Kd PrintMore.Kd
set_option linter.unusedVariables false
set_option linter.unusedSimpArgs false
def nums (i : Nat) : List Sl := (List.range i).map (fun j : Nat => ([(j : Int)], false))
theorem append_plain (sl : List Sl) (sf : Nat) (li : Int) (b : List Int) (hb : b.length ≤ 65536) (hl : sl.length < 4000) : (⟨sl, sf, false, li, none⟩ : Pd).append b = (⟨sl ++ [(b, false)], sf, false, li, none⟩, 0) := by
 unfold Pd.append
 rw [if_neg (by simp), if_neg z2_, if_neg (by dsimp only; omega), Pd.spend_none rfl]
 rfl
theorem sync_plain (sl : List Sl) (sf : Nat) (li : Int) : (⟨sl, sf, false, li, none⟩ : Pd).sync = (⟨sl, sl.length, false, li, none⟩, 0) := by
 unfold Pd.sync
 rw [if_neg (by simp), Pd.spend_none rfl]
 rfl
theorem C_nil {α : Type} (d : Kd α) (w : World) : d.C w none 0 [] := ⟨rfl, by decide, fun h => by omega⟩
end Go.Proofs.Ytcbfliajgopdaaa.Pads
end
section
namespace Go.Proofs.Ytcbfliajgopdaaa.Logs
open Go.RowKit PAll Plain Ops PrintWords PrintLast PrintMore Pads Go.Proofs.Ytcbfliajgopdaaa.Sep ZipT PrintWords.Kd PrintMore.Kd
set_option linter.unusedVariables false
set_option linter.unusedSimpArgs false
theorem recB_len {x : Ox} (h : opFit x) : (recB x).length ≤ 65536 := by
 have := (opB_len x h).2
 show (1 :: opB x).length ≤ _
 rw [List.length_cons]; omega
theorem append_op (l : List Ox) (s : Nat) (li : Int) {x : Ox} (hf : opFit x) (hl : l.length < 4000) : (padOf l s li).append (recB x) = (padOf (l ++ [x]) s li, 0) := by
 unfold padOf
 rw [append_plain _ _ _ _ (recB_len hf) (by rw [List.length_map]; exact hl), List.map_append]
 rfl
theorem sync_op (l : List Ox) (s : Nat) (li : Int) : (padOf l s li).sync = (padOf l l.length li, 0) := by
 unfold padOf
 rw [sync_plain, List.length_map]
theorem iY (l : List Ox) (s : Nat) (li : Int) (hf : ∀ x ∈ l, opFit x) (hs : s ≤ l.length) (hl : l.length ≤ 4000) : (padOf l s li).Ok :=
 ⟨by show s ≤ (l.map slotOf).length; rw [List.length_map]; exact hs, by show (l.map slotOf).length ≤ 4000; rw [List.length_map]; exact hl, (fun _ _ _ h => by cases h), (fun y hy => by
  obtain ⟨x, hx, rfl⟩ := List.mem_map.1 (show y ∈ l.map slotOf from hy)
  exact recB_len (hf x hx))⟩
theorem recB_bytes {x : Ox} (h : opFit x) : Bytes (recB x) := Bytes.cons ⟨by decide, by decide⟩ (opB_bytes h)
theorem spoil_bytes (keep : List Bool) (torn : Int) : ∀ (l : List Sl) (j : Nat), (∀ s ∈ l, Bytes s.1) → ∀ s ∈ spoil keep torn j l, Bytes s.1
 | [], _, _ => by simp [spoil]
 | a :: r, j, h => by
  intro x hx
  unfold spoil at hx
  rcases List.mem_cons.1 hx with e | e
  ·
   subst e
   split
   ·
    exact Bytes.nil
   ·
    exact h a List.mem_cons_self
  ·
   exact spoil_bytes keep torn r (j + 1) (fun y hy => h y (List.mem_cons_of_mem _ hy)) x e
theorem slots_bytes (l : List Ox) (hf : ∀ x ∈ l, opFit x) : ∀ s ∈ l.map slotOf, Bytes s.1 := by
 intro s hs
 obtain ⟨x, hx, rfl⟩ := List.mem_map.1 hs
 exact recB_bytes (hf x hx)
theorem crash_slots (l : List Ox) (s : Nat) (li : Int) (keep : List Bool) (hf : ∀ x ∈ l, opFit x) : (∀ q ∈ (((padOf l s li).crash keep (-1)).start).slots, Bytes q.1) ∧ noSnap (((padOf l s li).crash keep (-1)).start).slots := by
 rw [Pd.crash_on _ rfl]
 refine ⟨fun q hq => ?_, fun q hq => ?_⟩
 ·
  rcases List.mem_append.1 (show q ∈ (l.map slotOf).take s ++ spoil keep (-1) 0 ((l.map slotOf).drop s) from hq) with h | h
  ·
   exact slots_bytes l hf q (List.mem_of_mem_take h)
  ·
   exact spoil_bytes keep (-1) _ 0 (fun y hy => slots_bytes l hf y (List.mem_of_mem_drop hy)) q h
 ·
  rcases List.mem_append.1 (show q ∈ (l.map slotOf).take s ++ spoil keep (-1) 0 ((l.map slotOf).drop s) from hq) with h | h
  ·
   exact noSnap_ops l q (List.mem_of_mem_take h)
  ·
   exact kF keep (-1) _ 0 (fun y hy => noSnap_ops l y (List.mem_of_mem_drop hy)) q h
def wX : Ox := ⟨⟨0, 0⟩, [], ⟨0, 0, 0⟩, 1, 0, ⟨#[107]⟩, 0, [], []⟩
def wY : Ox := ⟨⟨0, 0⟩, [], ⟨0, 0, 0⟩, 2, 0, ⟨#[]⟩, 0, [], []⟩
theorem wX_fit : opFit wX := by decide
theorem wY_fit : opFit wY := by decide
theorem wake_ops : opsOf (((padOf [wX, wY] 1 0).crash [] (-1)).start).slots = [wX] := by
 rw [Pd.crash_on _ rfl]
 show opsOf ([wX].map slotOf ++ spoil [] (-1) 0 [slotOf wY]) = _
 rw [opsOf_app [wX] _ (fun x hx => by rw [List.mem_singleton.1 hx]; exact wX_fit)]
 unfold spoil
 rw [if_pos (show lost [] (-1) 0 from .inr rfl)]
 unfold opsOf
 rfl
section
variable {w : World} {F : List Part}
theorem wakes_calls (hS : Sp w F) : Calls Try.prog 12 #[] w fun e w' => e = .returned (.bool true) ∧ Sp w' F := by
 have HS0 := mk_ hS
 have hfx : ∀ x ∈ [wX, wY], opFit x := by intro x hx; rcases List.mem_cons.1 hx with rfl | hx; exact wX_fit; rw [List.mem_singleton.1 hx]; exact wY_fit
 have HFX := mk_ hfx
 clear hS hfx
 go_enter Try.func12, Try.ntmps12
 go_wp2_with (first
  | (go_at_call 45; go_loud (refine (new_calls HS0.out).mono ?_; rintro e w1 ⟨g, rfl, h1⟩; have H1 := mk_ h1; clear h1 HS0))
  | (go_at_call 19; (with_reducible show Calls _ _ _ w1 _); go_loud (have q_ := open_calls H1.out Pd.new_ok rfl rfl (fun s hs => by cases hs) (fun s hs => by cases hs); unfold snap0 at q_; refine q_.mono ?_; clear q_; rintro e w2 ⟨gl, v, rfl, h2⟩; obtain ⟨Av, cv, rfl, _, _⟩ := h2.s1.row; have HS := mk_ (show Sp w2 (LogP gl g :: PadP g (padOf [] 0 0) :: F) from Sp.tail h2.s1); clear h2 H1))
  | ((with_reducible refine bP (N := 3) rfl ?_); go_loud (refine bL ?hg (N := 3) ?hd (cs := #[.slice none 0 0, .int .i64 0, .int .i64 0, .int .i64 0, .slice none 0 0, .slice none 0 0, .slice none 0 0]) (t := 31) ?hr ?_; (case hd => rfl); (case hg => rfl); (case hr => first | (go_simp; done) | (go_simp; rfl)); intro g3 hg W3 hbox hb; have h_ := HS.out.boxed hg hbox hb; clear hbox hb hg; clear HS; have HS := mk_ h_; clear h_; have k3 := aC HS.out.blk; have kf3 := aH HS.out.blk))
  | ((with_reducible refine cN (t := 31) (p := 3) rfl ?_); go_loud (refine cF (t := 31) (p := 3) (v := ?vo3) (w1 := put7 W3 g3 (.slice none 0 0) (.int .i64 0) (.int .i64 0) (.int .i64 0) (.slice none 0 0) (.slice none 0 0) (.slice none 0 0)) ?hg ?ho ?hn ?hr ?_; (case ho => rfl); (case hg => rfl); (case hn => rfl); (case hr => first | (go_simp; done) | (go_simp; rfl)); intro W4 hw; have h_ := (HS.out).put7 (.slice none 0 0) (.int .i64 0) (.int .i64 0) (.int .i64 0) (.slice none 0 0) (.slice none 0 0) (.slice none 0 0); rw [← hw] at h_; clear hw HS; have HS := mk_ h_; clear h_; clear k3 kf3; have h_ := HS.out.tail; clear HS; have HS := mk_ h_; clear h_))
  | ((with_reducible refine bP (N := 6) rfl ?_); go_loud (refine bL ?hg (N := 6) ?hd (cs := #[.int .i64 0, .int .i64 0, .slice none 0 0, .int .i64 0, .int .i64 0, .int .i64 0, .int .i64 0, .int .i64 0, .string ⟨#[]⟩, .int .i64 0, .slice none 0 0, .slice none 0 0]) (t := 54) ?hr ?_; (case hd => rfl); (case hg => rfl); (case hr => first | (go_simp; done) | (go_simp; rfl)); intro g6 hg W5 hbox hb; have h_ := HS.out.boxed hg hbox hb; clear hbox hb hg; clear HS; have HS := mk_ h_; clear h_; have k6 := aC HS.out.blk; have kf6 := aH HS.out.blk))
  | ((with_reducible refine cN (t := 54) (p := 6) rfl ?_); go_loud (refine cF (t := 54) (p := 6) (v := ?vo6) (w1 := put12 W5 g6 (.int .i64 0) (.int .i64 0) (.slice none 0 0) (.int .i64 0) (.int .i64 0) (.int .i64 0) (.int .i64 1) (.int .i64 0) (.string ⟨#[107]⟩) (.int .i64 0) (.slice none 0 0) (.slice none 0 0)) ?hg ?ho ?hn ?hr ?_; (case ho => rfl); (case hg => rfl); (case hn => rfl); (case hr => first | (go_simp; done) | (go_simp; rfl)); intro W6 hw; have h_ := (HS.out).put12 (.int .i64 0) (.int .i64 0) (.slice none 0 0) (.int .i64 0) (.int .i64 0) (.int .i64 0) (.int .i64 1) (.int .i64 0) (.string ⟨#[107]⟩) (.int .i64 0) (.slice none 0 0) (.slice none 0 0); rw [← hw] at h_; clear hw HS; have HS := mk_ h_; clear h_; clear k6 kf6; have k6 := aC HS.out.blk; have h_ := HS.out.s2.s2; clear HS; have HS := mk_ h_; clear h_))
  | (go_at_call 18; (with_reducible show Calls _ _ _ W6 _); go_loud (refine (jN HS.out (iY [] 0 0 (fun x hx => by cases hx) (Nat.le_refl _) (Nat.zero_le _)) wX none none none 0 0 0 (Pads.C_nil _ _) (Nat.le_refl _) (Pads.C_nil _ _) (Nat.le_refl _) (Pads.C_nil _ _) (Nat.le_refl _) z4_ wX_fit (by have := (opB_len wX wX_fit).2; omega) (append_op [] 0 0 wX_fit z4_)).mono ?_; rintro e W7 ⟨rfl, h1⟩; have n_ := (show Sp W7 (LogP gl g :: PadP g (padOf [wX] 0 0) :: _) from h1); clear HS h1; have HS := mk_ n_; clear n_))
  | (go_at_call 22; go_loud (refine (lsync_calls HS.out (iY [wX] 0 0 (fun x hx => HFX.out x (by simp only [List.mem_singleton] at hx; rw [hx]; exact List.mem_cons_self)) z4_ z4_) (sync_op [wX] 0 0)).mono ?_; rintro e W8 ⟨rfl, h1⟩; have n_ := (show Sp W8 (LogP gl g :: PadP g (padOf [wX] 1 0) :: _) from h1); clear HS h1; have HS := mk_ n_; clear n_))
  | (go_at_call 18; (with_reducible show Calls _ _ _ W8 _); go_loud (refine (jN HS.out (iY [wX] 1 0 (fun x hx => HFX.out x (by simp only [List.mem_singleton] at hx; rw [hx]; exact List.mem_cons_self)) z4_ z4_) wY none none none 0 0 0 (Pads.C_nil _ _) (Nat.le_refl _) (Pads.C_nil _ _) (Nat.le_refl _) (Pads.C_nil _ _) (Nat.le_refl _) z4_ wY_fit (by have := (opB_len wY wY_fit).2; omega) (append_op [wX] 1 0 wY_fit z4_)).mono ?_; rintro e W9 ⟨rfl, h1⟩; have n_ := (show Sp W9 (LogP gl g :: PadP g (padOf [wX, wY] 1 0) :: _) from h1); clear HS h1; have HS := mk_ n_.s1; clear n_))
  | (go_at_call 23; go_loud (refine (crash_to HS.out (iY [wX, wY] 1 0 HFX.out z4_ z4_) none 0 [] (-1) (fun _ _ _ => Pads.C_nil _ _) rfl).mono ?_; rintro e W10 ⟨⟨v10, rfl⟩, h1⟩; clear HS; have HS := mk_ h1; clear h1))
  | (go_at_call 24; go_loud (refine (start_calls HS.out).mono ?_; rintro e W11 ⟨⟨v11, rfl⟩, h1⟩; clear HS; have HS := mk_ h1; clear h1))
  | (go_at_call 19; (with_reducible show Calls _ _ _ W11 _); go_loud (have q_ := open_calls HS.out (Pd.start_ok (Pd.crash_ok (iY [wX, wY] 1 0 HFX.out z4_ z4_) [] (-1))) rfl rfl (crash_slots [wX, wY] 1 0 [] HFX.out).1 (crash_slots [wX, wY] 1 0 [] HFX.out).2; rw [wake_ops] at q_; unfold snap0 at q_; refine q_.mono ?_; clear q_; rintro e W12 ⟨gl2, v, rfl, h2⟩; obtain ⟨gv, cv2, rfl⟩ := (h2.s1.has).elim fun ok h => row_form h z4_; have n_ := h2.s1; clear HS h2; have HS := mk_ n_; clear n_))
  | ((with_reducible refine bP (N := 8) rfl ?_); go_loud (refine bL ?hg (N := 8) ?hd (cs := #[.slice none 0 0, .int .i64 0, .int .i64 0, .int .i64 0, .slice none 0 0, .slice none 0 0, .slice none 0 0]) (t := 31) ?hr ?_; (case hd => rfl); (case hg => rfl); (case hr => first | (go_simp; done) | (go_simp; rfl)); intro g8 hg W13 hbox hb; have h_ := HS.out.boxed hg hbox hb; clear hbox hb hg; clear HS; have HS := mk_ h_; clear h_; have k8 := aC HS.out.blk; have kf8 := aH HS.out.blk))
  | ((with_reducible refine cN (t := 31) (p := 8) rfl ?_); go_loud (refine cF (t := 31) (p := 8) (v := ?vo8) (w1 := put7 W13 g8 (.slice none 0 0) (.int .i64 0) (.int .i64 0) (.int .i64 0) (.slice none 0 0) (.slice none 0 0) (.slice none 0 0)) ?hg ?ho ?hn ?hr ?_; (case ho => rfl); (case hg => rfl); (case hn => rfl); (case hr => first | (go_simp; done) | (go_simp; rfl)); intro W14 hw; have h_ := (HS.out).put7 (.slice none 0 0) (.int .i64 0) (.int .i64 0) (.int .i64 0) (.slice none 0 0) (.slice none 0 0) (.slice none 0 0); rw [← hw] at h_; clear hw HS; have HS := mk_ h_; clear h_; clear k8 kf8; have h_ := HS.out.tail; clear HS; have HS := mk_ h_; clear h_ k6; have k6 := aC HS.out.s4.blk)))
 have hSd := HS.out.drew
 have k6d := aC hSd.s4.blk
 obtain ⟨ce, hcl, hcc, hcf, hK⟩ := Sp.elem hSd wX 0 z4_
 replace hK : k54.K _ wX ce := hK
 obtain ⟨A2, c2, A10, c10, A11, c11, rfl, l2, C2, l10, C10, l11, C11⟩ := k54_open hK
 replace l2 : 0 ≤ c2 := l2
 replace l10 : 0 ≤ c10 := l10
 replace l11 : 0 ≤ c11 := l11
 have e0 : W14.drew.cell? ⟨gv, 0, none⟩ = some (.int .i64 0) := hcc 0 _ rfl
 have e1 : W14.drew.cell? ⟨gv, 1, none⟩ = some (.int .i64 0) := hcc 1 _ rfl
 have e2 : W14.drew.cell? ⟨gv, 2, none⟩ = some (.slice A2 0 c2) := hcc 2 _ rfl
 have e3 : W14.drew.cell? ⟨gv, 3, none⟩ = some (.int .i64 0) := hcc 3 _ rfl
 have e4 : W14.drew.cell? ⟨gv, 4, none⟩ = some (.int .i64 0) := hcc 4 _ rfl
 have e5 : W14.drew.cell? ⟨gv, 5, none⟩ = some (.int .i64 0) := hcc 5 _ rfl
 have e6 : W14.drew.cell? ⟨gv, 6, none⟩ = some (.int .i64 1) := hcc 6 _ rfl
 have e7 : W14.drew.cell? ⟨gv, 7, none⟩ = some (.int .i64 0) := hcc 7 _ rfl
 have e8 : W14.drew.cell? ⟨gv, 8, none⟩ = some (.string ⟨#[107]⟩) := hcc 8 _ rfl
 have e9 : W14.drew.cell? ⟨gv, 9, none⟩ = some (.int .i64 0) := hcc 9 _ rfl
 have e10 : W14.drew.cell? ⟨gv, 10, none⟩ = some (.slice A10 0 c10) := hcc 10 _ rfl
 have e11 : W14.drew.cell? ⟨gv, 11, none⟩ = some (.slice A11 0 c11) := hcc 11 _ rfl
 have hkeep : PAll.raddlekeep_Op.f 10 0 0 [] 0 0 0 1 0 ⟨#[107]⟩ 0 [] [] 0 0 [] 0 0 0 1 0 ⟨#[107]⟩ 0 [] [] = some true := (keepOp_eq 10 wX wX z4_ z4_ z4_ z4_).trans (by rw [decide_eq_true rfl])
 refine fI (n := 15) (S := fun w' => w'.cell? ⟨gv, 0, none⟩ = some (.int .i64 0) ∧ w'.cell? ⟨gv, 1, none⟩ = some (.int .i64 0) ∧ w'.cell? ⟨gv, 2, none⟩ = some (.slice A2 0 c2) ∧ w'.cell? ⟨gv, 3, none⟩ = some (.int .i64 0) ∧ w'.cell? ⟨gv, 4, none⟩ = some (.int .i64 0) ∧ w'.cell? ⟨gv, 5, none⟩ = some (.int .i64 0) ∧ w'.cell? ⟨gv, 6, none⟩ = some (.int .i64 1) ∧ w'.cell? ⟨gv, 7, none⟩ = some (.int .i64 0) ∧ w'.cell? ⟨gv, 8, none⟩ = some (.string ⟨#[107]⟩) ∧ w'.cell? ⟨gv, 9, none⟩ = some (.int .i64 0) ∧ w'.cell? ⟨gv, 10, none⟩ = some (.slice A10 0 c10) ∧ w'.cell? ⟨gv, 11, none⟩ = some (.slice A11 0 c11) ∧ w'.cell? ⟨g6, 0, none⟩ = some (.int .i64 0) ∧ w'.cell? ⟨g6, 1, none⟩ = some (.int .i64 0) ∧ w'.cell? ⟨g6, 2, none⟩ = some (.slice none 0 0) ∧ w'.cell? ⟨g6, 3, none⟩ = some (.int .i64 0) ∧ w'.cell? ⟨g6, 4, none⟩ = some (.int .i64 0) ∧ w'.cell? ⟨g6, 5, none⟩ = some (.int .i64 0) ∧ w'.cell? ⟨g6, 6, none⟩ = some (.int .i64 1) ∧ w'.cell? ⟨g6, 7, none⟩ = some (.int .i64 0) ∧ w'.cell? ⟨g6, 8, none⟩ = some (.string ⟨#[107]⟩) ∧ w'.cell? ⟨g6, 9, none⟩ = some (.int .i64 0) ∧ w'.cell? ⟨g6, 10, none⟩ = some (.slice none 0 0) ∧ w'.cell? ⟨g6, 11, none⟩ = some (.slice none 0 0) ∧ True) (ds := [12]) (Steps.Bs 15 0) z1_ rfl rfl ⟨e0, e1, e2, e3, e4, e5, e6, e7, e8, e9, e10, e11, (k6d 0).trans rfl, (k6d 1).trans rfl, (k6d 2).trans rfl, (k6d 3).trans rfl, (k6d 4).trans rfl, (k6d 5).trans rfl, (k6d 6).trans rfl, (k6d 7).trans rfl, (k6d 8).trans rfl, (k6d 9).trans rfl, (k6d 10).trans rfl, (k6d 11).trans rfl, trivial⟩ (fun hHeld => ?_)
 clear k6 k6d e0 e1 e2 e3 e4 e5 e6 e7 e8 e9 e10 e11 hcc hcf hcl hK HS
 generalize World.drew _ = W at hSd C2 C10 C11 hHeld ⊢
 refine sI 0 55 15 1 ?_
 refine sI 1 56 15 3 ?_
 refine sI 2 57 15 7 ?_
 refine sI 3 58 15 15 ?_
 refine sI 4 59 15 31 ?_
 refine sI 5 60 15 63 ?_
 refine sI 6 61 15 127 ?_
 refine sI 7 62 15 255 ?_
 refine sI 8 63 15 511 ?_
 refine sI 9 64 15 1023 ?_
 refine sT hHeld 10 65 15 2047 ?_
 refine sT hHeld 11 66 15 4095 ?_
 refine last_ (i := 12) (N := some 67) (Steps.Bs 15 8191) rfl rfl z1_ z4_ (fun K hK => ?_)
 refine goes_ Try.func46 z1_ rfl #[.agg #[.int .i64 0, .int .i64 0, .slice A2 0 c2, .int .i64 0, .int .i64 0, .int .i64 0, .int .i64 1, .int .i64 0, .string ⟨#[107]⟩, .int .i64 0, .slice A10 0 c10, .slice A11 0 c11], .agg #[.int .i64 0, .int .i64 0, .slice none 0 0, .int .i64 0, .int .i64 0, .int .i64 0, .int .i64 1, .int .i64 0, .string ⟨#[107]⟩, .int .i64 0, .slice none 0 0, .slice none 0 0]] (by rfl) rfl rfl z6_ ?_
 refine (PAll.raddlekeep_Op.calls 10 0 0 A2 c2 [] 0 0 0 1 0 ⟨#[107]⟩ 0 A10 c10 [] A11 c11 [] 0 0 none 0 [] 0 0 0 1 0 ⟨#[107]⟩ 0 none 0 [] none 0 [] true W C2 l2 C10 l10 C11 l11 (Pads.C_nil _ _) (Nat.le_refl _) (Pads.C_nil _ _) (Nat.le_refl _) (Pads.C_nil _ _) (Nat.le_refl _) hkeep).mono ?_
 rintro e W15 ⟨rfl, hb⟩
 have HE := mk_ (hSd.tail.tail.tail.tail.tail.below hb)
 refine ⟨_, rfl, ?_⟩
 refine hK.out _ _ ?_
 clear hK K
 refine nrm 67 ?_
 refine sI 13 68 15 16383 ?_
 refine sI 14 0 15 32767 ?_
 refine done_ z1_ ?_
 go_wp2
 go_ret
 exact ⟨rfl, HE.out⟩
end
end Go.Proofs.Ytcbfliajgopdaaa.Logs
end
section
namespace Go.Proofs.Ytcbfliajgopdaaa.PAll
open Go.RowKit PAll Ops Snaps Logs Plain PrintWords PrintLast PrintMore Go.Proofs.Ytcbfliajgopdaaa.Sep ZipT PrintWords.Kd PrintMore.Kd
set_option linter.unusedVariables false
set_option linter.unusedSimpArgs false
instance (x : Rx) : Decidable (rowSmall x) := by unfold rowSmall; infer_instance
instance (t : List Rx) : Decidable (tabSmall t) := by unfold tabSmall; infer_instance
instance (x : Sn) : Decidable (snapSmall x) := by unfold snapSmall; infer_instance
def dX.f (l0_0 : List Int) (a0_1 : Int) (a0_2 : Int) (a0_3 : Int) (l0_4 : List (List Rx)) (l0_5 : List (List Int)) (l0_6 : List Ox) : Option (List Int × Int) := if snapSmall (⟨l0_0, ⟨a0_1, a0_2, a0_3⟩, l0_4, l0_5, l0_6⟩ : Sn) then some (sSnapBytes (⟨l0_0, ⟨a0_1, a0_2, a0_3⟩, l0_4, l0_5, l0_6⟩ : Sn)) else none
theorem dX.calls (A0_0 : Option Addr) (c0_0 : Nat) (l0_0 : List Int) (a0_1 : Int) (a0_2 : Int) (a0_3 : Int) (A0_4 : Option Addr) (c0_4 : Nat) (l0_4 : List (List Rx)) (A0_5 : Option Addr) (c0_5 : Nat) (l0_5 : List (List Int)) (A0_6 : Option Addr) (c0_6 : Nat) (l0_6 : List Ox) (r1 : List Int) (r2 : Int) (w : World) (hr0_0 : Kd.C (Kd.int .i64) w A0_0 l0_0.length l0_0) (hc0_0 : l0_0.length ≤ c0_0) (hr0_4 : Kd.C (Kd.slice 80 k80) w A0_4 l0_4.length l0_4) (hc0_4 : l0_4.length ≤ c0_4) (hr0_5 : Kd.C (Kd.slice 3 (Kd.int .i64)) w A0_5 l0_5.length l0_5) (hc0_5 : l0_5.length ≤ c0_5) (hr0_6 : Kd.C k54 w A0_6 l0_6.length l0_6) (hc0_6 : l0_6.length ≤ c0_6) (h : dX.f l0_0 a0_1 a0_2 a0_3 l0_4 l0_5 l0_6 = some (r1, r2)) :
  Calls Try.prog 13 #[.agg #[.slice A0_0 l0_0.length c0_0, .int .i64 a0_1, .int .i64 a0_2, .int .i64 a0_3, .slice A0_4 l0_4.length c0_4, .slice A0_5 l0_5.length c0_5, .slice A0_6 l0_6.length c0_6]] w fun e w' => ∃ v0_ : Value, e = .returned (.tuple #[v0_, .int .i64 r2]) ∧ Kd.R (Kd.int .u8) 5 w' w.heap.size (fun _ => True) v0_ r1 ∧ Below w.heap.size w w' := by
 unfold dX.f at h
 split at h
 ·
  rename_i hs
  have he := Option.some.inj h
  have hQ := kA (⟨l0_0, ⟨a0_1, a0_2, a0_3⟩, l0_4, l0_5, l0_6⟩ : Sn) A0_0 A0_4 A0_5 A0_6 c0_0 c0_4 c0_5 c0_6 hr0_0 hc0_0 hr0_4 hc0_4 hr0_5 hc0_5 hr0_6 hc0_6 hs
  rw [he] at hQ
  refine hQ.mono ?_
  rintro e w' ⟨v, rfl, h1⟩
  exact ⟨v, rfl, Sp.rowOut (fun h => h) h1, h1.tail.old⟩
 ·
  cases h
def cR.f (l0 : List Int) : Option (List Int × Int × Int × Int × (List (List Rx)) × (List (List Int)) × (List Ox) × Int) := if Bytes l0 ∧ l0.length ≤ 1000000 then some ((sReadSnap l0).1.f0, (sReadSnap l0).1.f1.f0, (sReadSnap l0).1.f1.f1, (sReadSnap l0).1.f1.f2, (sReadSnap l0).1.f2, (sReadSnap l0).1.f3, (sReadSnap l0).1.f4, (sReadSnap l0).2) else none
theorem hD {α : Type} {d : Kd α} {e : Nat} {v : Value} {xs : List α} {w : World} {b : Nat} {ok : Nat → Prop} (hge : ∀ k, k < w.heap.size → ok k → b ≤ k) (hM : (∀ ok' : Nat → Prop, (∀ k, k < w.heap.size → ok' k → b ≤ k) → ∀ x cs, d.M w 0 ok' x cs → d.M w b ok' x cs)) (h : d.R e w 0 ok v xs) : d.R e w b ok v xs := by
 obtain ⟨h0, inner, ⟨hl, ho⟩, hr⟩ := h
 refine ⟨h0, inner, ⟨hl, ?_⟩, hr.imp_ (fun _ _ hp => hM _ (fun k hk hk' => hge k hk hk'.1) _ _ hp)⟩
 rcases ho with h | ⟨g, cap, cur, rfl, _, hg, rest⟩
 ·
  exact .inl h
 ·
  exact .inr ⟨g, cap, cur, rfl, hge g (Array.getElem?_eq_some_iff.1 hg).1 (h0 g rfl), hg, rest⟩
theorem rowOut' {α : Type} {d : Kd α} {e : Nat} {v : Value} {xs : List α} {w w' : World} {F : List Part} (hM : ∀ ok : Nat → Prop, (∀ k, k < w'.heap.size → ok k → w.heap.size ≤ k) → ∀ x cs, d.M w' 0 ok x cs → d.M w' w.heap.size ok x cs) (h : Sp w' (Row d e v xs :: Old w :: F)) : Kd.R d e w' w.heap.size (fun _ => True) v xs := by
 obtain ⟨ok, h1, hr, ok2, h2, ho, _⟩ := h
 have hge : ∀ k, k < w'.heap.size → ok k → w.heap.size ≤ k := fun k hk hok => by
  by_cases hlt : k < w.heap.size
  ·
   exact absurd hok (h2 k (ho.1 k hlt)).2
  ·
   omega
 exact R_mono (hD hge hM hr) (fun k _ => trivial)
section
variable {w : World} {b : Nat} {ok : Nat → Prop}
theorem raise_rowx (hge : ∀ k, k < w.heap.size → ok k → b ≤ k) (x : Rx) (cs : List Value) (h : k80.M w 0 ok x cs) : k80.M w b ok x cs := by
 obtain ⟨v1, v2, rfl, g1, g2⟩ := k80_openM h
 exact k80_mkM w b ok x (hD hge (fun _ _ _ _ h => h) g1) (hD hge (fun _ _ _ _ h => h) g2)
theorem raise_op (hge : ∀ k, k < w.heap.size → ok k → b ≤ k) (x : Ox) (cs : List Value) (h : k54.M w 0 ok x cs) : k54.M w b ok x cs := by
 obtain ⟨v1, v2, v3, rfl, g1, g2, g3⟩ := k54_openM h
 exact k54_mkM w b ok x (hD hge (fun _ _ _ _ h => h) g1) (hD hge (fun _ _ _ _ h => h) g2) (hD hge (fun _ _ _ _ h => h) g3)
theorem raise_slice {α : Type} {d : Kd α} {e : Nat} (hge : ∀ k, k < w.heap.size → ok k → b ≤ k) (hM : (∀ ok' : Nat → Prop, (∀ k, k < w.heap.size → ok' k → b ≤ k) → ∀ x cs, d.M w 0 ok' x cs → d.M w b ok' x cs)) (xs : List α) (cs : List Value) (h : (Kd.slice e d).M w 0 ok xs cs) : (Kd.slice e d).M w b ok xs cs := by
 obtain ⟨v, rfl, g⟩ := h
 exact ⟨v, rfl, hD hge hM g⟩
end
theorem cR.calls (A0 : Option Addr) (c0 : Nat) (l0 : List Int) (r1 : List Int) (r2 : Int) (r3 : Int) (r4 : Int) (r5 : List (List Rx)) (r6 : List (List Int)) (r7 : List Ox) (r8 : Int) (w : World) (hr0 : Kd.C (Kd.int .u8) w A0 l0.length l0) (hc0 : l0.length ≤ c0) (h : cR.f l0 = some (r1, r2, r3, r4, r5, r6, r7, r8)) :
  Calls Try.prog 8 #[.slice A0 l0.length c0] w fun e w' => ∃ v0_ v4_ v5_ v6_ : Value, e = .returned (.tuple #[.agg #[v0_, .int .i64 r2, .int .i64 r3, .int .i64 r4, v4_, v5_, v6_], .int .i64 r8]) ∧ Kd.R (Kd.int .i64) 3 w' w.heap.size (fun _ => True) v0_ r1 ∧ Kd.R (Kd.slice 80 k80) 77 w' w.heap.size (fun _ => True) v4_ r5 ∧ Kd.R (Kd.slice 3 (Kd.int .i64)) 24 w' w.heap.size (fun _ => True) v5_ r6 ∧ Kd.R k54 54 w' w.heap.size (fun _ => True) v6_ r7 ∧ Below w.heap.size w w' := by
 unfold cR.f at h
 split at h
 ·
  rename_i hs
  have he := Option.some.inj h
  simp only [Prod.mk.injEq] at he
  obtain ⟨rfl, rfl, rfl, rfl, rfl, rfl, rfl, rfl⟩ := he
  refine (readsnap_sp hr0 hc0 hs.1 hs.2).mono ?_
  rintro e w' ⟨v0, v4, v5, v6, rfl, h1⟩
  exact ⟨v0, v4, v5, v6, rfl, rowOut' (fun ok hg _ _ h => h) h1.s1.tail.s1.tail.s1.tail, rowOut' (fun ok hg => raise_slice hg (fun ok hg => raise_rowx hg)) h1.tail.s1.tail.s1.tail, rowOut' (fun ok hg => raise_slice hg (fun _ _ _ _ h => h)) h1.tail.tail.s1.tail, rowOut' (fun ok hg => raise_op hg) h1.tail.tail.tail, h1.tail.tail.tail.tail.old⟩
 ·
  cases h
def bZ.f : Option Bool := some true
theorem bZ.calls (r : Bool) (w : World) (h : bZ.f = some r) :
  Calls Try.prog 12 #[] w fun e w' => e = .returned (.bool r) ∧ Below w.heap.size w w' := by
 obtain rfl : true = r := Option.some.inj h
 refine (Logs.wakes_calls (Sp.start w)).mono ?_
 rintro e w' ⟨rfl, h1⟩
 exact ⟨rfl, h1.old⟩
end Go.Proofs.Ytcbfliajgopdaaa.PAll
end
section
namespace Go.Proofs.Ytcbfliajgopdaaa.PAll
open Go.RowKit PrintWords PrintLast PrintMore ZipT PrintWords.Kd PrintMore.Kd
attribute [local go_sem] eC eA eN eR dR dP eD eB   -- for this text's walks alone
set_option linter.unusedVariables false
set_option linter.unusedSimpArgs false
mutual
def aA.j0 : Nat → Int → Int → Bool → List Int → Int → Int → Int → List (List (S80)) → List (List Int) → List (S54) → List Int → Int → Int → Int → List (List (S80)) → List (List Int) → List (S54) → Option (Bool)
 | 0, _, _, _, _, _, _, _, _, _, _, _, _, _, _, _, _, _ => none
 | k + 1, x2, x3, x29, x428000, x428001, x428002, x428003, x428004, x428005, x428006, x429000, x429001, x429002, x429003, x429004, x429005, x429006 => if x29 = true then (some true) else ((dX.f x428000 x428001 x428002 x428003 x428004 x428005 x428006).bind fun bt433 => ((dX.f x429000 x429001 x429002 x429003 x429004 x429005 x429006).bind fun bt437 => (if bt433.2 = 0 then (aA.j1 k x2 x3 bt433.1 bt433.2 bt437.1 bt437.2 (bt437.2 != 0) x428000 x428001 x428002 x428003 x428004 x428005 x428006 x429000 x429001 x429002 x429003 x429004 x429005 x429006) else (aA.j1 k x2 x3 bt433.1 bt433.2 bt437.1 bt437.2 true x428000 x428001 x428002 x428003 x428004 x428005 x428006 x429000 x429001 x429002 x429003 x429004 x429005 x429006))))
def aA.j1 : Nat → Int → Int → List Int → Int → List Int → Int → Bool → List Int → Int → Int → Int → List (List (S80)) → List (List Int) → List (S54) → List Int → Int → Int → Int → List (List (S80)) → List (List Int) → List (S54) → Option (Bool)
 | 0, _, _, _, _, _, _, _, _, _, _, _, _, _, _, _, _, _, _, _, _, _ => none
 | k + 1, x2, x3, x9, x10, x11, x12, x45, x428000, x428001, x428002, x428003, x428004, x428005, x428006, x429000, x429001, x429002, x429003, x429004, x429005, x429006 => if x45 = true then (if x10 = 0 then (if x12 = 0 then ((bZ.f).bind fun t441 => (some t441)) else (if x12 = 2 then (if (x11.length : Int) = 0 then ((bZ.f).bind fun t442 => (some t442)) else (some false)) else (some false))) else (if x10 = 2 then (if (x9.length : Int) = 0 then (if x12 = 0 then ((bZ.f).bind fun t443 => (some t443)) else (if x12 = 2 then (if (x11.length : Int) = 0 then ((bZ.f).bind fun t444 => (some t444)) else (some false)) else (some false))) else (some false)) else (some false))) else (if (x9.length : Int) = 0 then (aA.j2 k x2 x3 x9 true) else ((bT.f k x9 x11).bind fun t445 => ((bB.f k x428000 x428001 x428002 x428003 x428004 x428005 x428006 x429000 x429001 x429002 x429003 x429004 x429005 x429006).bind fun t446 => (aA.j2 k x2 x3 x9 (t445 != t446)))))
def aA.j2 : Nat → Int → Int → List Int → Bool → Option (Bool)
 | 0, _, _, _, _ => none
 | k + 1, x2, x3, x9, x84 => if x84 = true then (some false) else (if (IntKind.u64.wrap ((x9.length : Int))) = 0 then (none) else (if 0 ≤ (wrap64 (Int.tmod (IntKind.u64.wrap (x2)) (IntKind.u64.wrap ((x9.length : Int))))) then (if (wrap64 (Int.tmod (IntKind.u64.wrap (x2)) (IntKind.u64.wrap ((x9.length : Int))))) ≤ (x9.length : Int) then ((cR.f (x9.take ((wrap64 (Int.tmod (IntKind.u64.wrap (x2)) (IntKind.u64.wrap ((x9.length : Int))))) : Int).toNat)).bind fun bt451 => ((dM.f x9).bind fun t468 => (if t468.length < 140737488355328 then ((cR.f (t468 ++ [x3])).bind fun bt474 => (if bt451.2.2.2.2.2.2.2 = 3 then (if bt474.2.2.2.2.2.2.2 = 3 then ((bB.f k bt451.1 bt451.2.1 bt451.2.2.1 bt451.2.2.2.1 bt451.2.2.2.2.1 bt451.2.2.2.2.2.1 bt451.2.2.2.2.2.2.1 ([] : List Int) 0 0 0 ([] : List (List (S80))) ([] : List (List Int)) ([] : List (S54))).bind fun t490 => (if t490 = true then ((bZ.f).bind fun t491 => (some t491)) else (some false))) else (some false)) else (some false))) else (none)))) else (none)) else (none)))
end
def aA.f (k : Nat) (l0_0 : List Int) (a0_1 : Int) (a0_2 : Int) (a0_3 : Int) (l0_4 : List (List (S80))) (l0_5 : List (List Int)) (l0_6 : List (S54)) (l1_0 : List Int) (a1_1 : Int) (a1_2 : Int) (a1_3 : Int) (l1_4 : List (List (S80))) (l1_5 : List (List Int)) (l1_6 : List (S54)) (a2 : Int) (a3 : Int) : Option (Bool) := (aQ.f k l0_0 a0_1 a0_2 a0_3 l0_4 l0_5 l0_6).bind fun t429 => (if t429 = true then (aA.j0 k a2 a3 true l0_0 a0_1 a0_2 a0_3 l0_4 l0_5 l0_6 l1_0 a1_1 a1_2 a1_3 l1_4 l1_5 l1_6) else ((aQ.f k l1_0 a1_1 a1_2 a1_3 l1_4 l1_5 l1_6).bind fun t430 => (if t430 = true then (aA.j0 k a2 a3 true l0_0 a0_1 a0_2 a0_3 l0_4 l0_5 l0_6 l1_0 a1_1 a1_2 a1_3 l1_4 l1_5 l1_6) else ((aD.f k l0_0 a0_1 a0_2 a0_3 l0_4 l0_5 l0_6).bind fun t431 => (if t431 = true then ((aD.f k l1_0 a1_1 a1_2 a1_3 l1_4 l1_5 l1_6).bind fun t432 => (aA.j0 k a2 a3 (!t432) l0_0 a0_1 a0_2 a0_3 l0_4 l0_5 l0_6 l1_0 a1_1 a1_2 a1_3 l1_4 l1_5 l1_6)) else (aA.j0 k a2 a3 true l0_0 a0_1 a0_2 a0_3 l0_4 l0_5 l0_6 l1_0 a1_1 a1_2 a1_3 l1_4 l1_5 l1_6))))))
def aA.T7 : Bool × List (List Nat × List Nat) := (true, [([], []), ([0], [0]), ([1], [1]), ([2], [2]), ([3], [3]), ([3], [3]), ([4, 5, 3, 3], [3, 4, 5]), ([3], [3]), ([3], [3]), ([7, 8, 6, 3], [3, 7, 8]), ([6, 9, 3], [3, 6, 9]), ([3, 10], [3, 10])])
def aA.B7 : List Nat := [0, 1, 3, 7, 15, 15, 63, 15, 15, 511, 1023, 2047]
theorem aA.tab7 : rtab .any (opsOf Try.f6 7) = aA.T7 := by kernel_rfl
theorem R_old {α : Type} {d : Kd α} {e : Nat} {W w1 : World} {base : Nat} {ok : Nat → Prop} {u : Value} {xs : List α} (hu : d.R e W base ok u xs) (hb : Below W.heap.size W w1) : d.R e w1 base (fun k => ok k ∧ k < W.heap.size) u xs :=
 R_mono (cO (fH hu) hb) (fun _ h => ⟨h.1, h.2.2.1⟩)
theorem R_told {α : Type} {d : Kd α} {e : Nat} {w1 : World} {base N : Nat} {ok : Nat → Prop} {u v : Value} {xs : List α} (h : d.R e w1 base (fun k => ok k ∧ k < N) u xs) (hbase : ∀ k, v.ownBlock = some k → N ≤ k) : d.R e w1 base (fun k => (ok k ∧ some k ≠ v.ownBlock) ∧ k < N) u xs :=
 R_mono h (fun k hk => ⟨⟨hk.1, fun e => Nat.lt_irrefl _ (Nat.lt_of_lt_of_le hk.2 (hbase k e.symm))⟩, hk.2⟩)
theorem aA.bits7 : waitsOk aA.T7.2 aA.B7 = true := by kernel_rfl
theorem aA.calls (k : Nat) (A0_0 : Option Addr) (c0_0 : Nat) (l0_0 : List Int) (a0_1 : Int) (a0_2 : Int) (a0_3 : Int) (A0_4 : Option Addr) (c0_4 : Nat) (l0_4 : List (List (S80))) (A0_5 : Option Addr) (c0_5 : Nat) (l0_5 : List (List Int)) (A0_6 : Option Addr) (c0_6 : Nat) (l0_6 : List (S54)) (A1_0 : Option Addr) (c1_0 : Nat) (l1_0 : List Int) (a1_1 : Int) (a1_2 : Int) (a1_3 : Int) (A1_4 : Option Addr) (c1_4 : Nat) (l1_4 : List (List (S80))) (A1_5 : Option Addr) (c1_5 : Nat) (l1_5 : List (List Int)) (A1_6 : Option Addr) (c1_6 : Nat) (l1_6 : List (S54)) (a2 : Int) (a3 : Int) (r : Bool) (w : World) (hr0_0 : Kd.C (Kd.int .i64) w A0_0 l0_0.length l0_0) (hc0_0 : l0_0.length ≤ c0_0) (hr0_4 : Kd.C (Kd.slice 80 k80) w A0_4 l0_4.length l0_4) (hc0_4 : l0_4.length ≤ c0_4) (hr0_5 : Kd.C (Kd.slice 3 (Kd.int .i64)) w A0_5 l0_5.length l0_5) (hc0_5 : l0_5.length ≤ c0_5) (hr0_6 : Kd.C k54 w A0_6 l0_6.length l0_6) (hc0_6 : l0_6.length ≤ c0_6) (hr1_0 : Kd.C (Kd.int .i64) w A1_0 l1_0.length l1_0) (hc1_0 : l1_0.length ≤ c1_0) (hr1_4 : Kd.C (Kd.slice 80 k80) w A1_4 l1_4.length l1_4) (hc1_4 : l1_4.length ≤ c1_4) (hr1_5 : Kd.C (Kd.slice 3 (Kd.int .i64)) w A1_5 l1_5.length l1_5) (hc1_5 : l1_5.length ≤ c1_5) (hr1_6 : Kd.C k54 w A1_6 l1_6.length l1_6) (hc1_6 : l1_6.length ≤ c1_6) (hrt : r = true) (h : aA.f k l0_0 a0_1 a0_2 a0_3 l0_4 l0_5 l0_6 l1_0 a1_1 a1_2 a1_3 l1_4 l1_5 l1_6 a2 a3 = some r) :
  Calls Try.prog 6 #[.agg #[.slice A0_0 l0_0.length c0_0, .int .i64 a0_1, .int .i64 a0_2, .int .i64 a0_3, .slice A0_4 l0_4.length c0_4, .slice A0_5 l0_5.length c0_5, .slice A0_6 l0_6.length c0_6], .agg #[.slice A1_0 l1_0.length c1_0, .int .i64 a1_1, .int .i64 a1_2, .int .i64 a1_3, .slice A1_4 l1_4.length c1_4, .slice A1_5 l1_5.length c1_5, .slice A1_6 l1_6.length c1_6], .int .i64 a2, .int .u8 a3] w fun e w' => e = .returned (.bool r) ∧ Below w.heap.size w w' := by
 have hu31 := Try.underlying31
 have HR0_0 := mk_ hr0_0
 have HC0_0 := mk_ hc0_0
 clear hr0_0 hc0_0
 have HR0_4 := mk_ hr0_4
 have HC0_4 := mk_ hc0_4
 clear hr0_4 hc0_4
 have HR0_5 := mk_ hr0_5
 have HC0_5 := mk_ hc0_5
 clear hr0_5 hc0_5
 have HR0_6 := mk_ hr0_6
 have HC0_6 := mk_ hc0_6
 clear hr0_6 hc0_6
 have HR1_0 := mk_ hr1_0
 have HC1_0 := mk_ hc1_0
 clear hr1_0 hc1_0
 have HR1_4 := mk_ hr1_4
 have HC1_4 := mk_ hc1_4
 clear hr1_4 hc1_4
 have HR1_5 := mk_ hr1_5
 have HC1_5 := mk_ hc1_5
 clear hr1_5 hc1_5
 have HR1_6 := mk_ hr1_6
 have HC1_6 := mk_ hc1_6
 clear hr1_6 hc1_6
 have HB := mk_ (Below.refl w.heap.size w)
 have H : ((aQ.f k l0_0 a0_1 a0_2 a0_3 l0_4 l0_5 l0_6).bind fun t429 => (if t429 = true then (aA.j0 k a2 a3 true l0_0 a0_1 a0_2 a0_3 l0_4 l0_5 l0_6 l1_0 a1_1 a1_2 a1_3 l1_4 l1_5 l1_6) else ((aQ.f k l1_0 a1_1 a1_2 a1_3 l1_4 l1_5 l1_6).bind fun t430 => (if t430 = true then (aA.j0 k a2 a3 true l0_0 a0_1 a0_2 a0_3 l0_4 l0_5 l0_6 l1_0 a1_1 a1_2 a1_3 l1_4 l1_5 l1_6) else ((aD.f k l0_0 a0_1 a0_2 a0_3 l0_4 l0_5 l0_6).bind fun t431 => (if t431 = true then ((aD.f k l1_0 a1_1 a1_2 a1_3 l1_4 l1_5 l1_6).bind fun t432 => (aA.j0 k a2 a3 (!t432) l0_0 a0_1 a0_2 a0_3 l0_4 l0_5 l0_6 l1_0 a1_1 a1_2 a1_3 l1_4 l1_5 l1_6)) else (aA.j0 k a2 a3 true l0_0 a0_1 a0_2 a0_3 l0_4 l0_5 l0_6 l1_0 a1_1 a1_2 a1_3 l1_4 l1_5 l1_6))))))) = some r := h
 clear h
 have HC5 := mk_ H
 clear H
 go_enter Try.func6, Try.ntmps6
 go_upto_region 1 with (first | ((with_reducible refine bP (N := 4) rfl ?_); refine bL ?hg (N := 4) ?hd (cs := #[.slice A0_0 l0_0.length c0_0, .int .i64 a0_1, .int .i64 a0_2, .int .i64 a0_3, .slice A0_4 l0_4.length c0_4, .slice A0_5 l0_5.length c0_5, .slice A0_6 l0_6.length c0_6]) (t := 31) ?hr ?_; (case hd => rfl); (case hg => rfl); (case hr => first | (go_simp; done) | (go_simp; rfl)); intro gb427 hg w6 hbox hb; have n0_ := mk_ (aI (Short.hB HB) hb); have n1_ := mk_ (hbox); have n2_ := mk_ ((by rw [hg]; exact (aN (Short.hB HB)) : w.heap.size ≤ gb427)); have n3_ := mk_ ((by rw [hg]; exact (aN (Short.hB HB)) : w.heap.size ≤ gb427)); clear HB; revert n0_ n1_ n2_ n3_; intro HB BK427 GW427 GE427; clear hb hbox hg) | ((with_reducible refine bP (N := 5) rfl ?_); refine bL ?hg (N := 5) ?hd (cs := #[.slice A1_0 l1_0.length c1_0, .int .i64 a1_1, .int .i64 a1_2, .int .i64 a1_3, .slice A1_4 l1_4.length c1_4, .slice A1_5 l1_5.length c1_5, .slice A1_6 l1_6.length c1_6]) (t := 31) ?hr ?_; (case hd => rfl); (case hg => rfl); (case hr => first | (go_simp; done) | (go_simp; rfl)); intro gb428 hg w7 hbox hb; have n0_ := mk_ (bB_ BK427 hb); have n1_ := mk_ (aI (Short.hB HB) hb); have n2_ := mk_ (hbox); have n3_ := mk_ ((by rw [hg]; exact (aN (Short.hB HB)) : w.heap.size ≤ gb428)); have n4_ := mk_ ((by rw [hg]; exact (aN (Short.hB HB)) : w.heap.size ≤ gb428)); have n5_ := mk_ ((by rw [hg]; exact Nat.ne_of_lt (eG (Short.bK BK427)) : gb427 ≠ gb428)); have n6_ := mk_ ((by rw [hg]; exact Nat.ne_of_gt (eG (Short.bK BK427)) : gb428 ≠ gb427)); clear BK427 HB; revert n0_ n1_ n2_ n3_ n4_ n5_ n6_; intro BK427 HB BK428 GW428 GE428 NB427_428 NB428_427; clear hb hbox hg))
 (try simp only [Act.put, List.setIfInBounds_toArray, List.set_cons_zero, List.set_cons_succ])
 go_cut [29] (fun v29 wc => ∃ (kq : Nat) (x29_4 : Bool), v29 = .bool x29_4 ∧ Aside0 (aA.j0 kq a2 a3 x29_4 l0_0 a0_1 a0_2 a0_3 l0_4 l0_5 l0_6 l1_0 a1_1 a1_2 a1_3 l1_4 l1_5 l1_6 = some r) ∧ Aside0 (kq ≤ k) ∧ Aside0 (wc.heap[gb427]? = some (.cells #[(.slice A0_0 l0_0.length c0_0), .int .i64 a0_1, .int .i64 a0_2, .int .i64 a0_3, (.slice A0_4 l0_4.length c0_4), (.slice A0_5 l0_5.length c0_5), (.slice A0_6 l0_6.length c0_6)] 31 (0, 0))) ∧ Aside0 (wc.heap[gb428]? = some (.cells #[(.slice A1_0 l1_0.length c1_0), .int .i64 a1_1, .int .i64 a1_2, .int .i64 a1_3, (.slice A1_4 l1_4.length c1_4), (.slice A1_5 l1_5.length c1_5), (.slice A1_6 l1_6.length c1_6)] 31 (0, 0))) ∧ Aside0 (Below w.heap.size w wc))
 case first =>
  have H := HC5.out
  clear HC5
  obtain ⟨t429, A8, H⟩ := Option.bind_eq_some_iff.mp H
  replace A8 := mk_ A8
  by_cases c9 : t429 = true
  ·
   subst c9
   rw [if_pos rfl] at H
   have H' := mk_ H
   clear H
   have hnb10 := NB427_428.out
   have hnc10 := NB428_427.out
   have hcz11_0 : w7.cell? ⟨gb427, 0, none⟩ = some (.slice A0_0 l0_0.length c0_0) := kc_ BK427 0
   have hcz11_1 : w7.cell? ⟨gb427, 1, none⟩ = some (.int .i64 a0_1) := kc_ BK427 1
   have hcz11_2 : w7.cell? ⟨gb427, 2, none⟩ = some (.int .i64 a0_2) := kc_ BK427 2
   have hcz11_3 : w7.cell? ⟨gb427, 3, none⟩ = some (.int .i64 a0_3) := kc_ BK427 3
   have hcz11_4 : w7.cell? ⟨gb427, 4, none⟩ = some (.slice A0_4 l0_4.length c0_4) := kc_ BK427 4
   have hcz11_5 : w7.cell? ⟨gb427, 5, none⟩ = some (.slice A0_5 l0_5.length c0_5) := kc_ BK427 5
   have hcz11_6 : w7.cell? ⟨gb427, 6, none⟩ = some (.slice A0_6 l0_6.length c0_6) := kc_ BK427 6
   have hfz11_0 := aH BK427.out
   go_wp2_with (first | ((with_reducible refine aT (f := 25) rfl ?_); refine Short.gL (some 15) Try.func25 #[.agg #[.slice A0_0 l0_0.length c0_0, .int .i64 a0_1, .int .i64 a0_2, .int .i64 a0_3, .slice A0_4 l0_4.length c0_4, .slice A0_5 l0_5.length c0_5, .slice A0_6 l0_6.length c0_6]] (h := ?_); (with_reducible refine (aQ.calls k _ _ l0_0 a0_1 a0_2 a0_3 _ _ l0_4 _ _ l0_5 _ _ l0_6 true _ ?side1 ?side2 ?side3 ?side4 ?side5 ?side6 ?side7 ?side8 A8.out).mono ?_); (case side1 => exact cX_ (aV HR0_0.out HB.out)); (case side2 => exact HC0_0.out); (case side3 => exact cX_ (aV HR0_4.out HB.out)); (case side4 => exact HC0_4.out); (case side5 => exact cX_ (aV HR0_5.out HB.out)); (case side6 => exact HC0_5.out); (case side7 => exact cX_ (aV HR0_6.out HB.out)); (case side8 => exact HC0_6.out); rintro e w12 ⟨rfl, hb⟩; refine ⟨_, rfl, ?_⟩; have n0_ := mk_ (bB_ BK427 hb); have n1_ := mk_ (bB_ BK428 hb); have n2_ := mk_ (aI (Short.hB HB) hb); clear BK427 BK428 HB; revert n0_ n1_ n2_; intro BK427 BK428 HB; (try clear hb)))
   go_meet
   case rel => exact ⟨_, (true), z3_, H', ⟨by first | omega | exact Nat.le_refl _⟩, ⟨by (with_reducible repeat (first | refine aG ?_ _ | refine aJ ?_ | refine aE ?_ _)); exact BK427.out⟩, ⟨by (with_reducible repeat (first | refine aG ?_ _ | refine aJ ?_ | refine aE ?_ _)); exact BK428.out⟩, ⟨Short.hB HB⟩⟩
  replace c9 := Bool.eq_false_iff.mpr c9
  subst c9
  rw [if_neg (show ¬ (false = true) by decide)] at H
  obtain ⟨t430, A13, H⟩ := Option.bind_eq_some_iff.mp H
  replace A13 := mk_ A13
  by_cases c14 : t430 = true
  ·
   subst c14
   rw [if_pos rfl] at H
   have H' := mk_ H
   clear H
   have hnb15 := NB427_428.out
   have hnc15 := NB428_427.out
   have hcz16_0 : w7.cell? ⟨gb427, 0, none⟩ = some (.slice A0_0 l0_0.length c0_0) := kc_ BK427 0
   have hcz16_1 : w7.cell? ⟨gb427, 1, none⟩ = some (.int .i64 a0_1) := kc_ BK427 1
   have hcz16_2 : w7.cell? ⟨gb427, 2, none⟩ = some (.int .i64 a0_2) := kc_ BK427 2
   have hcz16_3 : w7.cell? ⟨gb427, 3, none⟩ = some (.int .i64 a0_3) := kc_ BK427 3
   have hcz16_4 : w7.cell? ⟨gb427, 4, none⟩ = some (.slice A0_4 l0_4.length c0_4) := kc_ BK427 4
   have hcz16_5 : w7.cell? ⟨gb427, 5, none⟩ = some (.slice A0_5 l0_5.length c0_5) := kc_ BK427 5
   have hcz16_6 : w7.cell? ⟨gb427, 6, none⟩ = some (.slice A0_6 l0_6.length c0_6) := kc_ BK427 6
   have hfz16_0 := aH BK427.out
   go_wp2_with (first | ((with_reducible refine aT (f := 25) rfl ?_); refine Short.gL (some 15) Try.func25 #[.agg #[.slice A0_0 l0_0.length c0_0, .int .i64 a0_1, .int .i64 a0_2, .int .i64 a0_3, .slice A0_4 l0_4.length c0_4, .slice A0_5 l0_5.length c0_5, .slice A0_6 l0_6.length c0_6]] (h := ?_); (with_reducible refine (aQ.calls k _ _ l0_0 a0_1 a0_2 a0_3 _ _ l0_4 _ _ l0_5 _ _ l0_6 false _ ?side1 ?side2 ?side3 ?side4 ?side5 ?side6 ?side7 ?side8 A8.out).mono ?_); (case side1 => exact cX_ (aV HR0_0.out HB.out)); (case side2 => exact HC0_0.out); (case side3 => exact cX_ (aV HR0_4.out HB.out)); (case side4 => exact HC0_4.out); (case side5 => exact cX_ (aV HR0_5.out HB.out)); (case side6 => exact HC0_5.out); (case side7 => exact cX_ (aV HR0_6.out HB.out)); (case side8 => exact HC0_6.out); rintro e w17 ⟨rfl, hb⟩; refine ⟨_, rfl, ?_⟩; have n0_ := mk_ (bB_ BK427 hb); have n1_ := mk_ (bB_ BK428 hb); have n2_ := mk_ (aI (Short.hB HB) hb); clear BK427 BK428 HB; revert n0_ n1_ n2_; intro BK427 BK428 HB; (try clear hb); have hcz18_0 : w17.cell? ⟨gb428, 0, none⟩ = some (.slice A1_0 l1_0.length c1_0) := kc_ BK428 0; have hcz18_1 : w17.cell? ⟨gb428, 1, none⟩ = some (.int .i64 a1_1) := kc_ BK428 1; have hcz18_2 : w17.cell? ⟨gb428, 2, none⟩ = some (.int .i64 a1_2) := kc_ BK428 2; have hcz18_3 : w17.cell? ⟨gb428, 3, none⟩ = some (.int .i64 a1_3) := kc_ BK428 3; have hcz18_4 : w17.cell? ⟨gb428, 4, none⟩ = some (.slice A1_4 l1_4.length c1_4) := kc_ BK428 4; have hcz18_5 : w17.cell? ⟨gb428, 5, none⟩ = some (.slice A1_5 l1_5.length c1_5) := kc_ BK428 5; have hcz18_6 : w17.cell? ⟨gb428, 6, none⟩ = some (.slice A1_6 l1_6.length c1_6) := kc_ BK428 6; have hfz18_0 := aH BK428.out) | (go_at_call 25; (with_reducible refine (aQ.calls k _ _ l1_0 a1_1 a1_2 a1_3 _ _ l1_4 _ _ l1_5 _ _ l1_6 true _ ?side1 ?side2 ?side3 ?side4 ?side5 ?side6 ?side7 ?side8 A13.out).mono ?_); (case side1 => exact cX_ (aV HR1_0.out HB.out)); (case side2 => exact HC1_0.out); (case side3 => exact cX_ (aV HR1_4.out HB.out)); (case side4 => exact HC1_4.out); (case side5 => exact cX_ (aV HR1_5.out HB.out)); (case side6 => exact HC1_5.out); (case side7 => exact cX_ (aV HR1_6.out HB.out)); (case side8 => exact HC1_6.out); rintro e w19 ⟨rfl, hb⟩; have n0_ := mk_ (bB_ BK427 hb); have n1_ := mk_ (bB_ BK428 hb); have n2_ := mk_ (aI (Short.hB HB) hb); clear BK427 BK428 HB; revert n0_ n1_ n2_; intro BK427 BK428 HB; (try clear hb); (try clear hb2); (try clear hk); (try clear hi)))
   go_meet
   case rel => exact ⟨_, (true), z3_, H', ⟨by first | omega | exact Nat.le_refl _⟩, ⟨by (with_reducible repeat (first | refine aG ?_ _ | refine aJ ?_ | refine aE ?_ _)); exact BK427.out⟩, ⟨by (with_reducible repeat (first | refine aG ?_ _ | refine aJ ?_ | refine aE ?_ _)); exact BK428.out⟩, ⟨Short.hB HB⟩⟩
  replace c14 := Bool.eq_false_iff.mpr c14
  subst c14
  rw [if_neg (show ¬ (false = true) by decide)] at H
  obtain ⟨t431, A20, H⟩ := Option.bind_eq_some_iff.mp H
  replace A20 := mk_ A20
  by_cases c21 : t431 = true
  rotate_left
  ·
   replace c21 := Bool.eq_false_iff.mpr c21
   subst c21
   rw [if_neg (show ¬ (false = true) by decide)] at H
   have H' := mk_ H
   clear H
   have hnb32 := NB427_428.out
   have hnc32 := NB428_427.out
   have hcz33_0 : w7.cell? ⟨gb427, 0, none⟩ = some (.slice A0_0 l0_0.length c0_0) := kc_ BK427 0
   have hcz33_1 : w7.cell? ⟨gb427, 1, none⟩ = some (.int .i64 a0_1) := kc_ BK427 1
   have hcz33_2 : w7.cell? ⟨gb427, 2, none⟩ = some (.int .i64 a0_2) := kc_ BK427 2
   have hcz33_3 : w7.cell? ⟨gb427, 3, none⟩ = some (.int .i64 a0_3) := kc_ BK427 3
   have hcz33_4 : w7.cell? ⟨gb427, 4, none⟩ = some (.slice A0_4 l0_4.length c0_4) := kc_ BK427 4
   have hcz33_5 : w7.cell? ⟨gb427, 5, none⟩ = some (.slice A0_5 l0_5.length c0_5) := kc_ BK427 5
   have hcz33_6 : w7.cell? ⟨gb427, 6, none⟩ = some (.slice A0_6 l0_6.length c0_6) := kc_ BK427 6
   have hfz33_0 := aH BK427.out
   go_wp2_with (first | ((with_reducible refine aT (f := 25) rfl ?_); refine Short.gL (some 15) Try.func25 #[.agg #[.slice A0_0 l0_0.length c0_0, .int .i64 a0_1, .int .i64 a0_2, .int .i64 a0_3, .slice A0_4 l0_4.length c0_4, .slice A0_5 l0_5.length c0_5, .slice A0_6 l0_6.length c0_6]] (h := ?_); (with_reducible refine (aQ.calls k _ _ l0_0 a0_1 a0_2 a0_3 _ _ l0_4 _ _ l0_5 _ _ l0_6 false _ ?side1 ?side2 ?side3 ?side4 ?side5 ?side6 ?side7 ?side8 A8.out).mono ?_); (case side1 => exact cX_ (aV HR0_0.out HB.out)); (case side2 => exact HC0_0.out); (case side3 => exact cX_ (aV HR0_4.out HB.out)); (case side4 => exact HC0_4.out); (case side5 => exact cX_ (aV HR0_5.out HB.out)); (case side6 => exact HC0_5.out); (case side7 => exact cX_ (aV HR0_6.out HB.out)); (case side8 => exact HC0_6.out); rintro e w34 ⟨rfl, hb⟩; refine ⟨_, rfl, ?_⟩; have n0_ := mk_ (bB_ BK427 hb); have n1_ := mk_ (bB_ BK428 hb); have n2_ := mk_ (aI (Short.hB HB) hb); clear BK427 BK428 HB; revert n0_ n1_ n2_; intro BK427 BK428 HB; (try clear hb); have hcz35_0 : w34.cell? ⟨gb428, 0, none⟩ = some (.slice A1_0 l1_0.length c1_0) := kc_ BK428 0; have hcz35_1 : w34.cell? ⟨gb428, 1, none⟩ = some (.int .i64 a1_1) := kc_ BK428 1; have hcz35_2 : w34.cell? ⟨gb428, 2, none⟩ = some (.int .i64 a1_2) := kc_ BK428 2; have hcz35_3 : w34.cell? ⟨gb428, 3, none⟩ = some (.int .i64 a1_3) := kc_ BK428 3; have hcz35_4 : w34.cell? ⟨gb428, 4, none⟩ = some (.slice A1_4 l1_4.length c1_4) := kc_ BK428 4; have hcz35_5 : w34.cell? ⟨gb428, 5, none⟩ = some (.slice A1_5 l1_5.length c1_5) := kc_ BK428 5; have hcz35_6 : w34.cell? ⟨gb428, 6, none⟩ = some (.slice A1_6 l1_6.length c1_6) := kc_ BK428 6; have hfz35_0 := aH BK428.out) | (go_at_call 25; (with_reducible refine (aQ.calls k _ _ l1_0 a1_1 a1_2 a1_3 _ _ l1_4 _ _ l1_5 _ _ l1_6 false _ ?side1 ?side2 ?side3 ?side4 ?side5 ?side6 ?side7 ?side8 A13.out).mono ?_); (case side1 => exact cX_ (aV HR1_0.out HB.out)); (case side2 => exact HC1_0.out); (case side3 => exact cX_ (aV HR1_4.out HB.out)); (case side4 => exact HC1_4.out); (case side5 => exact cX_ (aV HR1_5.out HB.out)); (case side6 => exact HC1_5.out); (case side7 => exact cX_ (aV HR1_6.out HB.out)); (case side8 => exact HC1_6.out); rintro e w36 ⟨rfl, hb⟩; have n0_ := mk_ (bB_ BK427 hb); have n1_ := mk_ (bB_ BK428 hb); have n2_ := mk_ (aI (Short.hB HB) hb); clear BK427 BK428 HB; revert n0_ n1_ n2_; intro BK427 BK428 HB; (try clear hb); (try clear hb2); (try clear hk); (try clear hi); have hcz37_0 : w36.cell? ⟨gb427, 0, none⟩ = some (.slice A0_0 l0_0.length c0_0) := kc_ BK427 0; have hcz37_1 : w36.cell? ⟨gb427, 1, none⟩ = some (.int .i64 a0_1) := kc_ BK427 1; have hcz37_2 : w36.cell? ⟨gb427, 2, none⟩ = some (.int .i64 a0_2) := kc_ BK427 2; have hcz37_3 : w36.cell? ⟨gb427, 3, none⟩ = some (.int .i64 a0_3) := kc_ BK427 3; have hcz37_4 : w36.cell? ⟨gb427, 4, none⟩ = some (.slice A0_4 l0_4.length c0_4) := kc_ BK427 4; have hcz37_5 : w36.cell? ⟨gb427, 5, none⟩ = some (.slice A0_5 l0_5.length c0_5) := kc_ BK427 5; have hcz37_6 : w36.cell? ⟨gb427, 6, none⟩ = some (.slice A0_6 l0_6.length c0_6) := kc_ BK427 6; have hfz37_0 := aH BK427.out) | (go_at_call 26; (with_reducible refine (aD.calls k _ _ l0_0 a0_1 a0_2 a0_3 _ _ l0_4 _ _ l0_5 _ _ l0_6 false _ ?side1 ?side2 ?side3 ?side4 ?side5 ?side6 ?side7 ?side8 A20.out).mono ?_); (case side1 => exact cX_ (aV HR0_0.out HB.out)); (case side2 => exact HC0_0.out); (case side3 => exact cX_ (aV HR0_4.out HB.out)); (case side4 => exact HC0_4.out); (case side5 => exact cX_ (aV HR0_5.out HB.out)); (case side6 => exact HC0_5.out); (case side7 => exact cX_ (aV HR0_6.out HB.out)); (case side8 => exact HC0_6.out); rintro e w38 ⟨rfl, hb⟩; have n0_ := mk_ (bB_ BK427 hb); have n1_ := mk_ (bB_ BK428 hb); have n2_ := mk_ (aI (Short.hB HB) hb); clear BK427 BK428 HB; revert n0_ n1_ n2_; intro BK427 BK428 HB; (try clear hb); (try clear hb2); (try clear hk); (try clear hi)))
   go_meet
   case rel => exact ⟨_, (true), z3_, H', ⟨by first | omega | exact Nat.le_refl _⟩, ⟨by (with_reducible repeat (first | refine aG ?_ _ | refine aJ ?_ | refine aE ?_ _)); exact BK427.out⟩, ⟨by (with_reducible repeat (first | refine aG ?_ _ | refine aJ ?_ | refine aE ?_ _)); exact BK428.out⟩, ⟨Short.hB HB⟩⟩
  subst c21
  rw [if_pos rfl] at H
  obtain ⟨t432, A22, H⟩ := Option.bind_eq_some_iff.mp H
  replace A22 := mk_ A22
  have H' := mk_ H
  clear H
  have hnb23 := NB427_428.out
  have hnc23 := NB428_427.out
  have hcz24_0 : w7.cell? ⟨gb427, 0, none⟩ = some (.slice A0_0 l0_0.length c0_0) := kc_ BK427 0
  have hcz24_1 : w7.cell? ⟨gb427, 1, none⟩ = some (.int .i64 a0_1) := kc_ BK427 1
  have hcz24_2 : w7.cell? ⟨gb427, 2, none⟩ = some (.int .i64 a0_2) := kc_ BK427 2
  have hcz24_3 : w7.cell? ⟨gb427, 3, none⟩ = some (.int .i64 a0_3) := kc_ BK427 3
  have hcz24_4 : w7.cell? ⟨gb427, 4, none⟩ = some (.slice A0_4 l0_4.length c0_4) := kc_ BK427 4
  have hcz24_5 : w7.cell? ⟨gb427, 5, none⟩ = some (.slice A0_5 l0_5.length c0_5) := kc_ BK427 5
  have hcz24_6 : w7.cell? ⟨gb427, 6, none⟩ = some (.slice A0_6 l0_6.length c0_6) := kc_ BK427 6
  have hfz24_0 := aH BK427.out
  go_wp2_with (first | ((with_reducible refine aT (f := 25) rfl ?_); refine Short.gL (some 15) Try.func25 #[.agg #[.slice A0_0 l0_0.length c0_0, .int .i64 a0_1, .int .i64 a0_2, .int .i64 a0_3, .slice A0_4 l0_4.length c0_4, .slice A0_5 l0_5.length c0_5, .slice A0_6 l0_6.length c0_6]] (h := ?_); (with_reducible refine (aQ.calls k _ _ l0_0 a0_1 a0_2 a0_3 _ _ l0_4 _ _ l0_5 _ _ l0_6 false _ ?side1 ?side2 ?side3 ?side4 ?side5 ?side6 ?side7 ?side8 A8.out).mono ?_); (case side1 => exact cX_ (aV HR0_0.out HB.out)); (case side2 => exact HC0_0.out); (case side3 => exact cX_ (aV HR0_4.out HB.out)); (case side4 => exact HC0_4.out); (case side5 => exact cX_ (aV HR0_5.out HB.out)); (case side6 => exact HC0_5.out); (case side7 => exact cX_ (aV HR0_6.out HB.out)); (case side8 => exact HC0_6.out); rintro e w25 ⟨rfl, hb⟩; refine ⟨_, rfl, ?_⟩; have n0_ := mk_ (bB_ BK427 hb); have n1_ := mk_ (bB_ BK428 hb); have n2_ := mk_ (aI (Short.hB HB) hb); clear BK427 BK428 HB; revert n0_ n1_ n2_; intro BK427 BK428 HB; (try clear hb); have hcz26_0 : w25.cell? ⟨gb428, 0, none⟩ = some (.slice A1_0 l1_0.length c1_0) := kc_ BK428 0; have hcz26_1 : w25.cell? ⟨gb428, 1, none⟩ = some (.int .i64 a1_1) := kc_ BK428 1; have hcz26_2 : w25.cell? ⟨gb428, 2, none⟩ = some (.int .i64 a1_2) := kc_ BK428 2; have hcz26_3 : w25.cell? ⟨gb428, 3, none⟩ = some (.int .i64 a1_3) := kc_ BK428 3; have hcz26_4 : w25.cell? ⟨gb428, 4, none⟩ = some (.slice A1_4 l1_4.length c1_4) := kc_ BK428 4; have hcz26_5 : w25.cell? ⟨gb428, 5, none⟩ = some (.slice A1_5 l1_5.length c1_5) := kc_ BK428 5; have hcz26_6 : w25.cell? ⟨gb428, 6, none⟩ = some (.slice A1_6 l1_6.length c1_6) := kc_ BK428 6; have hfz26_0 := aH BK428.out) | (go_at_call 25; (with_reducible refine (aQ.calls k _ _ l1_0 a1_1 a1_2 a1_3 _ _ l1_4 _ _ l1_5 _ _ l1_6 false _ ?side1 ?side2 ?side3 ?side4 ?side5 ?side6 ?side7 ?side8 A13.out).mono ?_); (case side1 => exact cX_ (aV HR1_0.out HB.out)); (case side2 => exact HC1_0.out); (case side3 => exact cX_ (aV HR1_4.out HB.out)); (case side4 => exact HC1_4.out); (case side5 => exact cX_ (aV HR1_5.out HB.out)); (case side6 => exact HC1_5.out); (case side7 => exact cX_ (aV HR1_6.out HB.out)); (case side8 => exact HC1_6.out); rintro e w27 ⟨rfl, hb⟩; have n0_ := mk_ (bB_ BK427 hb); have n1_ := mk_ (bB_ BK428 hb); have n2_ := mk_ (aI (Short.hB HB) hb); clear BK427 BK428 HB; revert n0_ n1_ n2_; intro BK427 BK428 HB; (try clear hb); (try clear hb2); (try clear hk); (try clear hi); have hcz28_0 : w27.cell? ⟨gb427, 0, none⟩ = some (.slice A0_0 l0_0.length c0_0) := kc_ BK427 0; have hcz28_1 : w27.cell? ⟨gb427, 1, none⟩ = some (.int .i64 a0_1) := kc_ BK427 1; have hcz28_2 : w27.cell? ⟨gb427, 2, none⟩ = some (.int .i64 a0_2) := kc_ BK427 2; have hcz28_3 : w27.cell? ⟨gb427, 3, none⟩ = some (.int .i64 a0_3) := kc_ BK427 3; have hcz28_4 : w27.cell? ⟨gb427, 4, none⟩ = some (.slice A0_4 l0_4.length c0_4) := kc_ BK427 4; have hcz28_5 : w27.cell? ⟨gb427, 5, none⟩ = some (.slice A0_5 l0_5.length c0_5) := kc_ BK427 5; have hcz28_6 : w27.cell? ⟨gb427, 6, none⟩ = some (.slice A0_6 l0_6.length c0_6) := kc_ BK427 6; have hfz28_0 := aH BK427.out) | (go_at_call 26; (with_reducible refine (aD.calls k _ _ l0_0 a0_1 a0_2 a0_3 _ _ l0_4 _ _ l0_5 _ _ l0_6 true _ ?side1 ?side2 ?side3 ?side4 ?side5 ?side6 ?side7 ?side8 A20.out).mono ?_); (case side1 => exact cX_ (aV HR0_0.out HB.out)); (case side2 => exact HC0_0.out); (case side3 => exact cX_ (aV HR0_4.out HB.out)); (case side4 => exact HC0_4.out); (case side5 => exact cX_ (aV HR0_5.out HB.out)); (case side6 => exact HC0_5.out); (case side7 => exact cX_ (aV HR0_6.out HB.out)); (case side8 => exact HC0_6.out); rintro e w29 ⟨rfl, hb⟩; have n0_ := mk_ (bB_ BK427 hb); have n1_ := mk_ (bB_ BK428 hb); have n2_ := mk_ (aI (Short.hB HB) hb); clear BK427 BK428 HB; revert n0_ n1_ n2_; intro BK427 BK428 HB; (try clear hb); (try clear hb2); (try clear hk); (try clear hi); have hcz30_0 : w29.cell? ⟨gb428, 0, none⟩ = some (.slice A1_0 l1_0.length c1_0) := kc_ BK428 0; have hcz30_1 : w29.cell? ⟨gb428, 1, none⟩ = some (.int .i64 a1_1) := kc_ BK428 1; have hcz30_2 : w29.cell? ⟨gb428, 2, none⟩ = some (.int .i64 a1_2) := kc_ BK428 2; have hcz30_3 : w29.cell? ⟨gb428, 3, none⟩ = some (.int .i64 a1_3) := kc_ BK428 3; have hcz30_4 : w29.cell? ⟨gb428, 4, none⟩ = some (.slice A1_4 l1_4.length c1_4) := kc_ BK428 4; have hcz30_5 : w29.cell? ⟨gb428, 5, none⟩ = some (.slice A1_5 l1_5.length c1_5) := kc_ BK428 5; have hcz30_6 : w29.cell? ⟨gb428, 6, none⟩ = some (.slice A1_6 l1_6.length c1_6) := kc_ BK428 6; have hfz30_0 := aH BK428.out) | (go_at_call 26; (with_reducible refine (aD.calls k _ _ l1_0 a1_1 a1_2 a1_3 _ _ l1_4 _ _ l1_5 _ _ l1_6 t432 _ ?side1 ?side2 ?side3 ?side4 ?side5 ?side6 ?side7 ?side8 A22.out).mono ?_); (case side1 => exact cX_ (aV HR1_0.out HB.out)); (case side2 => exact HC1_0.out); (case side3 => exact cX_ (aV HR1_4.out HB.out)); (case side4 => exact HC1_4.out); (case side5 => exact cX_ (aV HR1_5.out HB.out)); (case side6 => exact HC1_5.out); (case side7 => exact cX_ (aV HR1_6.out HB.out)); (case side8 => exact HC1_6.out); rintro e w31 ⟨rfl, hb⟩; have n0_ := mk_ (bB_ BK427 hb); have n1_ := mk_ (bB_ BK428 hb); have n2_ := mk_ (aI (Short.hB HB) hb); clear BK427 BK428 HB; revert n0_ n1_ n2_; intro BK427 BK428 HB; (try clear hb); (try clear hb2); (try clear hk); (try clear hi)))
  go_meet
  case rel => exact ⟨_, (!t432), z3_, H', ⟨by first | omega | exact Nat.le_refl _⟩, ⟨by (with_reducible repeat (first | refine aG ?_ _ | refine aJ ?_ | refine aE ?_ _)); exact BK427.out⟩, ⟨by (with_reducible repeat (first | refine aG ?_ _ | refine aJ ?_ | refine aE ?_ _)); exact BK428.out⟩, ⟨Short.hB HB⟩⟩
 case rest =>
  clear HC5
  obtain ⟨kq, x29_4, rfl, HA, HJ4, BK427, BK428, HB⟩ := hcut
  cases kq with
  | zero => exact absurd HA.out (by simp [aA.j0])
  | succ kj4 =>
   have H := HA.out
   clear HA
   simp only [aA.j0] at H
   by_cases c39 : x29_4 = true
   ·
    subst c39
    rw [if_pos rfl] at H
    obtain rfl := Option.some.inj H
    go_wp2
    go_ret
    exact ⟨by first | rfl | (rw [hrt]; rfl) | (simp [bD, bC] <;> rfl) | (simp [*, bD, bC] <;> rfl), Short.hB HB⟩
   replace c39 := Bool.eq_false_iff.mpr c39
   subst c39
   rw [if_neg (show ¬ (false = true) by decide)] at H
   obtain ⟨⟨t433, t436⟩, A40, H⟩ := Option.bind_eq_some_iff.mp H
   try dsimp only at H
   replace A40 := mk_ A40
   obtain ⟨⟨t437, t440⟩, A41, H⟩ := Option.bind_eq_some_iff.mp H
   try dsimp only at H
   replace A41 := mk_ A41
   have HC42 := mk_ H
   clear H
   have hnb43 := NB427_428.out
   have hnc43 := NB428_427.out
   have hcz44_0 : wc.cell? ⟨gb427, 0, none⟩ = some (.slice A0_0 l0_0.length c0_0) := kc_ BK427 0
   have hcz44_1 : wc.cell? ⟨gb427, 1, none⟩ = some (.int .i64 a0_1) := kc_ BK427 1
   have hcz44_2 : wc.cell? ⟨gb427, 2, none⟩ = some (.int .i64 a0_2) := kc_ BK427 2
   have hcz44_3 : wc.cell? ⟨gb427, 3, none⟩ = some (.int .i64 a0_3) := kc_ BK427 3
   have hcz44_4 : wc.cell? ⟨gb427, 4, none⟩ = some (.slice A0_4 l0_4.length c0_4) := kc_ BK427 4
   have hcz44_5 : wc.cell? ⟨gb427, 5, none⟩ = some (.slice A0_5 l0_5.length c0_5) := kc_ BK427 5
   have hcz44_6 : wc.cell? ⟨gb427, 6, none⟩ = some (.slice A0_6 l0_6.length c0_6) := kc_ BK427 6
   have hfz44_0 := aH BK427.out
   go_upto_region 5 with (first | ((with_reducible refine aT (f := 13) rfl ?_); refine Short.gL (some 32) Try.func13 #[.agg #[.slice A0_0 l0_0.length c0_0, .int .i64 a0_1, .int .i64 a0_2, .int .i64 a0_3, .slice A0_4 l0_4.length c0_4, .slice A0_5 l0_5.length c0_5, .slice A0_6 l0_6.length c0_6]] (h := ?_); (with_reducible refine (dX.calls _ _ l0_0 a0_1 a0_2 a0_3 _ _ l0_4 _ _ l0_5 _ _ l0_6 t433 t436 _ ?side1 ?side2 ?side3 ?side4 ?side5 ?side6 ?side7 ?side8 A40.out).mono ?_); (case side1 => exact cX_ (aV HR0_0.out HB.out)); (case side2 => exact HC0_0.out); (case side3 => exact cX_ (aV HR0_4.out HB.out)); (case side4 => exact HC0_4.out); (case side5 => exact cX_ (aV HR0_5.out HB.out)); (case side6 => exact HC0_5.out); (case side7 => exact cX_ (aV HR0_6.out HB.out)); (case side8 => exact HC0_6.out); rintro e w45 ⟨v434, rfl, ho0, hb⟩; refine ⟨_, rfl, ?_⟩; have n0_ := mk_ (dN ho0 (aN (Short.hB HB))); have n1_ := mk_ (bB_ BK427 hb); have n2_ := mk_ (bB_ BK428 hb); have n3_ := mk_ (aI (Short.hB HB) hb); clear BK427 BK428 HB; revert n0_ n1_ n2_ n3_; intro HO435 BK427 BK428 HB; (try clear hb ho0); have hcz46_0 : w45.cell? ⟨gb428, 0, none⟩ = some (.slice A1_0 l1_0.length c1_0) := kc_ BK428 0; have hcz46_1 : w45.cell? ⟨gb428, 1, none⟩ = some (.int .i64 a1_1) := kc_ BK428 1; have hcz46_2 : w45.cell? ⟨gb428, 2, none⟩ = some (.int .i64 a1_2) := kc_ BK428 2; have hcz46_3 : w45.cell? ⟨gb428, 3, none⟩ = some (.int .i64 a1_3) := kc_ BK428 3; have hcz46_4 : w45.cell? ⟨gb428, 4, none⟩ = some (.slice A1_4 l1_4.length c1_4) := kc_ BK428 4; have hcz46_5 : w45.cell? ⟨gb428, 5, none⟩ = some (.slice A1_5 l1_5.length c1_5) := kc_ BK428 5; have hcz46_6 : w45.cell? ⟨gb428, 6, none⟩ = some (.slice A1_6 l1_6.length c1_6) := kc_ BK428 6; have hfz46_0 := aH BK428.out) | ((with_reducible refine aT (f := 13) rfl ?_); refine Short.gL (some 37) Try.func13 #[.agg #[.slice A1_0 l1_0.length c1_0, .int .i64 a1_1, .int .i64 a1_2, .int .i64 a1_3, .slice A1_4 l1_4.length c1_4, .slice A1_5 l1_5.length c1_5, .slice A1_6 l1_6.length c1_6]] (h := ?_); (with_reducible refine (dX.calls _ _ l1_0 a1_1 a1_2 a1_3 _ _ l1_4 _ _ l1_5 _ _ l1_6 t437 t440 _ ?side1 ?side2 ?side3 ?side4 ?side5 ?side6 ?side7 ?side8 A41.out).mono ?_); (case side1 => exact cX_ (aV HR1_0.out HB.out)); (case side2 => exact HC1_0.out); (case side3 => exact cX_ (aV HR1_4.out HB.out)); (case side4 => exact HC1_4.out); (case side5 => exact cX_ (aV HR1_5.out HB.out)); (case side6 => exact HC1_5.out); (case side7 => exact cX_ (aV HR1_6.out HB.out)); (case side8 => exact HC1_6.out); rintro e w47 ⟨v438, rfl, ho0, hb⟩; refine ⟨_, rfl, ?_⟩; have n0_ := mk_ (R_elder' (ZKR HO435) (R_base ho0) hb); have n1_ := mk_ (dN (R_new' ho0 (R_lt (ZKR HO435))) (aN (Short.hB HB))); have n2_ := mk_ (bB_ BK427 hb); have n3_ := mk_ (bB_ BK428 hb); have n4_ := mk_ (aI (Short.hB HB) hb); clear HO435 BK427 BK428 HB; revert n0_ n1_ n2_ n3_ n4_; intro HO435 HO439 BK427 BK428 HB; (try clear hb ho0)))
   (try simp only [Act.put, List.setIfInBounds_toArray, List.set_cons_zero, List.set_cons_succ])
   go_cut [45] (fun v45 wc => ∃ (kq : Nat) (x45_41 : Bool), v45 = .bool x45_41 ∧ Aside0 (aA.j1 kq a2 a3 t433 t436 t437 t440 x45_41 l0_0 a0_1 a0_2 a0_3 l0_4 l0_5 l0_6 l1_0 a1_1 a1_2 a1_3 l1_4 l1_5 l1_6 = some r) ∧ Aside0 (kq ≤ kj4) ∧ Aside0 (Kd.R (Kd.int .u8) 5 wc w.heap.size (fun k_ => nb_ k_ (v438)) v434 t433) ∧ Aside0 (Kd.R (Kd.int .u8) 5 wc w.heap.size (fun k_ => nb_ k_ (v434)) v438 t437) ∧ Aside0 (wc.heap[gb427]? = some (.cells #[(.slice A0_0 l0_0.length c0_0), .int .i64 a0_1, .int .i64 a0_2, .int .i64 a0_3, (.slice A0_4 l0_4.length c0_4), (.slice A0_5 l0_5.length c0_5), (.slice A0_6 l0_6.length c0_6)] 31 (0, 0))) ∧ Aside0 (wc.heap[gb428]? = some (.cells #[(.slice A1_0 l1_0.length c1_0), .int .i64 a1_1, .int .i64 a1_2, .int .i64 a1_3, (.slice A1_4 l1_4.length c1_4), (.slice A1_5 l1_5.length c1_5), (.slice A1_6 l1_6.length c1_6)] 31 (0, 0))) ∧ Aside0 (Below w.heap.size w wc))
   case first =>
    have H := HC42.out
    clear HC42
    by_cases c48 : t436 = 0
    rotate_left
    ·
     rw [if_neg c48] at H
     have c48b0 : (t436 == 0) = false := beq_eq_false_iff_ne.mpr c48
     have c48b1 : (t436 != 0) = true := bne_iff_ne.mpr c48
     (first | rw [c48b0] | (simp only [i64_w, i32_w]; rw [c48b0]) | skip)
     have H' := mk_ H
     clear H
     go_wp2
     go_meet
     case rel => exact ⟨_, (true), z3_, H', ⟨by have := HJ4.out; first | omega | exact Nat.le_refl _⟩, ⟨by (with_reducible repeat (first | apply R_alloc | apply R_drewN | apply R_drew)); exact R_mono HO435.out (fun _ hk => hk.2)⟩, ⟨by (with_reducible repeat (first | apply R_alloc | apply R_drewN | apply R_drew)); exact R_mono HO439.out (fun _ hk => hk.2)⟩, ⟨by (with_reducible repeat (first | refine aG ?_ _ | refine aJ ?_ | refine aE ?_ _)); exact BK427.out⟩, ⟨by (with_reducible repeat (first | refine aG ?_ _ | refine aJ ?_ | refine aE ?_ _)); exact BK428.out⟩, ⟨Short.hB HB⟩⟩
    rw [if_pos c48] at H
    have c48b0 : (t436 == 0) = true := beq_iff_eq.mpr c48
    have c48b1 : (t436 != 0) = false := bne_eq_false_iff_eq.mpr c48
    clear c48
    (first | rw [c48b0] | (simp only [i64_w, i32_w]; rw [c48b0]) | skip)
    have H' := mk_ H
    clear H
    go_wp2
    go_meet
    case rel => exact ⟨_, ((t440 != 0)), z3_, H', ⟨by have := HJ4.out; first | omega | exact Nat.le_refl _⟩, ⟨by (with_reducible repeat (first | apply R_alloc | apply R_drewN | apply R_drew)); exact R_mono HO435.out (fun _ hk => hk.2)⟩, ⟨by (with_reducible repeat (first | apply R_alloc | apply R_drewN | apply R_drew)); exact R_mono HO439.out (fun _ hk => hk.2)⟩, ⟨by (with_reducible repeat (first | refine aG ?_ _ | refine aJ ?_ | refine aE ?_ _)); exact BK427.out⟩, ⟨by (with_reducible repeat (first | refine aG ?_ _ | refine aJ ?_ | refine aE ?_ _)); exact BK428.out⟩, ⟨Short.hB HB⟩⟩
   case rest =>
    clear HC42
    try clear c39
    try clear hcz44_0
    try clear hcz44_1
    try clear hcz44_2
    try clear hcz44_3
    try clear hcz44_4
    try clear hcz44_5
    try clear hcz44_6
    try clear hcz46_0
    try clear hcz46_1
    try clear hcz46_2
    try clear hcz46_3
    try clear hcz46_4
    try clear hcz46_5
    try clear hcz46_6
    try clear hfz44_0
    try clear hfz46_0
    obtain ⟨kq, x45_41, rfl, HA, HJ41, HO_9, HO_11, BK427, BK428, HB⟩ := hcut
    cases kq with
    | zero => exact absurd HA.out (by simp [aA.j1])
    | succ kj41 =>
     have H := HA.out
     clear HA
     simp only [aA.j1] at H
     by_cases c49 : x45_41 = true
     ·
      subst c49
      rw [if_pos rfl] at H
      by_cases c50 : t436 = 0
      ·
       rw [if_pos c50] at H
       have c50b0 : (t436 == 0) = true := beq_iff_eq.mpr c50
       have c50b1 : (t436 != 0) = false := bne_eq_false_iff_eq.mpr c50
       clear c50
       by_cases c51 : t440 = 0
       ·
        rw [if_pos c51] at H
        have c51b0 : (t440 == 0) = true := beq_iff_eq.mpr c51
        have c51b1 : (t440 != 0) = false := bne_eq_false_iff_eq.mpr c51
        clear c51
        obtain ⟨t441, A52, H⟩ := Option.bind_eq_some_iff.mp H
        replace A52 := mk_ A52
        obtain rfl := Option.some.inj H
        go_wp2_with (first | (go_at_call 12; (with_reducible refine (bZ.calls  t441 _ A52.out).mono ?_); rintro e w53 ⟨rfl, hb⟩; have n0_ := mk_ (cO (ZKR HO_9) hb); have n1_ := mk_ (cO (ZKR HO_11) hb); have n2_ := mk_ (bB_ BK427 hb); have n3_ := mk_ (bB_ BK428 hb); have n4_ := mk_ (aI (Short.hB HB) hb); clear HO_9 HO_11 BK427 BK428 HB; revert n0_ n1_ n2_ n3_ n4_; intro HO_9 HO_11 BK427 BK428 HB; (try clear hb); (try clear hb2); (try clear hk); (try clear hi)))
        go_ret
        exact ⟨by first | rfl | (rw [hrt]; rfl) | (simp [bD, bC] <;> rfl) | (simp [*, bD, bC] <;> rfl), Short.hB HB⟩
       rw [if_neg c51] at H
       have c51b0 : (t440 == 0) = false := beq_eq_false_iff_ne.mpr c51
       have c51b1 : (t440 != 0) = true := bne_iff_ne.mpr c51
       by_cases c54 : t440 = 2
       rotate_left
       ·
        rw [if_neg c54] at H
        have c54b0 : (t440 == 2) = false := beq_eq_false_iff_ne.mpr c54
        have c54b1 : (t440 != 2) = true := bne_iff_ne.mpr c54
        exact absurd H (by rw [hrt]; simp)
       rw [if_pos c54] at H
       have c54b0 : (t440 == 2) = true := beq_iff_eq.mpr c54
       have c54b1 : (t440 != 2) = false := bne_eq_false_iff_eq.mpr c54
       clear c54
       by_cases c55 : (t437.length : Int) = 0
       rotate_left
       ·
        rw [if_neg c55] at H
        have c55b0 : ((t437.length : Int) == 0) = false := beq_eq_false_iff_ne.mpr c55
        have c55b1 : ((t437.length : Int) != 0) = true := bne_iff_ne.mpr c55
        have c55b2 : ¬ (t437 = []) := fun h_ => c55 (by rw [h_]; rfl)
        exact absurd H (by rw [hrt]; simp)
       rw [if_pos c55] at H
       have c55b0 : ((t437.length : Int) == 0) = true := beq_iff_eq.mpr c55
       have c55b1 : ((t437.length : Int) != 0) = false := bne_eq_false_iff_eq.mpr c55
       clear c55
       obtain ⟨t442, A56, H⟩ := Option.bind_eq_some_iff.mp H
       replace A56 := mk_ A56
       obtain rfl := Option.some.inj H
       obtain ⟨Ao57, co57, eo57⟩ := dH HO_11.out
       subst eo57
       go_wp2_with (first | (go_at_call 12; (with_reducible refine (bZ.calls  t442 _ A56.out).mono ?_); rintro e w58 ⟨rfl, hb⟩; have n0_ := mk_ (cO (ZKR HO_9) hb); have n1_ := mk_ (cO (ZKR HO_11) hb); have n2_ := mk_ (bB_ BK427 hb); have n3_ := mk_ (bB_ BK428 hb); have n4_ := mk_ (aI (Short.hB HB) hb); clear HO_9 HO_11 BK427 BK428 HB; revert n0_ n1_ n2_ n3_ n4_; intro HO_9 HO_11 BK427 BK428 HB; (try clear hb); (try clear hb2); (try clear hk); (try clear hi)))
       go_ret
       exact ⟨by first | rfl | (rw [hrt]; rfl) | (simp [bD, bC] <;> rfl) | (simp [*, bD, bC] <;> rfl), Short.hB HB⟩
      rw [if_neg c50] at H
      have c50b0 : (t436 == 0) = false := beq_eq_false_iff_ne.mpr c50
      have c50b1 : (t436 != 0) = true := bne_iff_ne.mpr c50
      by_cases c59 : t436 = 2
      rotate_left
      ·
       rw [if_neg c59] at H
       have c59b0 : (t436 == 2) = false := beq_eq_false_iff_ne.mpr c59
       have c59b1 : (t436 != 2) = true := bne_iff_ne.mpr c59
       exact absurd H (by rw [hrt]; simp)
      rw [if_pos c59] at H
      have c59b0 : (t436 == 2) = true := beq_iff_eq.mpr c59
      have c59b1 : (t436 != 2) = false := bne_eq_false_iff_eq.mpr c59
      clear c59
      by_cases c60 : (t433.length : Int) = 0
      rotate_left
      ·
       rw [if_neg c60] at H
       have c60b0 : ((t433.length : Int) == 0) = false := beq_eq_false_iff_ne.mpr c60
       have c60b1 : ((t433.length : Int) != 0) = true := bne_iff_ne.mpr c60
       have c60b2 : ¬ (t433 = []) := fun h_ => c60 (by rw [h_]; rfl)
       exact absurd H (by rw [hrt]; simp)
      rw [if_pos c60] at H
      have c60b0 : ((t433.length : Int) == 0) = true := beq_iff_eq.mpr c60
      have c60b1 : ((t433.length : Int) != 0) = false := bne_eq_false_iff_eq.mpr c60
      clear c60
      by_cases c61 : t440 = 0
      ·
       rw [if_pos c61] at H
       have c61b0 : (t440 == 0) = true := beq_iff_eq.mpr c61
       have c61b1 : (t440 != 0) = false := bne_eq_false_iff_eq.mpr c61
       clear c61
       obtain ⟨t443, A62, H⟩ := Option.bind_eq_some_iff.mp H
       replace A62 := mk_ A62
       obtain rfl := Option.some.inj H
       obtain ⟨Ao63, co63, eo63⟩ := dH HO_9.out
       subst eo63
       go_wp2_with (first | (go_at_call 12; (with_reducible refine (bZ.calls  t443 _ A62.out).mono ?_); rintro e w64 ⟨rfl, hb⟩; have n0_ := mk_ (cO (ZKR HO_9) hb); have n1_ := mk_ (cO (ZKR HO_11) hb); have n2_ := mk_ (bB_ BK427 hb); have n3_ := mk_ (bB_ BK428 hb); have n4_ := mk_ (aI (Short.hB HB) hb); clear HO_9 HO_11 BK427 BK428 HB; revert n0_ n1_ n2_ n3_ n4_; intro HO_9 HO_11 BK427 BK428 HB; (try clear hb); (try clear hb2); (try clear hk); (try clear hi)))
       go_ret
       exact ⟨by first | rfl | (rw [hrt]; rfl) | (simp [bD, bC] <;> rfl) | (simp [*, bD, bC] <;> rfl), Short.hB HB⟩
      rw [if_neg c61] at H
      have c61b0 : (t440 == 0) = false := beq_eq_false_iff_ne.mpr c61
      have c61b1 : (t440 != 0) = true := bne_iff_ne.mpr c61
      by_cases c65 : t440 = 2
      rotate_left
      ·
       rw [if_neg c65] at H
       have c65b0 : (t440 == 2) = false := beq_eq_false_iff_ne.mpr c65
       have c65b1 : (t440 != 2) = true := bne_iff_ne.mpr c65
       exact absurd H (by rw [hrt]; simp)
      rw [if_pos c65] at H
      have c65b0 : (t440 == 2) = true := beq_iff_eq.mpr c65
      have c65b1 : (t440 != 2) = false := bne_eq_false_iff_eq.mpr c65
      clear c65
      by_cases c66 : (t437.length : Int) = 0
      rotate_left
      ·
       rw [if_neg c66] at H
       have c66b0 : ((t437.length : Int) == 0) = false := beq_eq_false_iff_ne.mpr c66
       have c66b1 : ((t437.length : Int) != 0) = true := bne_iff_ne.mpr c66
       have c66b2 : ¬ (t437 = []) := fun h_ => c66 (by rw [h_]; rfl)
       exact absurd H (by rw [hrt]; simp)
      rw [if_pos c66] at H
      have c66b0 : ((t437.length : Int) == 0) = true := beq_iff_eq.mpr c66
      have c66b1 : ((t437.length : Int) != 0) = false := bne_eq_false_iff_eq.mpr c66
      clear c66
      obtain ⟨t444, A67, H⟩ := Option.bind_eq_some_iff.mp H
      replace A67 := mk_ A67
      obtain rfl := Option.some.inj H
      obtain ⟨Ao68, co68, eo68⟩ := dH HO_9.out
      subst eo68
      obtain ⟨Ao69, co69, eo69⟩ := dH HO_11.out
      subst eo69
      go_wp2_with (first | (go_at_call 12; (with_reducible refine (bZ.calls  t444 _ A67.out).mono ?_); rintro e w70 ⟨rfl, hb⟩; have n0_ := mk_ (cO (ZKR HO_9) hb); have n1_ := mk_ (cO (ZKR HO_11) hb); have n2_ := mk_ (bB_ BK427 hb); have n3_ := mk_ (bB_ BK428 hb); have n4_ := mk_ (aI (Short.hB HB) hb); clear HO_9 HO_11 BK427 BK428 HB; revert n0_ n1_ n2_ n3_ n4_; intro HO_9 HO_11 BK427 BK428 HB; (try clear hb); (try clear hb2); (try clear hk); (try clear hi)))
      go_ret
      exact ⟨by first | rfl | (rw [hrt]; rfl) | (simp [bD, bC] <;> rfl) | (simp [*, bD, bC] <;> rfl), Short.hB HB⟩
     replace c49 := Bool.eq_false_iff.mpr c49
     subst c49
     rw [if_neg (show ¬ (false = true) by decide)] at H
     have HC71 := mk_ H
     clear H
     go_upto_region 7 with (fail)
     go_cut [84] (fun v84 wc => ∃ (kq : Nat) (x84_70 : Bool), v84 = .bool x84_70 ∧ Aside0 (aA.j2 kq a2 a3 t433 x84_70 = some r) ∧ Aside0 (kq ≤ kj41) ∧ Aside0 (Kd.R (Kd.int .u8) 5 wc w.heap.size (fun _ => True) v434 t433) ∧ Aside0 (wc.heap[gb427]? = some (.cells #[(.slice A0_0 l0_0.length c0_0), .int .i64 a0_1, .int .i64 a0_2, .int .i64 a0_3, (.slice A0_4 l0_4.length c0_4), (.slice A0_5 l0_5.length c0_5), (.slice A0_6 l0_6.length c0_6)] 31 (0, 0))) ∧ Aside0 (wc.heap[gb428]? = some (.cells #[(.slice A1_0 l1_0.length c1_0), .int .i64 a1_1, .int .i64 a1_2, .int .i64 a1_3, (.slice A1_4 l1_4.length c1_4), (.slice A1_5 l1_5.length c1_5), (.slice A1_6 l1_6.length c1_6)] 31 (0, 0))) ∧ Aside0 (Below w.heap.size w wc))
     case first =>
      have H := HC71.out
      clear HC71
      by_cases c72 : (t433.length : Int) = 0
      ·
       rw [if_pos c72] at H
       have c72b0 : ((t433.length : Int) == 0) = true := beq_iff_eq.mpr c72
       have c72b1 : ((t433.length : Int) != 0) = false := bne_eq_false_iff_eq.mpr c72
       clear c72
       (first | rw [c72b0] | (simp only [i64_w, i32_w]; rw [c72b0]) | skip)
       exact absurd H (by rw [hrt]; cases kj41 <;> simp [aA.j2])
      rw [if_neg c72] at H
      have c72b0 : ((t433.length : Int) == 0) = false := beq_eq_false_iff_ne.mpr c72
      have c72b1 : ((t433.length : Int) != 0) = true := bne_iff_ne.mpr c72
      have c72b2 : ¬ (t433 = []) := fun h_ => c72 (by rw [h_]; rfl)
      (first | rw [c72b0] | (simp only [i64_w, i32_w]; rw [c72b0]) | skip)
      obtain ⟨t445, A73, H⟩ := Option.bind_eq_some_iff.mp H
      replace A73 := mk_ A73
      obtain ⟨t446, A74, H⟩ := Option.bind_eq_some_iff.mp H
      replace A74 := mk_ A74
      have H' := mk_ H
      clear H
      try go_wp2
      have n0_ := mk_ (R_drew HO_9.out)
      have n1_ := mk_ (R_drew HO_11.out)
      have n2_ := mk_ (aJ BK427.out)
      have n3_ := mk_ (aJ BK428.out)
      have n4_ := mk_ (dQ HB.out)
      clear HO_9 HO_11 BK427 BK428 HB
      revert n0_ n1_ n2_ n3_ n4_
      intro HO_9 HO_11 BK427 BK428 HB
      obtain ⟨Ao76, co76, eo76⟩ := dH HO_9.out
      (first | subst eo76 | (injection eo76 with f1_ f2_ f3_; have f4_ := f1_.symm; have f5_ := f3_.symm; clear f1_ f2_ f3_; subst f4_; subst f5_))
      obtain ⟨Ao77, co77, eo77⟩ := dH HO_11.out
      (first | subst eo77 | (injection eo77 with f1_ f2_ f3_; have f4_ := f1_.symm; have f5_ := f3_.symm; clear f1_ f2_ f3_; subst f4_; subst f5_))
      refine fI (n := 12) (S := fun w' => w'.cell? ⟨gb427, 0, none⟩ = some (.slice A0_0 l0_0.length c0_0) ∧ w'.cell? ⟨gb427, 1, none⟩ = some (.int .i64 a0_1) ∧ w'.cell? ⟨gb427, 2, none⟩ = some (.int .i64 a0_2) ∧ w'.cell? ⟨gb427, 3, none⟩ = some (.int .i64 a0_3) ∧ w'.cell? ⟨gb427, 4, none⟩ = some (.slice A0_4 l0_4.length c0_4) ∧ w'.cell? ⟨gb427, 5, none⟩ = some (.slice A0_5 l0_5.length c0_5) ∧ w'.cell? ⟨gb427, 6, none⟩ = some (.slice A0_6 l0_6.length c0_6) ∧ w'.cell? ⟨gb428, 0, none⟩ = some (.slice A1_0 l1_0.length c1_0) ∧ w'.cell? ⟨gb428, 1, none⟩ = some (.int .i64 a1_1) ∧ w'.cell? ⟨gb428, 2, none⟩ = some (.int .i64 a1_2) ∧ w'.cell? ⟨gb428, 3, none⟩ = some (.int .i64 a1_3) ∧ w'.cell? ⟨gb428, 4, none⟩ = some (.slice A1_4 l1_4.length c1_4) ∧ w'.cell? ⟨gb428, 5, none⟩ = some (.slice A1_5 l1_5.length c1_5) ∧ w'.cell? ⟨gb428, 6, none⟩ = some (.slice A1_6 l1_6.length c1_6)) (ds := []) (Steps.Bs 12 0) z1_ rfl rfl ⟨kc_ BK427 0, kc_ BK427 1, kc_ BK427 2, kc_ BK427 3, kc_ BK427 4, kc_ BK427 5, kc_ BK427 6, kc_ BK428 0, kc_ BK428 1, kc_ BK428 2, kc_ BK428 3, kc_ BK428 4, kc_ BK428 5, kc_ BK428 6⟩ (fun hHeld => ?_); refine eK aA.tab7 aA.bits7 (fun HT_ HW_ => ?_)
      generalize wc.drew = w75 at HO_9 HO_11 BK427 BK428 HB hHeld ⊢
      refine tI HT_ 0 73 12 1 ?_
      refine tI HT_ 1 74 12 3 ?_
      refine tI HT_ 2 75 12 7 ?_
      refine tI HT_ 3 76 12 15 ?_
      refine tI HT_ 4 77 12 31 ?_
      refine tI HT_ 5 78 12 63 ?_
      refine tT HT_ HW_ hHeld 7 80 12 191 ?_
      refine tT HT_ HW_ hHeld 8 81 12 447 ?_
      refine one_ (i := 6) (N := some 79) (Steps.Bs 12 511) rfl rfl (fN HT_.out z1_) z4_ (fun K hK => ?_)
      refine goes_ Try.func11 z1_ rfl #[.slice Ao76 t433.length co76, .slice Ao77 t437.length co77] (by rfl) rfl rfl z5_ ?_
      with_reducible refine (bT.calls kj41 _ _ t433 _ _ t437 t445 _ ?side1 ?side2 ?side3 ?side4 A73.out).mono ?_
      (case side1 => exact cX_ (R_reads' HO_9.out).2.2)
      (case side2 => exact (R_reads' HO_9.out).2.1)
      (case side3 => exact cX_ (R_reads' HO_11.out).2.2)
      (case side4 => exact (R_reads' HO_11.out).2.1)
      rintro e w' ⟨rfl, ⟨nd, rfl⟩⟩
      refine ⟨_, rfl, ?_⟩
      refine hK.out _ _ ⟨kc_ BK427 0, kc_ BK427 1, kc_ BK427 2, kc_ BK427 3, kc_ BK427 4, kc_ BK427 5, kc_ BK427 6, kc_ BK428 0, kc_ BK428 1, kc_ BK428 2, kc_ BK428 3, kc_ BK428 4, kc_ BK428 5, kc_ BK428 6⟩ (fun hHeld => ?_)
      clear hK K
      refine nrm 79 ?_
      refine one_ (i := 9) (N := some 82) (Steps.Bs 12 1023) rfl rfl (fN HT_.out z1_) z4_ (fun K hK => ?_)
      refine goes_ Try.func10 z1_ rfl #[.agg #[.slice A0_0 l0_0.length c0_0, .int .i64 a0_1, .int .i64 a0_2, .int .i64 a0_3, .slice A0_4 l0_4.length c0_4, .slice A0_5 l0_5.length c0_5, .slice A0_6 l0_6.length c0_6], .agg #[.slice A1_0 l1_0.length c1_0, .int .i64 a1_1, .int .i64 a1_2, .int .i64 a1_3, .slice A1_4 l1_4.length c1_4, .slice A1_5 l1_5.length c1_5, .slice A1_6 l1_6.length c1_6]] (by rfl) rfl rfl z5_ ?_
      with_reducible refine (bB.calls kj41 _ _ l0_0 a0_1 a0_2 a0_3 _ _ l0_4 _ _ l0_5 _ _ l0_6 _ _ l1_0 a1_1 a1_2 a1_3 _ _ l1_4 _ _ l1_5 _ _ l1_6 t446 _ ?side1 ?side2 ?side3 ?side4 ?side5 ?side6 ?side7 ?side8 ?side9 ?side10 ?side11 ?side12 ?side13 ?side14 ?side15 ?side16 A74.out).mono ?_
      (case side1 => exact cX_ (aV HR0_0.out (Short.hB HB)))
      (case side2 => exact HC0_0.out)
      (case side3 => exact cX_ (aV HR0_4.out (Short.hB HB)))
      (case side4 => exact HC0_4.out)
      (case side5 => exact cX_ (aV HR0_5.out (Short.hB HB)))
      (case side6 => exact HC0_5.out)
      (case side7 => exact cX_ (aV HR0_6.out (Short.hB HB)))
      (case side8 => exact HC0_6.out)
      (case side9 => exact cX_ (aV HR1_0.out (Short.hB HB)))
      (case side10 => exact HC1_0.out)
      (case side11 => exact cX_ (aV HR1_4.out (Short.hB HB)))
      (case side12 => exact HC1_4.out)
      (case side13 => exact cX_ (aV HR1_5.out (Short.hB HB)))
      (case side14 => exact HC1_5.out)
      (case side15 => exact cX_ (aV HR1_6.out (Short.hB HB)))
      (case side16 => exact HC1_6.out)
      rintro e w78 ⟨rfl, hb⟩
      refine ⟨_, rfl, ?_⟩
      have n0_ := mk_ (cO (ZKR HO_9) hb)
      have n1_ := mk_ (cO (ZKR HO_11) hb)
      have n2_ := mk_ (bB_ BK427 hb)
      have n3_ := mk_ (bB_ BK428 hb)
      have n4_ := mk_ (aI (Short.hB HB) hb)
      clear HO_9 HO_11 BK427 BK428 HB
      revert n0_ n1_ n2_ n3_ n4_
      intro HO_9 HO_11 BK427 BK428 HB
      (try clear hb)
      refine hK.out _ _ ⟨kc_ BK427 0, kc_ BK427 1, kc_ BK427 2, kc_ BK427 3, kc_ BK427 4, kc_ BK427 5, kc_ BK427 6, kc_ BK428 0, kc_ BK428 1, kc_ BK428 2, kc_ BK428 3, kc_ BK428 4, kc_ BK428 5, kc_ BK428 6⟩ (fun hHeld => ?_)
      clear hK K
      refine nrm 82 ?_
      refine tI HT_ 10 83 12 2047 ?_
      refine tI HT_ 11 84 12 4095 ?_
      refine done_ (eO HT_.out z1_) ?_
      try go_wp2
      go_meet
      case rel => exact ⟨_, ((t445 != t446)), z3_, H', ⟨by have := HJ4.out; have := HJ41.out; first | omega | exact Nat.le_refl _⟩, ⟨by (with_reducible repeat (first | apply R_alloc | apply R_drewN | apply R_drew)); exact R_mono HO_9.out (fun _ hk => trivial)⟩, ⟨by (with_reducible repeat (first | refine aG ?_ _ | refine aJ ?_ | refine aE ?_ _)); exact BK427.out⟩, ⟨by (with_reducible repeat (first | refine aG ?_ _ | refine aJ ?_ | refine aE ?_ _)); exact BK428.out⟩, ⟨Short.hB HB⟩⟩
     case rest =>
      clear HC71
      try clear c49
      obtain ⟨kq, x84_70, rfl, HA, HJ70, HO_9, BK427, BK428, HB⟩ := hcut
      cases kq with
      | zero => exact absurd HA.out (by simp [aA.j2])
      | succ kj70 =>
       have H := HA.out
       clear HA
       simp only [aA.j2] at H
       by_cases c79 : x84_70 = true
       ·
        subst c79
        rw [if_pos rfl] at H
        exact absurd H (by rw [hrt]; simp)
       replace c79 := Bool.eq_false_iff.mpr c79
       subst c79
       rw [if_neg (show ¬ (false = true) by decide)] at H
       by_cases c80 : (IntKind.u64.wrap ((t433.length : Int))) = 0
       ·
        rw [if_pos c80] at H
        exact absurd H (by simp)
       rw [if_neg c80] at H
       have c80b0 : ((IntKind.u64.wrap ((t433.length : Int))) == 0) = false := beq_eq_false_iff_ne.mpr c80
       have c80b1 : ((IntKind.u64.wrap ((t433.length : Int))) != 0) = true := bne_iff_ne.mpr c80
       obtain ⟨ji81, hji81⟩ : ∃ j_ : Int, (wrap64 (Int.tmod (IntKind.u64.wrap (a2)) (IntKind.u64.wrap ((t433.length : Int))))) = j_ := ⟨_, rfl⟩
       replace H : (if 0 ≤ (ji81) then (if (ji81) ≤ (t433.length : Int) then ((cR.f (t433.take ((ji81) : Int).toNat)).bind fun bt451 => ((dM.f t433).bind fun t468 => (if t468.length < 140737488355328 then ((cR.f (t468 ++ [a3])).bind fun bt474 => (if bt451.2.2.2.2.2.2.2 = 3 then (if bt474.2.2.2.2.2.2.2 = 3 then ((bB.f kj70 bt451.1 bt451.2.1 bt451.2.2.1 bt451.2.2.2.1 bt451.2.2.2.2.1 bt451.2.2.2.2.2.1 bt451.2.2.2.2.2.2.1 ([] : List Int) 0 0 0 ([] : List (List (S80))) ([] : List (List Int)) ([] : List (S54))).bind fun t490 => (if t490 = true then ((bZ.f).bind fun t491 => (some t491)) else (some false))) else (some false)) else (some false))) else (none)))) else (none)) else (none)) = some r := by first | (rw [hji81] at H; exact H) | (simp only [hji81] at H ⊢; exact H)
       have hji81w : (IntKind.i64.wrap (Int.tmod (IntKind.u64.wrap (a2)) (IntKind.u64.wrap ((t433.length : Int))))) = ji81 := (i64_w _).trans hji81
       by_cases c82 : 0 ≤ (ji81)
       rotate_left
       ·
        rw [if_neg c82] at H
        exact absurd H (by simp)
       rw [if_pos c82] at H
       have c82b0 := eq_true c82
       have c82b1 : decide (0 ≤ (ji81)) = true := decide_eq_true c82
       clear c82
       by_cases c83 : (ji81) ≤ (t433.length : Int)
       rotate_left
       ·
        rw [if_neg c83] at H
        exact absurd H (by simp)
       rw [if_pos c83] at H
       have c83b0 := eq_true c83
       have c83b1 : decide ((ji81) ≤ (t433.length : Int)) = true := decide_eq_true c83
       clear c83
       obtain ⟨y447, hy447⟩ : ∃ y_ : List Int, y_ = (t433.take ((ji81) : Int).toNat) := ⟨_, rfl⟩
       replace H : ((cR.f y447).bind fun bt451 => ((dM.f t433).bind fun t468 => (if t468.length < 140737488355328 then ((cR.f (t468 ++ [a3])).bind fun bt474 => (if bt451.2.2.2.2.2.2.2 = 3 then (if bt474.2.2.2.2.2.2.2 = 3 then ((bB.f kj70 bt451.1 bt451.2.1 bt451.2.2.1 bt451.2.2.2.1 bt451.2.2.2.2.1 bt451.2.2.2.2.2.1 bt451.2.2.2.2.2.2.1 ([] : List Int) 0 0 0 ([] : List (List (S80))) ([] : List (List Int)) ([] : List (S54))).bind fun t490 => (if t490 = true then ((bZ.f).bind fun t491 => (some t491)) else (some false))) else (some false)) else (some false))) else (none)))) = some r := by first | (rw [hy447]; with_reducible exact H) | (have H2_ := (Option.bind_some _ _).symm.trans H; rw [hy447]; with_reducible exact H2_) | (have H2_ := (Option.bind_some _ _).symm.trans H; with_reducible exact H2_) | with_reducible exact H | (rw [hy447]; exact H) | exact H
       have Ny447 := mk_ hy447
       clear hy447
       obtain ⟨⟨t451, t454, t455, t456, t457, t460, t463, t466⟩, A84, H⟩ := Option.bind_eq_some_iff.mp H
       try dsimp only at H
       replace A84 := mk_ A84
       obtain ⟨t468, A85, H⟩ := Option.bind_eq_some_iff.mp H
       replace A85 := mk_ A85
       by_cases c86 : t468.length < 140737488355328
       rotate_left
       ·
        rw [if_neg c86] at H
        exact absurd H (by simp)
       rw [if_pos c86] at H
       have LMc86 := mk_ c86
       clear c86
       obtain ⟨y471, hy471⟩ : ∃ y_ : List Int, y_ = (t468 ++ [a3]) := ⟨_, rfl⟩
       replace H : ((cR.f y471).bind fun bt474 => (if t466 = 3 then (if bt474.2.2.2.2.2.2.2 = 3 then ((bB.f kj70 t451 t454 t455 t456 t457 t460 t463 ([] : List Int) 0 0 0 ([] : List (List (S80))) ([] : List (List Int)) ([] : List (S54))).bind fun t490 => (if t490 = true then ((bZ.f).bind fun t491 => (some t491)) else (some false))) else (some false)) else (some false))) = some r := by first | (rw [hy471]; with_reducible exact H) | (have H2_ := (Option.bind_some _ _).symm.trans H; rw [hy471]; with_reducible exact H2_) | (have H2_ := (Option.bind_some _ _).symm.trans H; with_reducible exact H2_) | with_reducible exact H | (rw [hy471]; exact H) | exact H
       have Ny471 := mk_ hy471
       clear hy471
       obtain ⟨⟨t474, t477, t478, t479, t480, t483, t486, t489⟩, A87, H⟩ := Option.bind_eq_some_iff.mp H
       try dsimp only at H
       replace A87 := mk_ A87
       by_cases c88 : t466 = 3
       rotate_left
       ·
        rw [if_neg c88] at H
        have c88b0 : (t466 == 3) = false := beq_eq_false_iff_ne.mpr c88
        have c88b1 : (t466 != 3) = true := bne_iff_ne.mpr c88
        exact absurd H (by rw [hrt]; simp)
       rw [if_pos c88] at H
       have c88b0 : (t466 == 3) = true := beq_iff_eq.mpr c88
       have c88b1 : (t466 != 3) = false := bne_eq_false_iff_eq.mpr c88
       clear c88
       by_cases c89 : t489 = 3
       rotate_left
       ·
        rw [if_neg c89] at H
        have c89b0 : (t489 == 3) = false := beq_eq_false_iff_ne.mpr c89
        have c89b1 : (t489 != 3) = true := bne_iff_ne.mpr c89
        exact absurd H (by rw [hrt]; simp)
       rw [if_pos c89] at H
       have c89b0 : (t489 == 3) = true := beq_iff_eq.mpr c89
       have c89b1 : (t489 != 3) = false := bne_eq_false_iff_eq.mpr c89
       clear c89
       obtain ⟨t490, A90, H⟩ := Option.bind_eq_some_iff.mp H
       replace A90 := mk_ A90
       by_cases c91 : t490 = true
       rotate_left
       ·
        replace c91 := Bool.eq_false_iff.mpr c91
        subst c91
        rw [if_neg (show ¬ (false = true) by decide)] at H
        exact absurd H (by rw [hrt]; simp)
       subst c91
       rw [if_pos rfl] at H
       obtain ⟨t491, A92, H⟩ := Option.bind_eq_some_iff.mp H
       replace A92 := mk_ A92
       obtain rfl := Option.some.inj H
       obtain ⟨Ao93, co93, eo93⟩ := dH HO_9.out
       subst eo93
       have q94 : ((ji81) : Int) ≤ ((t433.length : Int) : Int) := of_decide_eq_true z0_
       obtain ⟨i094, hi094, _, hsz94, _⟩ := info_parts info5
       have hroom94 : t433.length ≤ co93 := (R_reads' HO_9.out).2.1
       have hC94 : Kd.C (Kd.int .u8) _ Ao93 t433.length t433 := (R_reads' HO_9.out).2.2
       have hcut94 := cut_to (P := Try.prog) 22 5 .i64 Try.underlying22 hi094 Ao93 t433.length co93 (ji81) (of_decide_eq_true z0_) q94 hroom94
       have hr94 := C_take (m := ((ji81) : Int).toNat) hC94 z2_
       have hy94 : y447.length = ((ji81) : Int).toNat := (by rw [Ny447.out, List.length_take]; omega)
       rw [← Ny447.out] at hr94
       rw [← hy94] at hcut94
       have HR450 := mk_ hr94
       have HC450 := mk_ (show y447.length ≤ co93 from by omega)
       clear hr94 hC94 hroom94 hi094 hsz94
       have KY94 := mk_ hy94
       clear hy94
       have KL94 := mk_ (show ((ji81) : Int).toNat ≤ t433.length from by omega)
       replace q94 := eq_true q94
       go_wp2_with (first | ((with_reducible refine aT (f := 8) rfl ?_); refine Short.gL (some 95) Try.func8 #[.slice Ao93 y447.length co93] (h := ?_); (with_reducible refine (cR.calls _ _ y447 t451 t454 t455 t456 t457 t460 t463 t466 _ ?side1 ?side2 A84.out).mono ?_); (case side1 => exact cX_ (cK_ HR450)); (case side2 => exact HC450.out); rintro e w95 ⟨v452, v458, v461, v464, rfl, ho0, ho1, ho2, ho3, hb⟩; refine ⟨_, rfl, ?_⟩; have n0_ := mk_ (cO (ZKR HO_9) hb); have n1_ := mk_ (dN ho0 (aN (Short.hB HB))); have n2_ := mk_ (dN ho1 (aN (Short.hB HB))); have n3_ := mk_ (dN ho2 (aN (Short.hB HB))); have n4_ := mk_ (dN ho3 (aN (Short.hB HB))); have n5_ := mk_ (bB_ BK427 hb); have n6_ := mk_ (bB_ BK428 hb); have n7_ := mk_ (aV (cK_ HR450) hb); have n8_ := mk_ (aI (Short.hB HB) hb); clear HO_9 BK427 BK428 HR450 HB; revert n0_ n1_ n2_ n3_ n4_ n5_ n6_ n7_ n8_; intro HO_9 HO453 HO459 HO462 HO465 BK427 BK428 HR450 HB; (try clear hb ho0); (try clear ho1); (try clear ho2); (try clear ho3)) | ((with_reducible refine bP (N := 13) rfl ?_); refine bL ?hg (N := 13) ?hd (cs := #[.slice none 0 0, .int .i64 0, .int .i64 0, .int .i64 0, .slice none 0 0, .slice none 0 0, .slice none 0 0]) (t := 31) ?hr ?_; (case hd => rfl); (case hg => rfl); (case hr => first | (go_simp; done) | (go_simp; rfl)); intro gb467 hg w96 hbox hb; have n0_ := mk_ (cO (ZKR HO_9) hb); have n1_ := mk_ (cO (ZKR HO453) hb); have n2_ := mk_ (cO (ZKR HO459) hb); have n3_ := mk_ (cO (by (with_reducible repeat (first | apply R_alloc | apply R_drewN | apply R_drew)); exact HO462.out) hb); have n4_ := mk_ (cO (by (with_reducible repeat (first | apply R_alloc | apply R_drewN | apply R_drew)); exact HO465.out) hb); have n5_ := mk_ (bB_ BK427 hb); have n6_ := mk_ (bB_ BK428 hb); have n7_ := mk_ (aV (cK_ HR450) hb); have n8_ := mk_ (aI (Short.hB HB) hb); have n9_ := mk_ (hbox); have n10_ := mk_ ((by rw [hg]; exact (aN (Short.hB HB)) : w.heap.size ≤ gb467)); have n11_ := mk_ ((by rw [hg]; exact (aN (Short.hB HB)) : w.heap.size ≤ gb467)); have n12_ := mk_ ((by rw [hg]; exact Nat.ne_of_lt (eG (Short.bK BK427)) : gb427 ≠ gb467)); have n13_ := mk_ ((by rw [hg]; exact Nat.ne_of_gt (eG (Short.bK BK427)) : gb467 ≠ gb427)); have n14_ := mk_ ((by rw [hg]; exact Nat.ne_of_lt (eG (Short.bK BK428)) : gb428 ≠ gb467)); have n15_ := mk_ ((by rw [hg]; exact Nat.ne_of_gt (eG (Short.bK BK428)) : gb467 ≠ gb428)); clear HO_9 HO453 HO459 HO462 HO465 BK427 BK428 HR450 HB; revert n0_ n1_ n2_ n3_ n4_ n5_ n6_ n7_ n8_ n9_ n10_ n11_ n12_ n13_ n14_ n15_; intro HO_9 HO453 HO459 HO462 HO465 BK427 BK428 HR450 HB BK467 GW467 GE467 NB427_467 NB467_427 NB428_467 NB467_428; clear hb hbox hg; obtain ⟨Ao97, co97, eo97⟩ := dH HO453.out; subst eo97; have hnb98 := NB467_427.out; have hnc98 := NB427_467.out; have hnb99 := NB467_428.out; have hnc99 := NB428_467.out; have hcz_0 := aC BK467.out; have hfz_0 := aH BK467.out; obtain ⟨Ao101, co101, eo101⟩ := dH HO459.out; subst eo101; obtain ⟨Ao102, co102, eo102⟩ := dH HO462.out; subst eo102; obtain ⟨Ao103, co103, eo103⟩ := dH HO465.out; subst eo103) | ((with_reducible refine aT (f := 7) rfl ?_); refine Short.gL (some 100) Try.func7 #[.slice Ao93 t433.length co93] (h := ?_); (with_reducible refine (dM.calls _ _ t433 t468 _ ?side1 ?side2 A85.out).mono ?_); (case side1 => refine (R_reads' (e := 5) (base := w.heap.size) (ok := fun k_ => True) (n := t433.length) (c := co93) ?_).2.2; exact (by (with_reducible repeat (first | apply R_alloc | apply R_drewN | apply R_drew)); exact (R_mono (R_far (p := ⟨gb467, 6, none⟩) (R_far (p := ⟨gb467, 5, none⟩) (R_far (p := ⟨gb467, 4, none⟩) (R_far (p := ⟨gb467, 3, none⟩) (R_far (p := ⟨gb467, 2, none⟩) (R_far (p := ⟨gb467, 1, none⟩) (R_far (p := ⟨gb467, 0, none⟩) (hG HO_9.out BK467.out z4_) (fun _ hk => hk.2) (.slice Ao97 t451.length co97)) (fun _ hk => hk.2) (.int .i64 t454)) (fun _ hk => hk.2) (.int .i64 t455)) (fun _ hk => hk.2) (.int .i64 t456)) (fun _ hk => hk.2) (.slice Ao101 t457.length co101)) (fun _ hk => hk.2) (.slice Ao102 t460.length co102)) (fun _ hk => hk.2) (.slice Ao103 t463.length co103)) (fun _ h_ => h_.1)))); (case side2 => exact (R_reads' HO_9.out).2.1); rintro e w104 ⟨v469, rfl, ho0, hb⟩; refine ⟨_, rfl, ?_⟩; have n0_ := mk_ (R_elder' (by (with_reducible repeat (first | apply R_alloc | apply R_drewN | apply R_drew)); exact (R_mono (R_far (p := ⟨gb467, 6, none⟩) (R_far (p := ⟨gb467, 5, none⟩) (R_far (p := ⟨gb467, 4, none⟩) (R_far (p := ⟨gb467, 3, none⟩) (R_far (p := ⟨gb467, 2, none⟩) (R_far (p := ⟨gb467, 1, none⟩) (R_far (p := ⟨gb467, 0, none⟩) (hG HO_9.out BK467.out z4_) (fun _ hk => hk.2) (.slice Ao97 t451.length co97)) (fun _ hk => hk.2) (.int .i64 t454)) (fun _ hk => hk.2) (.int .i64 t455)) (fun _ hk => hk.2) (.int .i64 t456)) (fun _ hk => hk.2) (.slice Ao101 t457.length co101)) (fun _ hk => hk.2) (.slice Ao102 t460.length co102)) (fun _ hk => hk.2) (.slice Ao103 t463.length co103)) (fun _ h_ => h_.1))) (R_base ho0) hb); have n1_ := mk_ (cO (by (with_reducible repeat (first | apply R_alloc | apply R_drewN | apply R_drew)); exact (R_mono (R_far (p := ⟨gb467, 6, none⟩) (R_far (p := ⟨gb467, 5, none⟩) (R_far (p := ⟨gb467, 4, none⟩) (R_far (p := ⟨gb467, 3, none⟩) (R_far (p := ⟨gb467, 2, none⟩) (R_far (p := ⟨gb467, 1, none⟩) (R_far (p := ⟨gb467, 0, none⟩) (hG HO453.out BK467.out z4_) (fun _ hk => hk.2) (.slice Ao97 t451.length co97)) (fun _ hk => hk.2) (.int .i64 t454)) (fun _ hk => hk.2) (.int .i64 t455)) (fun _ hk => hk.2) (.int .i64 t456)) (fun _ hk => hk.2) (.slice Ao101 t457.length co101)) (fun _ hk => hk.2) (.slice Ao102 t460.length co102)) (fun _ hk => hk.2) (.slice Ao103 t463.length co103)) (fun _ h_ => h_.1))) hb); have n2_ := mk_ (cO (by (with_reducible repeat (first | apply R_alloc | apply R_drewN | apply R_drew)); exact (R_mono (R_far (p := ⟨gb467, 6, none⟩) (R_far (p := ⟨gb467, 5, none⟩) (R_far (p := ⟨gb467, 4, none⟩) (R_far (p := ⟨gb467, 3, none⟩) (R_far (p := ⟨gb467, 2, none⟩) (R_far (p := ⟨gb467, 1, none⟩) (R_far (p := ⟨gb467, 0, none⟩) (hG HO459.out BK467.out z4_) (fun _ hk => hk.2) (.slice Ao97 t451.length co97)) (fun _ hk => hk.2) (.int .i64 t454)) (fun _ hk => hk.2) (.int .i64 t455)) (fun _ hk => hk.2) (.int .i64 t456)) (fun _ hk => hk.2) (.slice Ao101 t457.length co101)) (fun _ hk => hk.2) (.slice Ao102 t460.length co102)) (fun _ hk => hk.2) (.slice Ao103 t463.length co103)) (fun _ h_ => h_.1))) hb); have n3_ := mk_ (cO (by (with_reducible repeat (first | apply R_alloc | apply R_drewN | apply R_drew)); exact (R_mono (R_far (p := ⟨gb467, 6, none⟩) (R_far (p := ⟨gb467, 5, none⟩) (R_far (p := ⟨gb467, 4, none⟩) (R_far (p := ⟨gb467, 3, none⟩) (R_far (p := ⟨gb467, 2, none⟩) (R_far (p := ⟨gb467, 1, none⟩) (R_far (p := ⟨gb467, 0, none⟩) (hG HO462.out BK467.out z4_) (fun _ hk => hk.2) (.slice Ao97 t451.length co97)) (fun _ hk => hk.2) (.int .i64 t454)) (fun _ hk => hk.2) (.int .i64 t455)) (fun _ hk => hk.2) (.int .i64 t456)) (fun _ hk => hk.2) (.slice Ao101 t457.length co101)) (fun _ hk => hk.2) (.slice Ao102 t460.length co102)) (fun _ hk => hk.2) (.slice Ao103 t463.length co103)) (fun _ h_ => h_.1))) hb); have n4_ := mk_ (cO (by (with_reducible repeat (first | apply R_alloc | apply R_drewN | apply R_drew)); exact (R_mono (R_far (p := ⟨gb467, 6, none⟩) (R_far (p := ⟨gb467, 5, none⟩) (R_far (p := ⟨gb467, 4, none⟩) (R_far (p := ⟨gb467, 3, none⟩) (R_far (p := ⟨gb467, 2, none⟩) (R_far (p := ⟨gb467, 1, none⟩) (R_far (p := ⟨gb467, 0, none⟩) (hG HO465.out BK467.out z4_) (fun _ hk => hk.2) (.slice Ao97 t451.length co97)) (fun _ hk => hk.2) (.int .i64 t454)) (fun _ hk => hk.2) (.int .i64 t455)) (fun _ hk => hk.2) (.int .i64 t456)) (fun _ hk => hk.2) (.slice Ao101 t457.length co101)) (fun _ hk => hk.2) (.slice Ao102 t460.length co102)) (fun _ hk => hk.2) (.slice Ao103 t463.length co103)) (fun _ h_ => h_.1))) hb); have n5_ := mk_ (dN (R_new' ho0 (R_lt (by (with_reducible repeat (first | apply R_alloc | apply R_drewN | apply R_drew)); exact (R_mono (R_far (p := ⟨gb467, 6, none⟩) (R_far (p := ⟨gb467, 5, none⟩) (R_far (p := ⟨gb467, 4, none⟩) (R_far (p := ⟨gb467, 3, none⟩) (R_far (p := ⟨gb467, 2, none⟩) (R_far (p := ⟨gb467, 1, none⟩) (R_far (p := ⟨gb467, 0, none⟩) (hG HO_9.out BK467.out z4_) (fun _ hk => hk.2) (.slice Ao97 t451.length co97)) (fun _ hk => hk.2) (.int .i64 t454)) (fun _ hk => hk.2) (.int .i64 t455)) (fun _ hk => hk.2) (.int .i64 t456)) (fun _ hk => hk.2) (.slice Ao101 t457.length co101)) (fun _ hk => hk.2) (.slice Ao102 t460.length co102)) (fun _ hk => hk.2) (.slice Ao103 t463.length co103)) (fun _ h_ => h_.1))))) (aN (Short.hB HB))); have n6_ := mk_ (dB (g := gb427) (o := .cells #[.slice A0_0 l0_0.length c0_0, .int .i64 a0_1, .int .i64 a0_2, .int .i64 a0_3, .slice A0_4 l0_4.length c0_4, .slice A0_5 l0_5.length c0_5, .slice A0_6 l0_6.length c0_6] 31 (0, 0)) (by (with_reducible repeat (first | refine aG ?_ _ | refine aJ ?_ | refine aE ?_ _)); refine dW ?_ NB427_467.out _; (with_reducible repeat (first | refine aG ?_ _ | refine aJ ?_ | refine aE ?_ _)); refine dW ?_ NB427_467.out _; (with_reducible repeat (first | refine aG ?_ _ | refine aJ ?_ | refine aE ?_ _)); refine dW ?_ NB427_467.out _; (with_reducible repeat (first | refine aG ?_ _ | refine aJ ?_ | refine aE ?_ _)); refine dW ?_ NB427_467.out _; (with_reducible repeat (first | refine aG ?_ _ | refine aJ ?_ | refine aE ?_ _)); refine dW ?_ NB427_467.out _; (with_reducible repeat (first | refine aG ?_ _ | refine aJ ?_ | refine aE ?_ _)); refine dW ?_ NB427_467.out _; (with_reducible repeat (first | refine aG ?_ _ | refine aJ ?_ | refine aE ?_ _)); refine dW ?_ NB427_467.out _; (with_reducible repeat (first | refine aG ?_ _ | refine aJ ?_ | refine aE ?_ _)); exact BK427.out) hb); have n7_ := mk_ (dB (g := gb428) (o := .cells #[.slice A1_0 l1_0.length c1_0, .int .i64 a1_1, .int .i64 a1_2, .int .i64 a1_3, .slice A1_4 l1_4.length c1_4, .slice A1_5 l1_5.length c1_5, .slice A1_6 l1_6.length c1_6] 31 (0, 0)) (by (with_reducible repeat (first | refine aG ?_ _ | refine aJ ?_ | refine aE ?_ _)); refine dW ?_ NB428_467.out _; (with_reducible repeat (first | refine aG ?_ _ | refine aJ ?_ | refine aE ?_ _)); refine dW ?_ NB428_467.out _; (with_reducible repeat (first | refine aG ?_ _ | refine aJ ?_ | refine aE ?_ _)); refine dW ?_ NB428_467.out _; (with_reducible repeat (first | refine aG ?_ _ | refine aJ ?_ | refine aE ?_ _)); refine dW ?_ NB428_467.out _; (with_reducible repeat (first | refine aG ?_ _ | refine aJ ?_ | refine aE ?_ _)); refine dW ?_ NB428_467.out _; (with_reducible repeat (first | refine aG ?_ _ | refine aJ ?_ | refine aE ?_ _)); refine dW ?_ NB428_467.out _; (with_reducible repeat (first | refine aG ?_ _ | refine aJ ?_ | refine aE ?_ _)); refine dW ?_ NB428_467.out _; (with_reducible repeat (first | refine aG ?_ _ | refine aJ ?_ | refine aE ?_ _)); exact BK428.out) hb); have n8_ := mk_ (dB (g := gb467) (o := .cells #[.slice Ao97 t451.length co97, .int .i64 t454, .int .i64 t455, .int .i64 t456, .slice Ao101 t457.length co101, .slice Ao102 t460.length co102, .slice Ao103 t463.length co103] 31 (0, 0)) (by (with_reducible repeat (first | refine aG ?_ _ | refine aJ ?_ | refine aE ?_ _)); refine bJ (cs := #[.slice Ao97 t451.length co97, .int .i64 t454, .int .i64 t455, .int .i64 t456, .slice Ao101 t457.length co101, .slice Ao102 t460.length co102, .slice none 0 0]) ?_ 6 _ rfl; (with_reducible repeat (first | refine aG ?_ _ | refine aJ ?_ | refine aE ?_ _)); refine bJ (cs := #[.slice Ao97 t451.length co97, .int .i64 t454, .int .i64 t455, .int .i64 t456, .slice Ao101 t457.length co101, .slice none 0 0, .slice none 0 0]) ?_ 5 _ rfl; (with_reducible repeat (first | refine aG ?_ _ | refine aJ ?_ | refine aE ?_ _)); refine bJ (cs := #[.slice Ao97 t451.length co97, .int .i64 t454, .int .i64 t455, .int .i64 t456, .slice none 0 0, .slice none 0 0, .slice none 0 0]) ?_ 4 _ rfl; (with_reducible repeat (first | refine aG ?_ _ | refine aJ ?_ | refine aE ?_ _)); refine bJ (cs := #[.slice Ao97 t451.length co97, .int .i64 t454, .int .i64 t455, .int .i64 0, .slice none 0 0, .slice none 0 0, .slice none 0 0]) ?_ 3 _ rfl; (with_reducible repeat (first | refine aG ?_ _ | refine aJ ?_ | refine aE ?_ _)); refine bJ (cs := #[.slice Ao97 t451.length co97, .int .i64 t454, .int .i64 0, .int .i64 0, .slice none 0 0, .slice none 0 0, .slice none 0 0]) ?_ 2 _ rfl; (with_reducible repeat (first | refine aG ?_ _ | refine aJ ?_ | refine aE ?_ _)); refine bJ (cs := #[.slice Ao97 t451.length co97, .int .i64 0, .int .i64 0, .int .i64 0, .slice none 0 0, .slice none 0 0, .slice none 0 0]) ?_ 1 _ rfl; (with_reducible repeat (first | refine aG ?_ _ | refine aJ ?_ | refine aE ?_ _)); refine bJ (cs := #[.slice none 0 0, .int .i64 0, .int .i64 0, .int .i64 0, .slice none 0 0, .slice none 0 0, .slice none 0 0]) ?_ 0 _ rfl; (with_reducible repeat (first | refine aG ?_ _ | refine aJ ?_ | refine aE ?_ _)); exact BK467.out) hb); have n9_ := mk_ (aI (Short.hB HB) hb); clear HO_9 HO453 HO459 HO462 HO465 BK427 BK428 BK467 HB; revert n0_ n1_ n2_ n3_ n4_ n5_ n6_ n7_ n8_ n9_; intro HO_9 HO453 HO459 HO462 HO465 HO470 BK427 BK428 BK467 HB; (try clear hb ho0)) | ((with_reducible refine cJ (b := .append) (xs := #[.tmp 100, .tmp 102]) rfl ?_); at_builtin; refine fV (Kd.int .u8) (w0 := w) w.heap.size rfl (.tmp 100) (.tmp 102) 22 5 (.int .u8 0) 1 rfl Try.underlying22 info5 rfl z4_ z2_ v469 t468 a3 [.int .u8 a3] (fun k_ => nb_ k_ (.slice Ao93 t433.length co93)) (fun _ => False) rfl rfl ?aP (fun _ hk => hk.elim) ?aF ?aO ?aB ?aS ?aL ?_; (case aP => exact rfl); (case aB => exact (Short.hB HB)); (case aF => exact (fun k_ hk => Kd.fresh' (R_lt (ZKR HO_9)) k_ hk)); (case aO => exact (rM_ HO470 (fun _ hk => hk.2))); (case aS => exact (aN (Short.hB HB))); (case aL => have := LMc86.out; omega); intro v472 w105 ho hb hg hat; rw [← Ny471.out] at ho; have n0_ := mk_ (R_after (ok := (fun _ => True)) (ZKR HO_9) hg hat); have n1_ := mk_ (gM (g := gb427) (o := .cells #[.slice A0_0 l0_0.length c0_0, .int .i64 a0_1, .int .i64 a0_2, .int .i64 a0_3, .slice A0_4 l0_4.length c0_4, .slice A0_5 l0_5.length c0_5, .slice A0_6 l0_6.length c0_6] 31 (0, 0)) (Short.bK BK427) hg (R_ne HO470.out BK427.out z4_)); have n2_ := mk_ (gM (g := gb428) (o := .cells #[.slice A1_0 l1_0.length c1_0, .int .i64 a1_1, .int .i64 a1_2, .int .i64 a1_3, .slice A1_4 l1_4.length c1_4, .slice A1_5 l1_5.length c1_5, .slice A1_6 l1_6.length c1_6] 31 (0, 0)) (Short.bK BK428) hg (R_ne HO470.out BK428.out z4_)); have n3_ := mk_ (R_over' (ZKR HO453) (R_typed (ZKR HO470)) z4_ hg); have n4_ := mk_ (R_over' (ZKR HO459) (R_typed (ZKR HO470)) z4_ hg); have n5_ := mk_ (R_over' (by (with_reducible repeat (first | apply R_alloc | apply R_drewN | apply R_drew)); exact HO462.out) (R_typed (ZKR HO470)) z4_ hg); have n6_ := mk_ (R_over' (by (with_reducible repeat (first | apply R_alloc | apply R_drewN | apply R_drew)); exact HO465.out) (R_typed (ZKR HO470)) z4_ hg); have n7_ := mk_ (gM (g := gb467) (o := .cells #[.slice Ao97 t451.length co97, .int .i64 t454, .int .i64 t455, .int .i64 t456, .slice Ao101 t457.length co101, .slice Ao102 t460.length co102, .slice Ao103 t463.length co103] 31 (0, 0)) (Short.bK BK467) hg (R_ne HO470.out BK467.out z4_)); have n8_ := mk_ (hb); have n9_ := mk_ ((show Kd.C (Kd.int .u8) w105 Ao93 y447.length y447 from by rw [Ny447.out]; exact C_take (m := ((ji81) : Int).toNat) ((R_reads' (R_after (ok := (fun _ => True)) (ZKR HO_9) hg hat)).2.2) KL94.out)); have n10_ := mk_ (ho); clear HO_9 BK427 BK428 HO453 HO459 HO462 HO465 BK467 HB HR450 HO470; revert n0_ n1_ n2_ n3_ n4_ n5_ n6_ n7_ n8_ n9_ n10_; intro HO_9 BK427 BK428 HO453 HO459 HO462 HO465 BK467 HB HR450 HO473; clear ho hb hg hat; obtain ⟨Ao106, co106, eo106⟩ := dH HO473.out; subst eo106) | ((with_reducible refine aT (f := 8) rfl ?_); refine Short.gL (some 104) Try.func8 #[.slice Ao106 y471.length co106] (h := ?_); (with_reducible refine (cR.calls _ _ y471 t474 t477 t478 t479 t480 t483 t486 t489 _ ?side1 ?side2 A87.out).mono ?_); (case side1 => exact cX_ (R_reads' HO473.out).2.2); (case side2 => exact (R_reads' HO473.out).2.1); rintro e w107 ⟨v475, v481, v484, v487, rfl, ho0, ho1, ho2, ho3, hb⟩; refine ⟨_, rfl, ?_⟩; have n0_ := mk_ (cO (ZKR HO_9) hb); have n1_ := mk_ (R_elder' (ZKR HO453) (R_base ho0) hb); have n2_ := mk_ (R_elder' (ZKR HO459) (R_base ho1) hb); have n3_ := mk_ (R_mono (R_told (R_told (R_old (by (with_reducible repeat (first | apply R_alloc | apply R_drewN | apply R_drew)); exact HO462.out) hb) (R_base ho0)) (R_base ho2)) (fun _ h_ => h_.1)); have n4_ := mk_ (R_mono (R_told (R_told (R_old (by (with_reducible repeat (first | apply R_alloc | apply R_drewN | apply R_drew)); exact HO465.out) hb) (R_base ho0)) (R_base ho3)) (fun _ h_ => h_.1)); have n5_ := mk_ (cO (ZKR HO473) hb); have n6_ := mk_ (dN (R_new' ho0 (R_lt (ZKR HO453))) (aN (Short.hB HB))); have n7_ := mk_ (dN (R_new' ho1 (R_lt (ZKR HO459))) (aN (Short.hB HB))); have n8_ := mk_ (dN (R_new' (R_new' ho2 (R_lt (ZKR HO453))) (R_lt (by (with_reducible repeat (first | apply R_alloc | apply R_drewN | apply R_drew)); exact HO462.out))) (aN (Short.hB HB))); have n9_ := mk_ (dN (R_new' (R_new' ho3 (R_lt (ZKR HO453))) (R_lt (by (with_reducible repeat (first | apply R_alloc | apply R_drewN | apply R_drew)); exact HO465.out))) (aN (Short.hB HB))); have n10_ := mk_ (bB_ BK427 hb); have n11_ := mk_ (bB_ BK428 hb); have n12_ := mk_ (bB_ BK467 hb); have n13_ := mk_ (aV (cK_ HR450) hb); have n14_ := mk_ (aI (Short.hB HB) hb); clear HO_9 HO453 HO459 HO462 HO465 HO473 BK427 BK428 BK467 HR450 HB; revert n0_ n1_ n2_ n3_ n4_ n5_ n6_ n7_ n8_ n9_ n10_ n11_ n12_ n13_ n14_; intro HO_9 HO453 HO459 HO462 HO465 HO473 HO476 HO482 HO485 HO488 BK427 BK428 BK467 HR450 HB; (try clear hb ho0); (try clear ho1); (try clear ho2); (try clear ho3); have hcz_0 := aC BK467.out; have hfz_0 := aH BK467.out) | (go_at_call 10; (refine (bB.calls kj70 _ _ t451 t454 t455 t456 _ _ t457 _ _ t460 _ _ t463 _ _ ([] : List Int) 0 0 0 _ _ ([] : List (List (S80))) _ _ ([] : List (List Int)) _ _ ([] : List (S54)) true _ ?side1 ?side2 ?side3 ?side4 ?side5 ?side6 ?side7 ?side8 ?side9 ?side10 ?side11 ?side12 ?side13 ?side14 ?side15 ?side16 A90.out).mono ?_); (case side1 => exact cX_ (R_reads' HO453.out).2.2); (case side2 => exact (R_reads' HO453.out).2.1); (case side3 => exact cX_ (R_reads' HO459.out).2.2); (case side4 => exact (R_reads' HO459.out).2.1); (case side5 => exact cX_ (R_reads' HO462.out).2.2); (case side6 => exact (R_reads' HO462.out).2.1); (case side7 => exact cX_ (R_reads' HO465.out).2.2); (case side8 => exact (R_reads' HO465.out).2.1); (case side9 => exact C_nil _ _); (case side10 => exact Nat.le_refl _); (case side11 => exact C_nil _ _); (case side12 => exact Nat.le_refl _); (case side13 => exact C_nil _ _); (case side14 => exact Nat.le_refl _); (case side15 => exact C_nil _ _); (case side16 => exact Nat.le_refl _); rintro e w109 ⟨rfl, hb⟩; have n0_ := mk_ (cO (ZKR HO_9) hb); have n1_ := mk_ (cO (ZKR HO453) hb); have n2_ := mk_ (cO (ZKR HO459) hb); have n3_ := mk_ (cO (by (with_reducible repeat (first | apply R_alloc | apply R_drewN | apply R_drew)); exact HO462.out) hb); have n4_ := mk_ (cO (by (with_reducible repeat (first | apply R_alloc | apply R_drewN | apply R_drew)); exact HO465.out) hb); have n5_ := mk_ (cO (ZKR HO473) hb); have n6_ := mk_ (cO (ZKR HO476) hb); have n7_ := mk_ (cO (ZKR HO482) hb); have n8_ := mk_ (cO (by (with_reducible repeat (first | apply R_alloc | apply R_drewN | apply R_drew)); exact HO485.out) hb); have n9_ := mk_ (cO (by (with_reducible repeat (first | apply R_alloc | apply R_drewN | apply R_drew)); exact HO488.out) hb); have n10_ := mk_ (bB_ BK427 hb); have n11_ := mk_ (bB_ BK428 hb); have n12_ := mk_ (bB_ BK467 hb); have n13_ := mk_ (aV (cK_ HR450) hb); have n14_ := mk_ (aI (Short.hB HB) hb); clear HO_9 HO453 HO459 HO462 HO465 HO473 HO476 HO482 HO485 HO488 BK427 BK428 BK467 HR450 HB; revert n0_ n1_ n2_ n3_ n4_ n5_ n6_ n7_ n8_ n9_ n10_ n11_ n12_ n13_ n14_; intro HO_9 HO453 HO459 HO462 HO465 HO473 HO476 HO482 HO485 HO488 BK427 BK428 BK467 HR450 HB; (try clear hb); (try clear hb2); (try clear hk); (try clear hi)) | (go_at_call 12; (with_reducible refine (bZ.calls  t491 _ A92.out).mono ?_); rintro e w110 ⟨rfl, hb⟩; have n0_ := mk_ (cO (ZKR HO_9) hb); have n1_ := mk_ (cO (ZKR HO453) hb); have n2_ := mk_ (cO (ZKR HO459) hb); have n3_ := mk_ (cO (by (with_reducible repeat (first | apply R_alloc | apply R_drewN | apply R_drew)); exact HO462.out) hb); have n4_ := mk_ (cO (by (with_reducible repeat (first | apply R_alloc | apply R_drewN | apply R_drew)); exact HO465.out) hb); have n5_ := mk_ (cO (ZKR HO473) hb); have n6_ := mk_ (cO (ZKR HO476) hb); have n7_ := mk_ (cO (ZKR HO482) hb); have n8_ := mk_ (cO (by (with_reducible repeat (first | apply R_alloc | apply R_drewN | apply R_drew)); exact HO485.out) hb); have n9_ := mk_ (cO (by (with_reducible repeat (first | apply R_alloc | apply R_drewN | apply R_drew)); exact HO488.out) hb); have n10_ := mk_ (bB_ BK427 hb); have n11_ := mk_ (bB_ BK428 hb); have n12_ := mk_ (bB_ BK467 hb); have n13_ := mk_ (aV (cK_ HR450) hb); have n14_ := mk_ (aI (Short.hB HB) hb); clear HO_9 HO453 HO459 HO462 HO465 HO473 HO476 HO482 HO485 HO488 BK427 BK428 BK467 HR450 HB; revert n0_ n1_ n2_ n3_ n4_ n5_ n6_ n7_ n8_ n9_ n10_ n11_ n12_ n13_ n14_; intro HO_9 HO453 HO459 HO462 HO465 HO473 HO476 HO482 HO485 HO488 BK427 BK428 BK467 HR450 HB; (try clear hb); (try clear hb2); (try clear hk); (try clear hi)))
       go_ret
       exact ⟨by first | rfl | (rw [hrt]; rfl) | (simp [bD, bC] <;> rfl) | (simp only [← hji81]; first | rfl | (simp [bD, bC] <;> rfl)) | (simp [*, bD, bC] <;> rfl), Short.hB HB⟩
def aA.WF26 (x : S26) : Prop := (Lit.int .i64 x.f0).wf = true ∧ (Lit.int .i64 x.f1).wf = true ∧ (Lit.int .i64 x.f2).wf = true
def aA.WF50 (x : S50) : Prop := (Lit.int .i64 x.f0).wf = true ∧ (Lit.int .i64 x.f1).wf = true
def aA.WF89 (x : S89) : Prop := (Lit.int .i64 x.f0).wf = true ∧ (Lit.int .i64 x.f1).wf = true ∧ x.f2.size ≤ maxLen
def aA.WF91 (x : S91) : Prop := aA.WF89 x.f0 ∧ aA.WF26 x.f1 ∧ aA.WF50 x.f2
def aA.WF80 (x : S80) : Prop := x.f0.size ≤ maxLen ∧ (x.f1.length * 16 ≤ 140737488351232 ∧ ∀ x0_ ∈ x.f1, aA.WF50 x0_) ∧ (x.f2.length * 64 ≤ 140737488351232 ∧ ∀ x0_ ∈ x.f2, aA.WF91 x0_)
def aA.WF54 (x : S54) : Prop := aA.WF50 x.f0 ∧ (x.f1.length * 8 ≤ 140737488351232 ∧ ∀ x0_ ∈ x.f1, (Lit.int .i64 x0_).wf = true) ∧ aA.WF26 x.f2 ∧ (Lit.int .i64 x.f3).wf = true ∧ (Lit.int .i64 x.f4).wf = true ∧ x.f5.size ≤ maxLen ∧ (Lit.int .i64 x.f6).wf = true ∧ (x.f7.length * 24 ≤ 140737488351232 ∧ ∀ x0_ ∈ x.f7, aA.WF89 x0_) ∧ (x.f8.length * 16 ≤ 140737488351232 ∧ ∀ x0_ ∈ x.f8, aA.WF50 x0_)
def aA.WF31 (x : S31) : Prop := (x.f0.length * 8 ≤ 140737488351232 ∧ ∀ x0_ ∈ x.f0, (Lit.int .i64 x0_).wf = true) ∧ aA.WF26 x.f1 ∧ (x.f2.length * 8 ≤ 140737488351232 ∧ ∀ x0_ ∈ x.f2, (x0_.length * 24 ≤ 140737488351232 ∧ ∀ x1_ ∈ x0_, aA.WF80 x1_)) ∧ (x.f3.length * 8 ≤ 140737488351232 ∧ ∀ x0_ ∈ x.f3, (x0_.length * 8 ≤ 140737488351232 ∧ ∀ x1_ ∈ x0_, (Lit.int .i64 x1_).wf = true)) ∧ (x.f4.length * 96 ≤ 140737488351232 ∧ ∀ x0_ ∈ x.f4, aA.WF54 x0_)
def aA.Pure : Prop := ∀ (x0 : S31) (x1 : S31) (x2 : Int) (x3 : Int), aA.WF31 x0 → aA.WF31 x1 → (Lit.int .i64 x2).wf = true → (Lit.int .u8 x3).wf = true → ∃ k, aA.f k x0.f0 x0.f1.f0 x0.f1.f1 x0.f1.f2 x0.f2 x0.f3 x0.f4 x1.f0 x1.f1.f0 x1.f1.f1 x1.f1.f2 x1.f2 x1.f3 x1.f4 x2 x3 = some true
end Go.Proofs.Ytcbfliajgopdaaa.PAll
end
section
namespace Go.Proofs.Ytcbfliajgopdaaa.Snaps
open Go.RowKit PAll Plain Ops PrintWords ZipT PrintWords.Kd PrintMore.Kd
set_option linter.unusedVariables false
set_option linter.unusedSimpArgs false
theorem iC {α : Type} {l : List α} {i : Nat} {v z : α} {m : List α} (h : l.drop i = v :: m) : l.getD ((i : Int)).toNat z = v := by
 rw [Int.toNat_natCast, List.getD_eq_getElem?_getD, show l[i]? = some v from by rw [← List.head?_drop, h]; rfl]
 rfl
theorem gU {l : List Cl} {i : Nat} {v : Cl} {m : List Cl} (h : l.drop i = v :: m) : aZ l (i : Int) = v := iC h
theorem fE {l : List Rx} {i : Nat} {v : Rx} {m : List Rx} (h : l.drop i = v :: m) : aU l (i : Int) = v := iC h
theorem fS {l : List Ox} {i : Nat} {v : Ox} {m : List Ox} (h : l.drop i = v :: m) : aK l (i : Int) = v := iC h
theorem eZ {l : List (List Rx)} {i : Nat} {v : List Rx} {m : List (List Rx)} (h : l.drop i = v :: m) : aX l (i : Int) = v := iC h
theorem gO {l : List (List Int)} {i : Nat} {v : List Int} {m : List (List Int)} (h : l.drop i = v :: m) : dS l (i : Int) = v := iC h
theorem Cl_ext {a b : Cl} (h0 : a.f0 = b.f0) (h1 : a.f1 = b.f1) (h2 : a.f2 = b.f2) : a = b := by cases a; cases b; simp_all
theorem Rx_ext {a b : Rx} (h0 : a.f0 = b.f0) (h1 : a.f1 = b.f1) (h2 : a.f2 = b.f2) : a = b := by cases a; cases b; simp_all
theorem Sn_ext {a b : Sn} (h0 : a.f0 = b.f0) (h1 : a.f1 = b.f1) (h2 : a.f2 = b.f2) (h3 : a.f3 = b.f3) (h4 : a.f4 = b.f4) : a = b := by cases a; cases b; simp_all
theorem eP {α : Type} {l : List α} {i : Nat} {x : α} {m : List α} (h : l.drop i = x :: m) : x ∈ l := List.mem_of_mem_drop (by rw [h]; exact List.mem_cons_self)
open Classical in
theorem keepVal_eq (a b : V) : dD.f a.f0 a.f1 a.f2 b.f0 b.f1 b.f2 = some (decide (a = b)) := by
 rw [jY]
 congr 1
 by_cases h : a = b
 ·
  subst h; rw [decide_eq_true rfl, decide_eq_true ⟨rfl, rfl, rfl⟩]
 rw [decide_eq_false h, decide_eq_false (fun e => h (V_ext e.1 e.2.1 e.2.2))]
open Classical in
theorem keepCells_l0 (a b : List Cl) (ha : a.length ≤ 100000) (hl : a.length = b.length) (m : List Cl) : ∀ (k i : Nat), a.drop i = m → m.length < k → aY.l0 k a b (i : Int) = some (decide (m = b.drop i)) := by
 induction m with
 | nil =>
  intro k i h hk
  obtain ⟨k, rfl⟩ : ∃ j, k = j + 1 := ⟨k - 1, by omega⟩
  have h1 := cG h
  simp only [aY.l0]
  rw [if_neg z2_, List.drop_eq_nil_iff.2 z2_]; simp
 | cons v m ih =>
  intro k i h hk
  obtain ⟨k, rfl⟩ : ∃ j, k = j + 1 := ⟨k - 1, by omega⟩
  have h1 := dC h
  simp only [aY.l0]
  cases hd : b.drop i with
  | nil => have h2 := cG hd; omega
  | cons t n =>
   rw [if_pos z2_, if_pos z2_, if_pos z2_, gU h, gU hd, keepVal_eq, Option.bind_some]
   by_cases z0 : v.f0 = t.f0
   rotate_left
   ·
    rw [decide_eq_false z0, if_neg z4_]
    have : v ≠ t := fun e => z0 (by rw [e])
    simp [this]
   rw [decide_eq_true z0, if_pos rfl, iJ, Option.bind_some]
   by_cases z1 : v.f1 = t.f1
   rotate_left
   ·
    rw [decide_eq_false z1, if_neg z4_]
    have : v ≠ t := fun e => z1 (by rw [e])
    simp [this]
   rw [decide_eq_true z1, if_pos rfl, jS, Option.bind_some]
   by_cases z2 : v.f2 = t.f2
   rotate_left
   ·
    rw [decide_eq_false z2, if_neg z4_]
    have : v ≠ t := fun e => z2 (by rw [e])
    simp [this]
   obtain rfl := Cl_ext z0 z1 z2
   have := ih k (i + 1) (bY h) (by simp at hk; omega)
   rw [decide_eq_true z2, if_pos rfl, w64 z2_ z2_, show ((i : Int) + 1) = ((i + 1 : Nat) : Int) from rfl, this, bY hd]
   simp
open Classical in
theorem keepCells_eq (k : Nat) (a b : List Cl) (ha : a.length ≤ 100000) (hk : a.length + 1 ≤ k) : aY.f k a b = some (decide (a = b)) := by
 unfold aY.f
 by_cases hl : (a.length : Int) = b.length
 rotate_left
 ·
  rw [if_neg hl, decide_eq_false (fun e => hl (by rw [e]))]
 rw [if_pos hl]
 exact keepCells_l0 a b ha z2_ a k 0 rfl z2_
open Classical in
theorem keepDots_eq' (k : Nat) (a b : List Dt) (ha : a.length ≤ 1000000) (hk : a.length + 1 ≤ k) : bI.f k a b = some (decide (a = b)) := by
 rw [keepDots_eq k a b ha hk]
open Classical in
theorem keepTable_l0 (a b : List Rx) (ha : tabSmall a) (hl : a.length = b.length) (m : List Rx) : ∀ (k i : Nat), a.drop i = m → m.length + 1001 < k → aW.l0 k a b (i : Int) = some (decide (m = b.drop i)) := by
 have ha1 := ha.1
 induction m with
 | nil =>
  intro k i h hk
  obtain ⟨k, rfl⟩ : ∃ j, k = j + 1 := ⟨k - 1, by omega⟩
  have h1 := cG h
  simp only [aW.l0]
  rw [if_neg z2_, List.drop_eq_nil_iff.2 z2_]; simp
 | cons v m ih =>
  intro k i h hk
  obtain ⟨k, rfl⟩ : ∃ j, k = j + 1 := ⟨k - 1, by omega⟩
  have h1 := dC h
  have hs := ha.2 v (eP h)
  have hs1 := hs.1
  have hs2 := hs.2
  rw [List.length_cons] at hk
  simp only [aW.l0]
  cases hd : b.drop i with
  | nil => have h2 := cG hd; omega
  | cons t n =>
   rw [if_pos z2_, if_pos z2_, if_pos z2_, fE h, fE hd]
   by_cases z0 : v.f0 = t.f0
   rotate_left
   ·
    rw [if_neg (fun e => z0 (toList_inj.1 e))]
    have : v ≠ t := fun e => z0 (by rw [e])
    simp [this]
   rw [if_pos (by rw [z0]), keepDots_eq' k v.f1 t.f1 z2_ z2_, Option.bind_some]
   by_cases z1 : v.f1 = t.f1
   rotate_left
   ·
    rw [decide_eq_false z1, if_neg z4_]
    have : v ≠ t := fun e => z1 (by rw [e])
    simp [this]
   rw [decide_eq_true z1, if_pos rfl, keepCells_eq k v.f2 t.f2 z2_ z2_, Option.bind_some]
   by_cases z2 : v.f2 = t.f2
   rotate_left
   ·
    rw [decide_eq_false z2, if_neg z4_]
    have : v ≠ t := fun e => z2 (by rw [e])
    simp [this]
   obtain rfl := Rx_ext z0 z1 z2
   have := ih k (i + 1) (bY h) z2_
   rw [decide_eq_true z2, if_pos rfl, w64 z2_ z2_, show ((i : Int) + 1) = ((i + 1 : Nat) : Int) from rfl, this, bY hd]
   simp
open Classical in
theorem keepTable_eq (k : Nat) (a b : List Rx) (ha : tabSmall a) (hk : 72000 ≤ k) : aW.f k a b = some (decide (a = b)) := by
 have ha1 := ha.1
 unfold aW.f
 by_cases hl : (a.length : Int) = b.length
 rotate_left
 ·
  rw [if_neg hl, decide_eq_false (fun e => hl (by rw [e]))]
 rw [if_pos hl]
 exact keepTable_l0 a b ha z2_ a k 0 rfl z2_
open Classical in
theorem keepInts_eq' (k : Nat) (a b : List Int) (ha : a.length ≤ 1000000) (hk : a.length + 1 ≤ k) : bH.f k a b = some (decide (a = b)) := by
 rw [keepInts_eq k a b ha hk]
open Classical in
theorem keepRows_l0 (a b : List (List Int)) (ha : a.length ≤ 1000 ∧ ∀ v ∈ a, v.length ≤ 1000) (hl : a.length = b.length) (m : List (List Int)) : ∀ (k i : Nat), a.drop i = m → m.length + 1001 < k → bU.l0 k a b (i : Int) = some (decide (m = b.drop i)) := by
 have ha1 := ha.1
 induction m with
 | nil =>
  intro k i h hk
  obtain ⟨k, rfl⟩ : ∃ j, k = j + 1 := ⟨k - 1, by omega⟩
  have h1 := cG h
  simp only [bU.l0]
  rw [if_neg z2_, List.drop_eq_nil_iff.2 z2_]; simp
 | cons v m ih =>
  intro k i h hk
  obtain ⟨k, rfl⟩ : ∃ j, k = j + 1 := ⟨k - 1, by omega⟩
  have h1 := dC h
  have hs := ha.2 v (eP h)
  rw [List.length_cons] at hk
  simp only [bU.l0]
  cases hd : b.drop i with
  | nil => have h2 := cG hd; omega
  | cons t n =>
   rw [if_pos z2_, if_pos z2_, if_pos z2_, gO h, gO hd, keepInts_eq' k v t z2_ z2_, Option.bind_some]
   by_cases z0 : v = t
   rotate_left
   ·
    rw [decide_eq_false z0, if_neg z4_]
    simp [z0]
   subst z0
   have := ih k (i + 1) (bY h) z2_
   rw [decide_eq_true rfl, if_pos rfl, w64 z2_ z2_, show ((i : Int) + 1) = ((i + 1 : Nat) : Int) from rfl, this, bY hd]
   simp
open Classical in
theorem keepRows_eq (k : Nat) (a b : List (List Int)) (ha : a.length ≤ 1000 ∧ ∀ v ∈ a, v.length ≤ 1000) (hk : 3000 ≤ k) : bU.f k a b = some (decide (a = b)) := by
 have ha1 := ha.1
 unfold bU.f
 by_cases hl : (a.length : Int) = b.length
 rotate_left
 ·
  rw [if_neg hl, decide_eq_false (fun e => hl (by rw [e]))]
 rw [if_pos hl]
 exact keepRows_l0 a b ha z2_ a k 0 rfl z2_
open Classical in
theorem keepOp_eq' (k : Nat) (x y : Ox) (h : opSmall x) (hk : 1001 ≤ k) : raddlekeep_Op.f k x.f0.f0 x.f0.f1 x.f1 x.f2.f0 x.f2.f1 x.f2.f2 x.f3 x.f4 x.f5 x.f6 x.f7 x.f8 y.f0.f0 y.f0.f1 y.f1 y.f2.f0 y.f2.f1 y.f2.f2 y.f3 y.f4 y.f5 y.f6 y.f7 y.f8 = some (decide (x = y)) := by
 obtain ⟨h1, h7, h8⟩ := h
 rw [keepOp_eq k x y z2_ z2_ z2_ ⟨by omega, by omega, by omega⟩]
open Classical in
theorem keepOps_l0 (a b : List Ox) (ha : a.length ≤ 70000 ∧ ∀ v ∈ a, opSmall v) (hl : a.length = b.length) (m : List Ox) : ∀ (k i : Nat), a.drop i = m → m.length + 1001 < k → bR.l0 k a b (i : Int) = some (decide (m = b.drop i)) := by
 have ha1 := ha.1
 induction m with
 | nil =>
  intro k i h hk
  obtain ⟨k, rfl⟩ : ∃ j, k = j + 1 := ⟨k - 1, by omega⟩
  have h1 := cG h
  simp only [bR.l0]
  rw [if_neg z2_, List.drop_eq_nil_iff.2 z2_]; simp
 | cons v m ih =>
  intro k i h hk
  obtain ⟨k, rfl⟩ : ∃ j, k = j + 1 := ⟨k - 1, by omega⟩
  have h1 := dC h
  have hs := ha.2 v (eP h)
  rw [List.length_cons] at hk
  simp only [bR.l0]
  cases hd : b.drop i with
  | nil => have h2 := cG hd; omega
  | cons t n =>
   rw [if_pos z2_, if_pos z2_, if_pos z2_, fS h, fS hd, keepOp_eq' k v t hs z2_, Option.bind_some]
   by_cases z0 : v = t
   rotate_left
   ·
    rw [decide_eq_false z0, if_neg z4_]
    simp [z0]
   subst z0
   have := ih k (i + 1) (bY h) z2_
   rw [decide_eq_true rfl, if_pos rfl, w64 z2_ z2_, show ((i : Int) + 1) = ((i + 1 : Nat) : Int) from rfl, this, bY hd]
   simp
open Classical in
theorem keepOps_eq (k : Nat) (a b : List Ox) (ha : a.length ≤ 70000 ∧ ∀ v ∈ a, opSmall v) (hk : 72000 ≤ k) : bR.f k a b = some (decide (a = b)) := by
 have ha1 := ha.1
 unfold bR.f
 by_cases hl : (a.length : Int) = b.length
 rotate_left
 ·
  rw [if_neg hl, decide_eq_false (fun e => hl (by rw [e]))]
 rw [if_pos hl]
 exact keepOps_l0 a b ha z2_ a k 0 rfl z2_
abbrev keepSnapF (k : Nat) (x y : Sn) : Option Bool := bB.f k x.f0 x.f1.f0 x.f1.f1 x.f1.f2 x.f2 x.f3 x.f4 y.f0 y.f1.f0 y.f1.f1 y.f1.f2 y.f2 y.f3 y.f4
open Classical in
theorem keepSnap_l0 (x y : Sn) (hx : snapSmall x) (hl : x.f2.length = y.f2.length) (m : List (List Rx)) : ∀ (k i : Nat), x.f2.drop i = m → m.length + 72001 < k →
  bB.l0 k (i : Int) x.f0 x.f1.f0 x.f1.f1 x.f1.f2 x.f2 x.f3 x.f4 y.f0 y.f1.f0 y.f1.f1 y.f1.f2 y.f2 y.f3 y.f4 = some (decide (m = y.f2.drop i)) := by
 have ha1 := hx.2.1.1
 induction m with
 | nil =>
  intro k i h hk
  obtain ⟨k, rfl⟩ : ∃ j, k = j + 1 := ⟨k - 1, by omega⟩
  have h1 := cG h
  simp only [bB.l0]
  rw [if_neg z2_, List.drop_eq_nil_iff.2 z2_]; simp
 | cons v m ih =>
  intro k i h hk
  obtain ⟨k, rfl⟩ : ∃ j, k = j + 1 := ⟨k - 1, by omega⟩
  have h1 := dC h
  have hs := hx.2.1.2 v (eP h)
  rw [List.length_cons] at hk
  simp only [bB.l0]
  cases hd : y.f2.drop i with
  | nil => have h2 := cG hd; omega
  | cons t n =>
   rw [if_pos z2_, if_pos z2_, if_pos z2_, eZ h, eZ hd, keepTable_eq k v t hs z2_, Option.bind_some]
   by_cases z0 : v = t
   rotate_left
   ·
    rw [decide_eq_false z0, if_neg z4_]
    simp [z0]
   subst z0
   have := ih k (i + 1) (bY h) z2_
   rw [decide_eq_true rfl, if_pos rfl, w64 z2_ z2_, show ((i : Int) + 1) = ((i + 1 : Nat) : Int) from rfl, this, bY hd]
   simp
theorem gD (k : Nat) (x y : Sn) : bB.j0 (k + 1) true x.f0 x.f1.f0 x.f1.f1 x.f1.f2 x.f2 x.f3 x.f4 y.f0 y.f1.f0 y.f1.f1 y.f1.f2 y.f2 y.f3 y.f4 = some false := by
 simp only [bB.j0, if_pos]
open Classical in
theorem keepSnap_eq (k : Nat) (x y : Sn) (hx : snapSmall x) (hk : 80000 ≤ k) : keepSnapF k x y = some (decide (x = y)) := by
 obtain ⟨k, rfl⟩ : ∃ j, k = j + 1 := ⟨k - 1, by omega⟩
 have h0 := hx.1
 have h2 := hx.2.1.1
 unfold keepSnapF bB.f
 rw [keepInts_eq' (k + 1) x.f0 y.f0 z2_ z2_, Option.bind_some]
 by_cases z0 : x.f0 = y.f0
 rotate_left
 ·
  rw [decide_eq_false z0, if_neg z4_, gD, decide_eq_false (fun e => z0 (by rw [e]))]
 rw [decide_eq_true z0, if_pos rfl, iJ, Option.bind_some]
 by_cases z1 : x.f1 = y.f1
 rotate_left
 ·
  rw [decide_eq_false z1, if_neg z4_, gD, decide_eq_false (fun e => z1 (by rw [e]))]
 rw [decide_eq_true z1, if_pos rfl]
 by_cases zl : x.f2.length = y.f2.length
 rotate_left
 ·
  rw [if_neg (fun e => zl z2_), gD, decide_eq_false (fun e => zl (by rw [e]))]
 rw [if_pos z2_, keepRows_eq (k + 1) x.f3 y.f3 hx.2.2.1 z2_, Option.bind_some]
 by_cases z3 : x.f3 = y.f3
 rotate_left
 ·
  rw [decide_eq_false z3, if_neg z4_, gD, decide_eq_false (fun e => z3 (by rw [e]))]
 rw [decide_eq_true z3, if_pos rfl, keepOps_eq (k + 1) x.f4 y.f4 hx.2.2.2 z2_, Option.bind_some]
 by_cases z4 : x.f4 = y.f4
 rotate_left
 ·
  rw [decide_eq_false z4, Bool.not_false, gD, decide_eq_false (fun e => z4 (by rw [e]))]
 rw [decide_eq_true z4, Bool.not_true]
 simp only [bB.j0]
 rw [if_neg z4_]
 refine (keepSnap_l0 x y hx zl x.f2 k 0 rfl z2_).trans ?_
 congr 1
 by_cases z2 : x.f2 = y.f2
 ·
  rw [decide_eq_true (show x.f2 = y.f2.drop 0 from z2), decide_eq_true (Sn_ext z0 z1 z2 z3 z4)]
 rw [decide_eq_false (show ¬ x.f2 = y.f2.drop 0 from z2), decide_eq_false (fun e => z2 (by rw [e]))]
end Go.Proofs.Ytcbfliajgopdaaa.Snaps
end
section
namespace Go.Proofs.Ytcbfliajgopdaaa.Snaps
open Go.RowKit PAll Plain Ops PrintWords ZipT PrintWords.Kd PrintMore.Kd
set_option linter.unusedVariables false
set_option linter.unusedSimpArgs false
section
variable {α β : Type}
def Ev (g : Nat → Option α) (r : α) : Prop := ∃ K, ∀ k, K ≤ k → g k = some r
theorem Ev.of {g : Nat → Option α} {r : α} (K : Nat) (h : ∀ k, K ≤ k → g k = some r) : Ev g r := ⟨K, h⟩
theorem Ev.ret (r : α) : Ev (fun _ => some r) r := ⟨0, fun _ _ => rfl⟩
theorem Ev.step {g h : Nat → Option α} {r : α} (K : Nat) (e : ∀ k, K ≤ k → g (k + 1) = h k) (H : Ev h r) : Ev g r := by
 obtain ⟨K', h1⟩ := H
 refine ⟨K + K' + 1, fun k hk => ?_⟩
 obtain ⟨j, rfl⟩ : ∃ j, k = j + 1 := ⟨k - 1, by omega⟩
 rw [e j z2_]
 exact h1 j z2_
theorem Ev.same {g h : Nat → Option α} {r : α} (K : Nat) (e : ∀ k, K ≤ k → g k = h k) (H : Ev h r) : Ev g r := by
 obtain ⟨K', h1⟩ := H
 exact ⟨K + K', fun k hk => by rw [e k z2_]; exact h1 k z2_⟩
theorem Ev.bind {g : Nat → Option α} {h : α → Nat → Option β} {a : α} {r : β} (H : Ev g a) (H2 : Ev (h a) r) : Ev (fun k => (g k).bind fun t => h t k) r := by
 obtain ⟨K, h1⟩ := H
 obtain ⟨K', h2⟩ := H2
 exact ⟨K + K', fun k hk => by show (g k).bind _ = _; rw [h1 k z2_, Option.bind_some]; exact h2 k z2_⟩
end
def hvRow (x : Rx) : Bool := decide ((x.f0.size : Int) > 100) || decide ((x.f1.length : Int) > 100) || heavy (x.f2.map fun c => c.f0)
theorem map_snoc {l : List Cl} {i : Nat} {c : Cl} {m : List Cl} (h : l.drop i = c :: m) : (l.take (i + 1)).map (fun c => c.f0) = (l.take i).map (fun c => c.f0) ++ [(⟨c.f0.f0, c.f0.f1, c.f0.f2⟩ : V)] := by
 rw [List.take_add_one, show l[i]? = some c from by rw [← List.head?_drop, h]; rfl]
 simp
theorem heavyT_l1 (t : List Rx) (ht : t.length ≤ 300) (x : Rx) (i : Nat) (n : List Rx) (hd : t.drop i = x :: n) (hx : x.f2.length < 4000000000000) (r : Bool)
  (hr : hvRow x = false → Ev (fun k => bA.l0 k t ((i + 1 : Nat) : Int)) r) (hr2 : hvRow x = true → r = true) (m : List Cl) :
  ∀ j : Nat, x.f2.drop j = m → j ≤ x.f2.length → Ev (fun k => bA.l1 k t (i : Int) ((x.f2.take j).map fun c => c.f0) (j : Int)) r := by
 have hi := dC hd
 induction m with
 | nil =>
  intro j h hj
  have h1 := cG h
  have he : j = x.f2.length := by omega
  subst he
  rw [List.take_length]
  by_cases a1 : (x.f0.size : Int) > 100
  ·
   have : r = true := hr2 (by unfold hvRow; rw [decide_eq_true a1]; rfl)
   subst this
   exact Ev.step 0 (fun k _ => by simp only [bA.l1]; rw [if_pos z2_, if_pos z2_, fE hd, if_neg z2_, if_pos a1]) (Ev.ret true)
  by_cases a2 : (x.f1.length : Int) > 100
  ·
   have : r = true := hr2 (by unfold hvRow; rw [decide_eq_true a2]; simp)
   subst this
   exact Ev.step 0 (fun k _ => by simp only [bA.l1]; rw [if_pos z2_, if_pos z2_, fE hd, if_neg z2_, if_neg a1, if_pos a2]) (Ev.ret true)
  by_cases a3 : heavy (x.f2.map fun c => c.f0) = true
  ·
   have : r = true := hr2 (by unfold hvRow; rw [a3]; simp)
   subst this
   exact Ev.step 60 (fun k hk => by simp only [bA.l1]; rw [if_pos z2_, if_pos z2_, fE hd, if_neg z2_, if_neg a1, if_neg a2, iO k _ hk, Option.bind_some, if_pos a3]) (Ev.ret true)
  refine Ev.step 60 (fun k hk => by simp only [bA.l1]; rw [if_pos z2_, if_pos z2_, fE hd, if_neg z2_, if_neg a1, if_neg a2, iO k _ hk, Option.bind_some, if_neg a3, w64 z2_ z2_]; (try rfl)) (hr ?_)
  unfold hvRow
  rw [decide_eq_false a1, decide_eq_false a2, Bool.eq_false_iff.2 a3]; rfl
 | cons c m ih =>
  intro j h hj
  have h1 := dC h
  refine Ev.step 0 (fun k _ => by simp only [bA.l1]; rw [if_pos z2_, if_pos z2_, fE hd, if_pos z2_, if_pos z2_, if_pos (by rw [List.length_map, List.length_take]; omega), gU h, w64 z2_ z2_, ← map_snoc h]; (try rfl)) (ih (j + 1) (bY h) z2_)
theorem heavyT_l0 (t : List Rx) (ht : t.length ≤ 300) (hc : ∀ x ∈ t, x.f2.length < 4000000000000) (m : List Rx) : ∀ i : Nat, t.drop i = m → Ev (fun k => bA.l0 k t (i : Int)) (m.any hvRow) := by
 induction m with
 | nil =>
  intro i h
  have h1 := cG h
  exact Ev.step 0 (fun k _ => by simp only [bA.l0]; rw [if_neg z2_]) (Ev.ret false)
 | cons x m ih =>
  intro i h
  have h1 := dC h
  refine Ev.step 0 (fun k _ => by simp only [bA.l0]; rw [if_pos z2_]; (try rfl)) (heavyT_l1 t ht x i m h (hc x (eP h)) _ (fun e => ?_) (fun e => ?_) x.f2 0 rfl (Nat.zero_le _))
  ·
   rw [List.any_cons, e, Bool.false_or]; exact ih (i + 1) (bY h)
  ·
   rw [List.any_cons, e]; rfl
def hvTab (t : List Rx) : Bool := decide ((t.length : Int) > 300) || t.any hvRow
theorem heavyT_eq (t : List Rx) (hc : ∀ x ∈ t, x.f2.length < 4000000000000) : Ev (fun k => bA.f k t) (hvTab t) := by
 unfold hvTab
 by_cases h : (t.length : Int) > 300
 ·
  rw [decide_eq_true h]
  exact Ev.same 0 (fun k _ => by unfold bA.f; rw [if_pos h]) (Ev.ret true)
 rw [decide_eq_false h, Bool.false_or]
 exact Ev.same 0 (fun k _ => by unfold bA.f; rw [if_neg h]; (try rfl)) (heavyT_l0 t z2_ hc t 0 rfl)
def sizedSn (x : Sn) : Prop := ∀ t ∈ x.f2, ∀ y ∈ t, y.f2.length < 4000000000000
def hvOpx (x : Ox) : Bool := decide ((x.f1.length : Int) > 30) || decide ((x.f5.size : Int) > 100) || heavy x.f7 || decide ((x.f8.length : Int) > 100)
def hvOps (l : List Ox) : Bool := decide ((l.length : Int) > 300) || l.any hvOpx
theorem heavyO_l0 (l : List Ox) (hl : l.length ≤ 300) (m : List Ox) : ∀ i : Nat, l.drop i = m → Ev (fun k => bS.l0 k l (i : Int)) (m.any hvOpx) := by
 induction m with
 | nil =>
  intro i h
  have h1 := cG h
  exact Ev.step 0 (fun k _ => by simp only [bS.l0]; rw [if_neg z2_]) (Ev.ret false)
 | cons x m ih =>
  intro i h
  have h1 := dC h
  rw [List.any_cons]
  unfold hvOpx
  by_cases a1 : (x.f1.length : Int) > 30
  ·
   rw [decide_eq_true a1]
   exact Ev.step 0 (fun k _ => by simp only [bS.l0]; rw [if_pos z2_, if_pos z2_, fS h, if_pos a1]) (Ev.ret true)
  rw [decide_eq_false a1]
  by_cases a2 : (x.f5.size : Int) > 100
  ·
   rw [decide_eq_true a2]
   exact Ev.step 0 (fun k _ => by simp only [bS.l0]; rw [if_pos z2_, if_pos z2_, fS h, if_neg a1, if_pos a2]) (Ev.ret true)
  rw [decide_eq_false a2]
  by_cases a3 : heavy x.f7 = true
  ·
   rw [a3]
   exact Ev.step 60 (fun k hk => by simp only [bS.l0]; rw [if_pos z2_, if_pos z2_, fS h, if_neg a1, if_neg a2, iO k x.f7 hk, Option.bind_some, if_pos a3]) (Ev.ret true)
  rw [Bool.eq_false_iff.2 a3]
  by_cases a4 : (x.f8.length : Int) > 100
  ·
   rw [decide_eq_true a4]
   exact Ev.step 60 (fun k hk => by simp only [bS.l0]; rw [if_pos z2_, if_pos z2_, fS h, if_neg a1, if_neg a2, iO k x.f7 hk, Option.bind_some, if_neg a3, if_pos a4]) (Ev.ret true)
  rw [decide_eq_false a4]
  exact Ev.step 60 (fun k hk => by simp only [bS.l0]; rw [if_pos z2_, if_pos z2_, fS h, if_neg a1, if_neg a2, iO k x.f7 hk, Option.bind_some, if_neg a3, if_neg a4, w64 z2_ z2_]; (try rfl)) (ih (i + 1) (bY h))
theorem heavyO_eq (l : List Ox) : Ev (fun k => bS.f k l) (hvOps l) := by
 unfold hvOps
 by_cases h : (l.length : Int) > 300
 ·
  rw [decide_eq_true h]
  exact Ev.same 0 (fun k _ => by unfold bS.f; rw [if_pos h]) (Ev.ret true)
 rw [decide_eq_false h, Bool.false_or]
 exact Ev.same 0 (fun k _ => by unfold bS.f; rw [if_neg h]; (try rfl)) (heavyO_l0 l z2_ l 0 rfl)
def hvSn (x : Sn) : Bool := decide ((x.f0.length : Int) > 30) || decide ((x.f2.length : Int) > 20) || decide ((x.f3.length : Int) > 30) || hvOps x.f4 || x.f3.any (fun v => decide ((v.length : Int) > 30)) || x.f2.any hvTab
abbrev heavySnapF (k : Nat) (x : Sn) : Option Bool := aQ.f k x.f0 x.f1.f0 x.f1.f1 x.f1.f2 x.f2 x.f3 x.f4
theorem heavyS_l1 (x : Sn) (hs : sizedSn x) (hl : x.f2.length ≤ 20) (m : List (List Rx)) : ∀ i : Nat, x.f2.drop i = m → Ev (fun k => aQ.l1 k (i : Int) x.f0 x.f1.f0 x.f1.f1 x.f1.f2 x.f2 x.f3 x.f4) (m.any hvTab) := by
 induction m with
 | nil =>
  intro i h
  have h1 := cG h
  exact Ev.step 0 (fun k _ => by simp only [aQ.l1]; rw [if_neg z2_]) (Ev.ret false)
 | cons t m ih =>
  intro i h
  have h1 := dC h
  rw [List.any_cons]
  refine Ev.step 0 (fun k _ => by simp only [aQ.l1]; rw [if_pos z2_, if_pos z2_, eZ h]; (try rfl)) (Ev.bind (heavyT_eq t (hs t (eP h))) ?_)
  cases hv : hvTab t
  ·
   exact Ev.same 0 (fun k _ => by rw [if_neg z4_, w64 z2_ z2_]; (try rfl)) (by rw [Bool.false_or]; exact ih (i + 1) (bY h))
  ·
   exact Ev.same 0 (fun k _ => by rw [if_pos rfl]) (Ev.ret true)
theorem heavyS_l0 (x : Sn) (hs : sizedSn x) (hl : x.f2.length ≤ 20) (hl3 : x.f3.length ≤ 30) (m : List (List Int)) : ∀ i : Nat, x.f3.drop i = m → Ev (fun k => aQ.l0 k (i : Int) x.f0 x.f1.f0 x.f1.f1 x.f1.f2 x.f2 x.f3 x.f4) (m.any (fun v => decide ((v.length : Int) > 30)) || x.f2.any hvTab) := by
 induction m with
 | nil =>
  intro i h
  have h1 := cG h
  exact Ev.step 0 (fun k _ => by simp only [aQ.l0]; rw [if_neg z2_]; (try rfl)) (by simpa using heavyS_l1 x hs hl x.f2 0 rfl)
 | cons v m ih =>
  intro i h
  have h1 := dC h
  rw [List.any_cons]
  by_cases a : (v.length : Int) > 30
  ·
   rw [decide_eq_true a]
   exact Ev.step 0 (fun k _ => by simp only [aQ.l0]; rw [if_pos z2_, if_pos z2_, gO h, if_pos a]) (Ev.ret true)
  rw [decide_eq_false a, Bool.false_or]
  exact Ev.step 0 (fun k _ => by simp only [aQ.l0]; rw [if_pos z2_, if_pos z2_, gO h, if_neg a, w64 z2_ z2_]; (try rfl)) (ih (i + 1) (bY h))
theorem jK (x : Sn) : Ev (fun k => aQ.j0 k true x.f0 x.f1.f0 x.f1.f1 x.f1.f2 x.f2 x.f3 x.f4) true :=
 Ev.step 0 (fun k _ => by simp only [aQ.j0]; rw [if_pos (by trivial)]) (Ev.ret true)
theorem heavyS_eq (x : Sn) (hs : sizedSn x) : Ev (fun k => heavySnapF k x) (hvSn x) := by
 unfold hvSn heavySnapF
 by_cases a1 : (x.f0.length : Int) > 30
 ·
  rw [decide_eq_true a1]
  exact Ev.same 0 (fun k _ => by unfold aQ.f; rw [if_pos a1]; (try rfl)) (by simpa using jK x)
 rw [decide_eq_false a1]
 by_cases a2 : (x.f2.length : Int) > 20
 ·
  rw [decide_eq_true a2]
  exact Ev.same 0 (fun k _ => by unfold aQ.f; rw [if_neg a1, if_pos a2]; (try rfl)) (by simpa using jK x)
 rw [decide_eq_false a2]
 by_cases a3 : (x.f3.length : Int) > 30
 ·
  rw [decide_eq_true a3]
  exact Ev.same 0 (fun k _ => by unfold aQ.f; rw [if_neg a1, if_neg a2, if_pos a3]; (try rfl)) (by simpa using jK x)
 rw [decide_eq_false a3]
 refine Ev.same 0 (fun k _ => by unfold aQ.f; rw [if_neg a1, if_neg a2, if_neg a3]; (try rfl)) (Ev.bind (heavyO_eq x.f4) ?_)
 cases hv : hvOps x.f4
 ·
  exact Ev.step 0 (fun k _ => by simp only [aQ.j0]; rw [if_neg (by simp)]; (try rfl)) (by simpa using heavyS_l0 x hs z2_ z2_ x.f3 0 rfl)
 ·
  simpa using jK x
theorem light_row {x : Rx} (h : hvRow x = false) : x.f0.size ≤ 100 ∧ x.f1.length ≤ 100 ∧ x.f2.length ≤ 40 := by
 unfold hvRow at h
 simp only [Bool.or_eq_false_iff, decide_eq_false_iff_not] at h
 have := heavy_len (l := x.f2.map fun c => c.f0) (by rw [h.2]; decide)
 rw [List.length_map] at this
 omega
theorem light_op' {x : Ox} (h : hvOpx x = false) : x.f1.length ≤ 30 ∧ x.f7.length ≤ 40 ∧ x.f8.length ≤ 100 := by
 unfold hvOpx at h
 simp only [Bool.or_eq_false_iff, decide_eq_false_iff_not] at h
 have := heavy_len (l := x.f7) (by rw [h.1.2]; decide)
 omega
def lightSn (x : Sn) : Prop := x.f0.length ≤ 30 ∧ (x.f2.length ≤ 20 ∧ ∀ t ∈ x.f2, t.length ≤ 300 ∧ ∀ y ∈ t, y.f0.size ≤ 100 ∧ y.f1.length ≤ 100 ∧ y.f2.length ≤ 40) ∧ (x.f3.length ≤ 30 ∧ ∀ v ∈ x.f3, v.length ≤ 30) ∧ x.f4.length ≤ 300 ∧ ∀ y ∈ x.f4, y.f1.length ≤ 30 ∧ y.f7.length ≤ 40 ∧ y.f8.length ≤ 100
theorem light_of {x : Sn} (h : hvSn x = false) : lightSn x := by
 unfold hvSn hvOps at h
 simp only [Bool.or_eq_false_iff, decide_eq_false_iff_not, List.any_eq_false, Bool.not_eq_true] at h
 obtain ⟨⟨⟨⟨⟨h0, h2⟩, h3⟩, h4, h4'⟩, h3'⟩, h2'⟩ := h
 refine ⟨by omega, ⟨by omega, fun t ht => ?_⟩, ⟨by omega, fun v hv => by have := h3' v hv; simp at this; omega⟩, by omega, fun y hy => light_op' (h4' y hy)⟩
 have := h2' t ht
 unfold hvTab at this
 simp only [Bool.or_eq_false_iff, decide_eq_false_iff_not, List.any_eq_false, Bool.not_eq_true] at this
 exact ⟨by omega, fun y hy => light_row (this.2 y hy)⟩
theorem light_small {x : Sn} (h : lightSn x) : snapSmall x := by
 obtain ⟨h0, ⟨h2, h2'⟩, ⟨h3, h3'⟩, h4, h4'⟩ := h
 exact ⟨by omega, ⟨by omega, fun t ht => ⟨by have := (h2' t ht).1; omega, fun y hy => by have := (h2' t ht).2 y hy; exact ⟨by omega, by omega⟩⟩⟩, ⟨by omega, fun v hv => by have := h3' v hv; omega⟩, by omega, fun y hy => by have := h4' y hy; exact ⟨by omega, by omega, by omega⟩⟩
end Go.Proofs.Ytcbfliajgopdaaa.Snaps
end
section
namespace Go.Proofs.Ytcbfliajgopdaaa.Snaps
open Go.RowKit PAll Plain Ops PrintWords ZipT PrintWords.Kd PrintMore.Kd
set_option linter.unusedVariables false
set_option linter.unusedSimpArgs false
theorem iK (d : Dt) : cQ.f d.f0 d.f1 = some (decide (dotFit d)) := by unfold cQ.f; rw [dotFit_eq]; rfl
theorem eM (t : St) : bW.f t.f0 t.f1 t.f2 = some (decide (stampFit t)) := by unfold bW.f; rw [stampFit_eq]; rfl
theorem fB (k : Nat) (l : List Int) (hl : l.length ≤ 1000000) (hk : l.length < k) : bV.f k l = some (decide (numsFit l)) := by unfold bV.f; rw [vecFit_eq k l hl hk]; rfl
theorem iI (c : Cl) : cX.f c.f0.f0 c.f0.f1 c.f0.f2 c.f1.f0 c.f1.f1 c.f1.f2 c.f2.f0 c.f2.f1 = some (decide (valFit c.f0)) := by
 unfold cX.f
 rw [rvalue_eq, Option.bind_some]
 by_cases h : okV c.f0
 ·
  have h' : vOk c.f0.f0 c.f0.f1 c.f0.f2 := h
  rw [decide_eq_true h', if_pos rfl, decide_eq_true (show valFit c.f0 from .inr h)]
 have h' : ¬ vOk c.f0.f0 c.f0.f1 c.f0.f2 := h
 rw [decide_eq_false h', if_neg z4_]
 by_cases h0 : c.f0.f0 = 0
 rotate_left
 ·
  rw [if_neg h0, decide_eq_false (show ¬ valFit c.f0 from fun e => e.elim (fun e => h0 e.1) h)]
 rw [if_pos h0]
 by_cases h1 : c.f0.f1 = 0
 rotate_left
 ·
  rw [if_neg h1, decide_eq_false (show ¬ valFit c.f0 from fun e => e.elim (fun e => h1 e.2.1) h)]
 rw [if_pos h1]
 by_cases h2 : c.f0.f2 = ⟨#[]⟩
 ·
  rw [decide_eq_true (show valFit c.f0 from .inl ⟨h0, h1, h2⟩), (kE _).2 h2]; rfl
 rw [decide_eq_false (show ¬ valFit c.f0 from fun e => e.elim (fun e => h2 e.2.2) h)]
 congr 1
 exact beq_eq_false_iff_ne.2 (fun e => h2 ((kE _).1 e))
abbrev snapFitsF (k : Nat) (x : Sn) : Option Bool := aD.f k x.f0 x.f1.f0 x.f1.f1 x.f1.f2 x.f2 x.f3 x.f4
section
variable (x : Sn) (hx : snapSmall x) (a b : Nat) (y : Rx)
theorem fits_l5 (hy : rowSmall y) (r : Bool) (hr : (∀ c ∈ y.f2, cellFit c) → Ev (fun k => aD.l3 k (a : Int) (wrap64 ((b : Int) + 1)) x.f0 x.f1.f0 x.f1.f1 x.f1.f2 x.f2 x.f3 x.f4) r) (hr2 : (¬ ∀ c ∈ y.f2, cellFit c) → r = false) (m : List Cl) :
  ∀ i : Nat, y.f2.drop i = m → (∀ c ∈ y.f2.take i, cellFit c) → Ev (fun k => aD.l5 k (a : Int) (b : Int) (i : Int) x.f0 x.f1.f0 x.f1.f1 x.f1.f2 x.f2 x.f3 x.f4 y.f0 y.f1 y.f2) r := by
 have hy2 := hy.2
 induction m with
 | nil =>
  intro i h ht
  have h1 := cG h
  rw [List.take_of_length_le h1] at ht
  exact Ev.step 0 (fun k _ => by simp only [aD.l5]; rw [if_neg z2_]; (try rfl)) (hr ht)
 | cons c m ih =>
  intro i h ht
  have h1 := dC h
  have hc := eP h
  by_cases z0 : valFit c.f0
  rotate_left
  ·
   have : r = false := hr2 (fun e => z0 (e c hc).1.1)
   subst this
   exact Ev.step 0 (fun k _ => by simp only [aD.l5]; rw [if_pos z2_, if_pos z2_, gU h, iI, Option.bind_some, decide_eq_false z0, if_neg z4_]) (Ev.ret false)
  by_cases z1 : stampFit c.f1
  rotate_left
  ·
   have : r = false := hr2 (fun e => z1 (e c hc).1.2)
   subst this
   exact Ev.step 0 (fun k _ => by simp only [aD.l5]; rw [if_pos z2_, if_pos z2_, gU h, iI, Option.bind_some, decide_eq_true z0, if_pos rfl, eM, Option.bind_some, decide_eq_false z1, if_neg z4_]) (Ev.ret false)
  by_cases z2 : dotFit c.f2
  rotate_left
  ·
   have : r = false := hr2 (fun e => z2 (e c hc).2)
   subst this
   exact Ev.step 0 (fun k _ => by simp only [aD.l5]; rw [if_pos z2_, if_pos z2_, gU h, iI, Option.bind_some, decide_eq_true z0, if_pos rfl, eM, Option.bind_some, decide_eq_true z1, if_pos rfl, iK, Option.bind_some, decide_eq_false z2, if_neg z4_]) (Ev.ret false)
  refine Ev.step 0 (fun k _ => by simp only [aD.l5]; rw [if_pos z2_, if_pos z2_, gU h, iI, Option.bind_some, decide_eq_true z0, if_pos rfl, eM, Option.bind_some, decide_eq_true z1, if_pos rfl, iK, Option.bind_some, decide_eq_true z2, if_pos rfl, w64 z2_ z2_]; (try rfl)) (ih (i + 1) (bY h) (fun d hd => ?_))
  rw [List.take_add_one, show y.f2[i]? = some c from by rw [← List.head?_drop, h]; rfl] at hd
  rcases List.mem_append.1 hd with e | e
  ·
   exact ht d e
  ·
   simp at e; subst e; exact ⟨⟨z0, z1⟩, z2⟩
theorem fits_l4 (hy : rowSmall y) (r : Bool) (hr : (∀ d ∈ y.f1, dotFit d) → (∀ c ∈ y.f2, cellFit c) → Ev (fun k => aD.l3 k (a : Int) (wrap64 ((b : Int) + 1)) x.f0 x.f1.f0 x.f1.f1 x.f1.f2 x.f2 x.f3 x.f4) r) (hr2 : ¬ ((∀ d ∈ y.f1, dotFit d) ∧ ∀ c ∈ y.f2, cellFit c) → r = false) (m : List Dt) :
  ∀ i : Nat, y.f1.drop i = m → (∀ d ∈ y.f1.take i, dotFit d) → Ev (fun k => aD.l4 k (a : Int) (b : Int) (i : Int) x.f0 x.f1.f0 x.f1.f1 x.f1.f2 x.f2 x.f3 x.f4 y.f0 y.f1 y.f2) r := by
 have hy1 := hy.1
 induction m with
 | nil =>
  intro i h ht
  have h1 := cG h
  rw [List.take_of_length_le h1] at ht
  exact Ev.step 0 (fun k _ => by simp only [aD.l4]; rw [if_neg z2_]; (try rfl)) (fits_l5 x a b y hy r (hr ht) (fun e => hr2 (fun e2 => e e2.2)) y.f2 0 rfl (fun c hc => by cases hc))
 | cons c m ih =>
  intro i h ht
  have h1 := dC h
  have hc := eP h
  by_cases z2 : dotFit c
  rotate_left
  ·
   have : r = false := hr2 (fun e => z2 (e.1 c hc))
   subst this
   exact Ev.step 0 (fun k _ => by simp only [aD.l4]; rw [if_pos z2_, if_pos z2_, iV h, iK, Option.bind_some, decide_eq_false z2, if_neg z4_]) (Ev.ret false)
  refine Ev.step 0 (fun k _ => by simp only [aD.l4]; rw [if_pos z2_, if_pos z2_, iV h, iK, Option.bind_some, decide_eq_true z2, if_pos rfl, w64 z2_ z2_]; (try rfl)) (ih (i + 1) (bY h) (fun d hd => ?_))
  rw [List.take_add_one, show y.f1[i]? = some c from by rw [← List.head?_drop, h]; rfl] at hd
  rcases List.mem_append.1 hd with e | e
  ·
   exact ht d e
  ·
   simp at e; subst e; exact z2
theorem fitN1 {n : Nat} : fitN 1 (n : Int) ↔ n ≤ 255 := by unfold fitN; constructor <;> intro h <;> simp at * <;> omega
theorem fitN2 {n : Nat} : fitN 2 (n : Int) ↔ n ≤ 65535 := by unfold fitN; constructor <;> intro h <;> simp at * <;> omega
theorem fits_j5 (r : Bool) (hr : r = false) (k0 : ByteArray) (l1 : List Dt) (l2 : List Cl) : Ev (fun k => aD.j5 k (a : Int) (b : Int) true x.f0 x.f1.f0 x.f1.f1 x.f1.f2 x.f2 x.f3 x.f4 k0 l1 l2) r := by
 subst hr
 exact Ev.step 0 (fun k _ => by simp only [aD.j5]; rw [if_pos (by trivial)]) (Ev.ret false)
include hx
theorem fits_l3 (t : List Rx) (n : List (List Rx)) (ha : x.f2.drop a = t :: n) (r : Bool) (hr : (∀ y ∈ t, rowxFit y) → Ev (fun k => aD.l2 k (wrap64 ((a : Int) + 1)) x.f0 x.f1.f0 x.f1.f1 x.f1.f2 x.f2 x.f3 x.f4) r) (hr2 : (¬ ∀ y ∈ t, rowxFit y) → r = false) (m : List Rx) :
  ∀ i : Nat, t.drop i = m → (∀ y ∈ t.take i, rowxFit y) → Ev (fun k => aD.l3 k (a : Int) (i : Int) x.f0 x.f1.f0 x.f1.f1 x.f1.f2 x.f2 x.f3 x.f4) r := by
 have hal := dC ha
 have hts := hx.2.1.2 t (eP ha)
 have ht1 := hts.1
 induction m with
 | nil =>
  intro i h ht
  have h1 := cG h
  rw [List.take_of_length_le h1] at ht
  exact Ev.step 0 (fun k _ => by simp only [aD.l3]; rw [if_pos z2_, if_pos z2_, eZ ha, if_neg z2_]; (try rfl)) (hr ht)
 | cons y m ih =>
  intro i h ht
  have h1 := dC h
  have hy := hts.2 y (eP h)
  have hym := eP h
  by_cases z0 : (y.f0.size : Int) > 24
  ·
   have : r = false := hr2 (fun e => by have := (e y hym).1.1; omega)
   exact Ev.step 0 (fun k _ => by simp only [aD.l3]; rw [if_pos z2_, if_pos z2_, eZ ha, if_pos z2_, if_pos z2_, fE h, if_pos z0]; (try rfl)) (fits_j5 x a i r this _ _ _)
  by_cases z1 : (y.f1.length : Int) > 255
  ·
   have : r = false := hr2 (fun e => by have := fitN1.1 (e y hym).1.2.1; omega)
   exact Ev.step 0 (fun k _ => by simp only [aD.l3]; rw [if_pos z2_, if_pos z2_, eZ ha, if_pos z2_, if_pos z2_, fE h, if_neg z0, if_pos z1]; (try rfl)) (fits_j5 x a i r this _ _ _)
  by_cases z2 : (y.f2.length : Int) > 255
  ·
   have : r = false := hr2 (fun e => by have := fitN1.1 (e y hym).2.1; omega)
   exact Ev.step 0 (fun k _ => by simp only [aD.l3]; rw [if_pos z2_, if_pos z2_, eZ ha, if_pos z2_, if_pos z2_, fE h, if_neg z0, if_neg z1, decide_eq_true z2]; (try rfl)) (fits_j5 x a i r this _ _ _)
  refine Ev.step 0 (fun k _ => by simp only [aD.l3]; rw [if_pos z2_, if_pos z2_, eZ ha, if_pos z2_, if_pos z2_, fE h, if_neg z0, if_neg z1, decide_eq_false z2]; (try rfl)) ?_
  refine Ev.step 0 (fun k _ => by simp only [aD.j5]; rw [if_neg (by simp)]; (try rfl)) (fits_l4 x a i y hy r (fun e1 e2 => ?_) (fun e => hr2 (fun e3 => e ⟨(e3 y hym).1.2.2, (e3 y hym).2.2⟩)) y.f1 0 rfl (fun d hd => by cases hd))
  refine Ev.same 0 (fun k _ => by rw [w64 z2_ z2_]; (try rfl)) (ih (i + 1) (bY h) (fun d hd => ?_))
  rw [List.take_add_one, show t[i]? = some y from by rw [← List.head?_drop, h]; rfl] at hd
  rcases List.mem_append.1 hd with e | e
  ·
   exact ht d e
  ·
   simp at e; subst e; exact ⟨⟨by omega, fitN1.2 z2_, e1⟩, fitN1.2 z2_, e2⟩
theorem fits_l2 (m : List (List Rx)) : ∀ i : Nat, x.f2.drop i = m → (∀ t ∈ x.f2.take i, manyFit 2 rowxFit t) → Ev (fun k => aD.l2 k (i : Int) x.f0 x.f1.f0 x.f1.f1 x.f1.f2 x.f2 x.f3 x.f4) (decide (∀ t ∈ x.f2, manyFit 2 rowxFit t)) := by
 have hx2 := hx.2.1.1
 induction m with
 | nil =>
  intro i h ht
  have h1 := cG h
  rw [List.take_of_length_le h1] at ht
  rw [decide_eq_true ht]
  exact Ev.step 0 (fun k _ => by simp only [aD.l2]; rw [if_neg z2_]) (Ev.ret true)
 | cons t m ih =>
  intro i h ht
  have h1 := dC h
  have hm := eP h
  by_cases z0 : (t.length : Int) > 65535
  ·
   rw [decide_eq_false (fun e => by have := fitN2.1 (e t hm).1; omega)]
   exact Ev.step 0 (fun k _ => by simp only [aD.l2]; rw [if_pos z2_, if_pos z2_, eZ h, if_pos z0]) (Ev.ret false)
  refine Ev.step 0 (fun k _ => by simp only [aD.l2]; rw [if_pos z2_, if_pos z2_, eZ h, if_neg z0]; (try rfl)) (fits_l3 x hx i t m h _ (fun e => ?_) (fun e => decide_eq_false (fun e2 => e (e2 t hm).2)) t 0 rfl (fun d hd => by cases hd))
  refine Ev.same 0 (fun k _ => by rw [w64 z2_ z2_]; (try rfl)) (ih (i + 1) (bY h) (fun d hd => ?_))
  rw [List.take_add_one, show x.f2[i]? = some t from by rw [← List.head?_drop, h]; rfl] at hd
  rcases List.mem_append.1 hd with e3 | e3
  ·
   exact ht d e3
  ·
   simp at e3; subst e3; exact ⟨fitN2.2 z2_, e⟩
theorem fits_l1 (m : List Ox) : ∀ i : Nat, x.f4.drop i = m → (∀ t ∈ x.f4.take i, opFit t) → Ev (fun k => aD.l1 k (i : Int) x.f0 x.f1.f0 x.f1.f1 x.f1.f2 x.f2 x.f3 x.f4) (decide ((∀ t ∈ x.f4, opFit t) ∧ ∀ t ∈ x.f2, manyFit 2 rowxFit t)) := by
 have hx4 := hx.2.2.2.1
 induction m with
 | nil =>
  intro i h ht
  have h1 := cG h
  rw [List.take_of_length_le h1] at ht
  refine Ev.step 0 (fun k _ => by simp only [aD.l1]; rw [if_neg z2_]; (try rfl)) ?_
  rw [show decide ((∀ t ∈ x.f4, opFit t) ∧ ∀ t ∈ x.f2, manyFit 2 rowxFit t) = decide (∀ t ∈ x.f2, manyFit 2 rowxFit t) from decide_eq_decide.2 ⟨fun e => e.2, fun e => ⟨ht, e⟩⟩]
  exact fits_l2 x hx x.f2 0 rfl (fun d hd => by cases hd)
 | cons t m ih =>
  intro i h ht
  have h1 := dC h
  have hm := eP h
  have hs := hx.2.2.2.2 t hm
  by_cases z0 : opFit t
  rotate_left
  ·
   rw [decide_eq_false (fun e => z0 (e.1 t hm))]
   exact Ev.step 0 (fun k _ => by simp only [aD.l1]; rw [if_pos z2_, if_pos z2_, fS h, opFits_eq t hs, Option.bind_some, decide_eq_false z0, if_neg z4_]) (Ev.ret false)
  refine Ev.step 0 (fun k _ => by simp only [aD.l1]; rw [if_pos z2_, if_pos z2_, fS h, opFits_eq t hs, Option.bind_some, decide_eq_true z0, if_pos rfl, w64 z2_ z2_]; (try rfl)) (ih (i + 1) (bY h) (fun d hd => ?_))
  rw [List.take_add_one, show x.f4[i]? = some t from by rw [← List.head?_drop, h]; rfl] at hd
  rcases List.mem_append.1 hd with e3 | e3
  ·
   exact ht d e3
  ·
   simp at e3; subst e3; exact z0
theorem fits_l0 (m : List (List Int)) : ∀ i : Nat, x.f3.drop i = m → (∀ t ∈ x.f3.take i, numsFit t) → Ev (fun k => aD.l0 k (i : Int) x.f0 x.f1.f0 x.f1.f1 x.f1.f2 x.f2 x.f3 x.f4) (decide ((∀ t ∈ x.f3, numsFit t) ∧ (∀ t ∈ x.f4, opFit t) ∧ ∀ t ∈ x.f2, manyFit 2 rowxFit t)) := by
 have hx3 := hx.2.2.1.1
 induction m with
 | nil =>
  intro i h ht
  have h1 := cG h
  rw [List.take_of_length_le h1] at ht
  refine Ev.step 0 (fun k _ => by simp only [aD.l0]; rw [if_neg z2_]; (try rfl)) ?_
  rw [show decide ((∀ t ∈ x.f3, numsFit t) ∧ (∀ t ∈ x.f4, opFit t) ∧ ∀ t ∈ x.f2, manyFit 2 rowxFit t) = decide ((∀ t ∈ x.f4, opFit t) ∧ ∀ t ∈ x.f2, manyFit 2 rowxFit t) from decide_eq_decide.2 ⟨fun e => e.2, fun e => ⟨ht, e⟩⟩]
  exact fits_l1 x hx x.f4 0 rfl (fun d hd => by cases hd)
 | cons t m ih =>
  intro i h ht
  have h1 := dC h
  have hm := eP h
  have hs := hx.2.2.1.2 t hm
  by_cases z0 : numsFit t
  rotate_left
  ·
   rw [decide_eq_false (fun e => z0 (e.1 t hm))]
   exact Ev.step 2000 (fun k hk => by simp only [aD.l0]; rw [if_pos z2_, if_pos z2_, gO h, fB k t z2_ z2_, Option.bind_some, decide_eq_false z0, if_neg z4_]) (Ev.ret false)
  refine Ev.step 2000 (fun k hk => by simp only [aD.l0]; rw [if_pos z2_, if_pos z2_, gO h, fB k t z2_ z2_, Option.bind_some, decide_eq_true z0, if_pos rfl, w64 z2_ z2_]; (try rfl)) (ih (i + 1) (bY h) (fun d hd => ?_))
  rw [List.take_add_one, show x.f3[i]? = some t from by rw [← List.head?_drop, h]; rfl] at hd
  rcases List.mem_append.1 hd with e3 | e3
  ·
   exact ht d e3
  ·
   simp at e3; subst e3; exact z0
omit hx in
theorem fits_j0 : Ev (fun k => aD.j0 k true x.f0 x.f1.f0 x.f1.f1 x.f1.f2 x.f2 x.f3 x.f4) false :=
 Ev.step 0 (fun k _ => by simp only [aD.j0]; rw [if_pos (by trivial)]) (Ev.ret false)
theorem snapFits_eq : Ev (fun k => snapFitsF k x) (decide (snFit x)) := by
 have hx0 := hx.1
 by_cases z0 : numsFit x.f0
 rotate_left
 ·
  rw [decide_eq_false (fun e => z0 e.1.1.1.1)]
  exact Ev.same 2000 (fun k hk => by unfold snapFitsF aD.f; rw [fB k _ z2_ z2_, Option.bind_some, decide_eq_false z0, if_neg z4_]; (try rfl)) (fits_j0 x)
 by_cases z1 : stampFit x.f1
 rotate_left
 ·
  rw [decide_eq_false (fun e => z1 e.1.1.1.2)]
  exact Ev.same 2000 (fun k hk => by unfold snapFitsF aD.f; rw [fB k _ z2_ z2_, Option.bind_some, decide_eq_true z0, if_pos rfl, eM, Option.bind_some, decide_eq_false z1, if_neg z4_]; (try rfl)) (fits_j0 x)
 by_cases z2 : (x.f2.length : Int) > 255
 ·
  rw [decide_eq_false (fun e => by have := fitN1.1 e.1.1.2.1; omega)]
  exact Ev.same 2000 (fun k hk => by unfold snapFitsF aD.f; rw [fB k _ z2_ z2_, Option.bind_some, decide_eq_true z0, if_pos rfl, eM, Option.bind_some, decide_eq_true z1, if_pos rfl, if_pos z2]; (try rfl)) (fits_j0 x)
 by_cases z3 : (x.f3.length : Int) > 5
 ·
  rw [decide_eq_false (fun e => by have := e.1.2.1; omega)]
  exact Ev.same 2000 (fun k hk => by unfold snapFitsF aD.f; rw [fB k _ z2_ z2_, Option.bind_some, decide_eq_true z0, if_pos rfl, eM, Option.bind_some, decide_eq_true z1, if_pos rfl, if_neg z2, if_pos z3]; (try rfl)) (fits_j0 x)
 by_cases z4 : (x.f4.length : Int) > 65535
 ·
  rw [decide_eq_false (fun e => by have := fitN2.1 e.2.1; omega)]
  exact Ev.same 2000 (fun k hk => by unfold snapFitsF aD.f; rw [fB k _ z2_ z2_, Option.bind_some, decide_eq_true z0, if_pos rfl, eM, Option.bind_some, decide_eq_true z1, if_pos rfl, if_neg z2, if_neg z3, decide_eq_true z4]; (try rfl)) (fits_j0 x)
 refine Ev.same 2000 (fun k hk => by unfold snapFitsF aD.f; rw [fB k _ z2_ z2_, Option.bind_some, decide_eq_true z0, if_pos rfl, eM, Option.bind_some, decide_eq_true z1, if_pos rfl, if_neg z2, if_neg z3, decide_eq_false z4]; (try rfl)) ?_
 refine Ev.step 0 (fun k _ => by simp only [aD.j0]; rw [if_neg (by simp)]; (try rfl)) ?_
 rw [show decide (snFit x) = decide ((∀ t ∈ x.f3, numsFit t) ∧ (∀ t ∈ x.f4, opFit t) ∧ ∀ t ∈ x.f2, manyFit 2 rowxFit t) from decide_eq_decide.2 ⟨fun e => ⟨e.1.2.2, e.2.2, e.1.1.2.2⟩, fun e => ⟨⟨⟨⟨z0, z1⟩, fitN1.2 z2_, e.2.2⟩, by omega, e.1⟩, fitN2.2 z2_, e.2.1⟩⟩]
 exact fits_l0 x hx x.f3 0 rfl (fun d hd => by cases hd)
end
end Go.Proofs.Ytcbfliajgopdaaa.Snaps
end
section
namespace Go.Proofs.Ytcbfliajgopdaaa.Snaps
open Go.RowKit PAll Plain Ops PrintWords ZipT PrintWords.Kd PrintMore.Kd
set_option linter.unusedVariables false
set_option linter.unusedSimpArgs false
theorem snap_put {x : Sn} (h : snFit x) (c : List Int) : rSnap (snB x ++ c) (0, false) = (x, (((snB x).length : Int), false)) := by
 have h1 := Reads.snap.put [] c x h
 rw [List.nil_append] at h1
 refine Eq.trans h1 ?_
 simp
theorem snB_cut {x : Sn} (hx : snFit x) (n : Nat) (hn : n < (snB x).length) (hl : (snB x).length ≤ 65535) : sReadSnap ((snB x).take n) = (zSnap, 3) := by
 have hb := jD hx
 have hln : ((snB x).take n).length = n := by rw [List.length_take]; omega
 rw [readSnap_eq (hb.take n) z2_, if_neg]
 intro h
 have h2 : (rSnap ((snB x).take n) (0, false)).2.2 = false := by rw [h]
 have h1 : (rSnap ((snB x).take n) (0, false)).2.1 = (((snB x).take n).length : Int) := by rw [h]
 obtain ⟨a, _, c⟩ := Reads.snap.got _ (0, false) (hb.take n) (Int.le_refl _) (by show (0 : Int) ≤ _; omega) h2
 rw [h1] at c
 have e : sub ((snB x).take n) (0 : Int).toNat ((((snB x).take n).length : Int)).toNat = (snB x).take n := by
  rw [Int.toNat_natCast]; show (((snB x).take n).take _).drop 0 = _; rw [List.take_length]; rfl
 have c' := c.trans e
 generalize (rSnap ((snB x).take n) (0, false)).1 = z at a c'
 have p := snap_put a ((snB x).drop n)
 rw [c', List.take_append_drop] at p
 have q := snap_put hx []
 rw [List.append_nil] at q
 have e1 := congrArg (fun z => z.2.1) (p.symm.trans q)
 simp only [hln] at e1
 omega
theorem snB_more {x : Sn} (hx : snFit x) (m : Int) (hm : 0 ≤ m ∧ m ≤ 255) : sReadSnap (snB x ++ [m]) = (zSnap, 3) := by
 have hb : Bytes (snB x ++ [m]) := (jD hx).append (Bytes.cons hm Bytes.nil)
 by_cases hl : (snB x ++ [m]).length ≤ 65535
 rotate_left
 ·
  unfold sReadSnap
  rw [if_pos z2_]
 rw [readSnap_eq hb hl, snap_put hx [m], if_neg]
 intro h
 have e1 := congrArg (fun z => z.1) h
 simp only [List.length_append, List.length_singleton] at e1
 omega
theorem snB_pos (x : Sn) : 1 ≤ (snB x).length := by
 unfold snB numsB
 simp only [List.length_append, dL]
 omega
theorem snapBytes_f (x : Sn) (h : snapSmall x) : dX.f x.f0 x.f1.f0 x.f1.f1 x.f1.f2 x.f2 x.f3 x.f4 = some (sSnapBytes x) := if_pos h
theorem readSnap_f (l : List Int) (hb : Bytes l) (hl : l.length ≤ 1000000) (x : Sn) (e : Int) (h : sReadSnap l = (x, e)) : cR.f l = some (x.f0, x.f1.f0, x.f1.f1, x.f1.f2, x.f2, x.f3, x.f4, e) := by
 unfold cR.f
 rw [if_pos ⟨hb, hl⟩, h]
open Classical in
theorem all_of (x : Sn) (hs : sizedSn x) : ∃ K, ∀ k, K ≤ k → heavySnapF k x = some (hvSn x) ∧ (hvSn x = false → snapSmall x ∧ snapFitsF k x = some (decide (snFit x)) ∧ ∀ y : Sn, keepSnapF k x y = some (decide (x = y))) := by
 obtain ⟨K1, e1⟩ := heavyS_eq x hs
 cases hv : hvSn x
 ·
  rw [hv] at e1
  have hsm := light_small (light_of hv)
  obtain ⟨K3, e3⟩ := snapFits_eq x hsm
  exact ⟨K1 + K3 + 80000, fun k hk => ⟨e1 k z2_, fun _ => ⟨hsm, e3 k z2_, fun y => keepSnap_eq k x y hsm z2_⟩⟩⟩
 ·
  rw [hv] at e1
  exact ⟨K1, fun k hk => ⟨e1 k hk, fun h => by cases h⟩⟩
end Go.Proofs.Ytcbfliajgopdaaa.Snaps
end
section
namespace Go.Proofs.Ytcbfliajgopdaaa.Pure
open Go.RowKit PAll PrintWords PrintLast Plain Ops Snaps ZipT PrintWords.Kd PrintMore.Kd
set_option linter.unusedVariables false
set_option linter.unusedSimpArgs false
open Classical in
theorem SnapUnlike : aA.Pure := by
 intro x y c m hx hy hc hm
 have hsx : sizedSn x := fun t ht z hz => by
  have h2 : aA.WF80 z := (hx.2.2.1.2 t ht).2 z hz
  have := h2.2.2.1
  omega
 have hsy : sizedSn y := fun t ht z hz => by
  have h2 : aA.WF80 z := (hy.2.2.1.2 t ht).2 z hz
  have := h2.2.2.1
  omega
 obtain ⟨K, hK⟩ := all_of x hsx
 obtain ⟨L, hL⟩ := all_of y hsy
 have w1 : bZ.f = some true := rfl
 refine ⟨K + L + 150000 + 3, ?_⟩
 obtain ⟨ex1, ex2⟩ := hK (K + L + 150000 + 3) z2_
 obtain ⟨ey1, ey2⟩ := hL (K + L + 150000 + 3) z2_
 unfold heavySnapF at ex1 ey1
 unfold snapFitsF at ex2 ey2
 have hT : aA.j0 (K + L + 150000 + 3) c m true x.f0 x.f1.f0 x.f1.f1 x.f1.f2 x.f2 x.f3 x.f4 y.f0 y.f1.f0 y.f1.f1 y.f1.f2 y.f2 y.f3 y.f4 = some true := by
  show aA.j0 (K + L + 150000 + 2 + 1) c m true _ _ _ _ _ _ _ _ _ _ _ _ _ _ = _
  simp only [aA.j0, if_true]
 unfold aA.f
 rw [ex1, Option.bind_some]
 cases hvx : hvSn x
 rotate_left
 ·
  rw [if_pos rfl]; exact hT
 rw [if_neg z4_, ey1, Option.bind_some]
 cases hvy : hvSn y
 rotate_left
 ·
  rw [if_pos rfl]; exact hT
 obtain ⟨smx, fx1, _⟩ := ex2 hvx
 obtain ⟨smy, fy1, _⟩ := ey2 hvy
 rw [if_neg z4_, fx1, Option.bind_some]
 by_cases fx : snFit x
 rotate_left
 ·
  rw [decide_eq_false fx, if_neg z4_]; exact hT
 rw [decide_eq_true fx, if_pos rfl, fy1, Option.bind_some]
 by_cases fy : snFit y
 rotate_left
 ·
  rw [decide_eq_false fy]; exact hT
 rw [decide_eq_true fy]
 clear hT
 show aA.j0 (K + L + 150000 + 2 + 1) c m false _ _ _ _ _ _ _ _ _ _ _ _ _ _ = _
 simp only [aA.j0]
 rw [if_neg z4_, snapBytes_f x smx, Option.bind_some, snapBytes_f y smy, Option.bind_some, gK, gK, if_pos fx, if_pos fy]
 by_cases lx : (snB x).length > 65535
 ·
  rw [if_pos lx, if_neg z4_]
  show aA.j1 (K + L + 150000 + 1 + 1) _ _ _ _ _ _ _ _ _ _ _ _ _ _ _ _ _ _ _ _ _ = _
  by_cases ly : (snB y).length > 65535
  ·
   rw [if_pos ly]; simp [aA.j1, w1]
  rw [if_neg ly]; simp [aA.j1, w1]
 rw [if_neg lx, if_pos (by trivial)]
 show aA.j1 (K + L + 150000 + 1 + 1) _ _ _ _ _ _ _ _ _ _ _ _ _ _ _ _ _ _ _ _ _ = _
 by_cases ly : (snB y).length > 65535
 ·
  rw [if_pos ly]; simp [aA.j1, w1]
 rw [if_neg ly]
 have hpos := snB_pos x
 have hb := jD fx
 obtain ⟨_, _, s1⟩ := (hK (K + L + 150000 + 1) z2_).2 hvx
 unfold keepSnapF at s1
 dsimp only
 simp only [aA.j1]
 rw [show ((0 : Int) != 0) = false from rfl, if_neg z4_, if_neg z2_, Keep.same_eq _ _ _ z2_ z2_, Option.bind_some, s1 y, Option.bind_some]
 rw [show (decide (snB x = snB y) != decide (x = y)) = false by rw [decide_eq_decide.2 (snB_inj fx fy)]; cases decide (x = y) <;> rfl]
 show aA.j2 (K + L + 150000 + 1) _ _ _ _ = _
 simp only [aA.j2]
 have hu : IntKind.u64.wrap ((snB x).length : Int) = (snB x).length := by rw [u64_mod]; omega
 have hm0 := Int.emod_nonneg (IntKind.u64.wrap c) (show ((snB x).length : Int) ≠ 0 by omega)
 have hm1 := Int.emod_lt_of_pos (IntKind.u64.wrap c) (show (0 : Int) < (snB x).length by omega)
 have hc0 : 0 ≤ IntKind.u64.wrap c := by rw [u64_mod]; omega
 rw [if_neg z4_, hu, if_neg z2_, Int.tmod_eq_emod_of_nonneg hc0, w64 z2_ z2_, if_pos hm0, if_pos z2_]
 have hm' : 0 ≤ m ∧ m ≤ 255 := wf_u8 hm
 rw [readSnap_f _ (hb.take _) (by rw [List.length_take]; omega) zSnap 3 (snB_cut fx _ z2_ z2_), Option.bind_some, Keep.twin_eq _ z2_, Option.bind_some, if_pos z2_,
  readSnap_f _ (hb.append (Bytes.cons hm' Bytes.nil)) (by simp only [List.length_append, List.length_singleton]; omega) zSnap 3 (snB_more fx m hm'), Option.bind_some]
 dsimp only
 rw [if_pos (by trivial), if_pos (by trivial)]
 have hz : keepSnapF (K + L + 150000) zSnap zSnap = some true := (keepSnap_eq _ zSnap zSnap ⟨by decide, ⟨by decide, fun _ h => by cases h⟩, ⟨by decide, fun _ h => by cases h⟩, by decide, fun _ h => by cases h⟩ z2_).trans (by rw [decide_eq_true rfl])
 refine (congrArg (fun q => Option.bind q _) hz).trans ?_
 rw [Option.bind_some, if_pos rfl, w1]; rfl
end Go.Proofs.Ytcbfliajgopdaaa.Pure
end
