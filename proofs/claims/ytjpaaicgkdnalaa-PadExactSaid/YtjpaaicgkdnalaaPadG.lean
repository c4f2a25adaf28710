/-
  pad's functions, what becomes of the pad being named; and the set's own 'wakes'.
  Conditions: none.
-/
import Derived.Test.YtjpaaicgkdnalaaPadF
namespace Go.Proofs.Ytjpaaicgkdnalaa.Pads
open Go.RowKit Go.Proofs.YtjpaaicgkdnalaaW.PrintWords Go.Proofs.YtjpaaicgkdnalaaW.PrintLast Go.Proofs.YtjpaaicgkdnalaaW.PrintMore Go.Proofs.Ytjpaaicgkdnalaa.Sep
set_option linter.unusedVariables false
set_option linter.unusedSimpArgs false
section
variable {w : World} {g : Nat} {p q : Pd} {F : List Part} {x : Int}
theorem append_to (hS : Sp w (PadP g p :: F)) (hok : p.Ok) (A1 : Option Addr) (c1 : Nat) (b : List Int) (hbc : b.length ≤ c1) (hbl : b.length ≤ 140737488351232) (hC : Kd.C (Kd.int .u8) w A1 b.length b) (he : p.append b = (q, x)) :
    Calls Try.prog 13 #[.pointer (some ⟨g, 0, none⟩), .slice A1 b.length c1] w fun e w' => e = .returned (.int .i64 x) ∧ Sp w' (PadP g q :: F) := by
  have h := append_calls hS hok A1 c1 b hbc hbl hC
  rw [he] at h
  exact h
theorem sync_to (hS : Sp w (PadP g p :: F)) (hok : p.Ok) (he : p.sync = (q, x)) :
    Calls Try.prog 12 #[.pointer (some ⟨g, 0, none⟩)] w fun e w' => e = .returned (.int .i64 x) ∧ Sp w' (PadP g q :: F) := by
  have h := sync_calls hS hok
  rw [he] at h
  exact h
theorem trim_to (hS : Sp w (PadP g p :: F)) (hok : p.Ok) (n : Int) (he : p.trim n = (q, x)) :
    Calls Try.prog 25 #[.pointer (some ⟨g, 0, none⟩), .int .i64 n] w fun e w' => e = .returned (.int .i64 x) ∧ Sp w' (PadP g q :: F) := by
  have h := trim_calls hS hok n
  rw [he] at h
  exact h
theorem cut_to (hS : Sp w (PadP g p :: F)) (hok : p.Ok) (n : Int) (he : p.cut n = (q, x)) :
    Calls Try.prog 26 #[.pointer (some ⟨g, 0, none⟩), .int .i64 n] w fun e w' => e = .returned (.int .i64 x) ∧ Sp w' (PadP g q :: F) := by
  have h := cut_calls hS hok n
  rw [he] at h
  exact h
theorem read_to (hS : Sp w (PadP g p :: F)) (hok : p.Ok) (i : Int) {b : List Int} (he : p.read i = (b, x)) :
    Calls Try.prog 15 #[.pointer (some ⟨g, 0, none⟩), .int .i64 i] w fun e w' => ∃ v, e = .returned (.tuple #[v, .int .i64 x]) ∧ Sp w' (Row (Kd.int .u8) 5 v b :: PadP g p :: F) := by
  have h := read_calls hS hok i
  rw [he] at h
  exact h
/-- A crash, whether it is on or off. -/
theorem crash_to {K : Part} (hS : Sp w (PadP g p :: K :: F)) (hok : p.Ok) (A1 : Option Addr) (c1 : Nat) (keep : List Bool) (torn : Int) (hK : ∀ w ok, K.P w ok → Kd.C Kd.bool w A1 keep.length keep) (he : p.crash keep torn = q) :
    Calls Try.prog 14 #[.pointer (some ⟨g, 0, none⟩), .slice A1 keep.length c1, .int .i64 torn] w fun e w' => (∃ v, e = .returned v) ∧ Sp w' (PadP g q :: K :: F) := by
  subst he
  cases ho : p.off
  · obtain ⟨t, hS⟩ := PadP.open hS
    refine (crash_on A1 c1 keep torn ho hok (Sp.tail (Sp.s1 hS)).s1.s1 hK).mono ?_
    rintro e w' ⟨h1, h2⟩
    refine ⟨h1, PadP.shut (t := .pointer none) ?_⟩
    rw [show (p.crash keep torn).arm = none from by rw [Pd.crash_on p ho]]
    exact (TripP.none_mk h2).s1
  · obtain ⟨t, hS'⟩ := PadP.open hS
    refine (crash_off A1 keep.length c1 torn ho hS').mono ?_
    rintro e w' ⟨h1, rfl⟩
    rw [Pd.crash_off p ho]
    exact ⟨h1, hS⟩
theorem encs_reps {α : Type} (enc : α → Value) (xs : List α) : Reps (fun x cs => cs = [enc x]) 1 xs (xs.map enc) := by
  refine ⟨by simp, fun j p hj => ?_⟩
  obtain ⟨h1, rfl⟩ := List.getElem?_eq_some_iff.1 hj
  rw [Nat.mul_one, List.drop_eq_getElem_cons (by simpa using h1), List.take_succ_cons, List.take_zero, List.getElem_map]
/-- A literal. -/
theorem _root_.Go.Proofs.Ytjpaaicgkdnalaa.Sep.Sp.lit {α : Type} {enc : α → Value} {h1 : ∀ x, (enc x).oneCell' = true} (e : TypeId) (xs : List α) (hm : xs.length ≤ 9223372036854775807) (h : Sp w F) :
    Sp (w.alloc (.cells (xs.map enc).toArray e)) (Row (Kd.scalar enc h1) e (.slice (some ⟨w.heap.size, 0, none⟩) xs.length xs.length) xs :: F) := by
  refine h.new (a := Row (Kd.scalar enc h1) e (.slice (some ⟨w.heap.size, 0, none⟩) xs.length xs.length) xs) (below_alloc (Below.refl _ _) _) ⟨fun k hk => ?_, ?_⟩
  · have : w.heap.size = k := by simpa [Value.ownBlock] using hk
    subst this
    exact ⟨Nat.le_refl _, by simp⟩
  · exact OwnRow.lit w 0 (encs_reps enc xs) (Nat.zero_le _) hm
theorem row_C {α : Type} {d : Kd α} {e : Nat} {A : Option Addr} {n c : Nat} {xs : List α} (h : Sp w (Row d e (.slice A n c) xs :: F)) : n = xs.length ∧ n ≤ c ∧ d.C w A xs.length xs := (h.has).elim fun _ h => Kd.R_reads' h
theorem lit_u8 (x : Int) (h : Sp w F) : Sp (w.alloc (.cells #[.int .u8 x] 5)) (Row (Kd.int .u8) 5 (.slice (some ⟨w.heap.size, 0, none⟩) 1 1) [x] :: F) := Sp.lit (enc := Value.int .u8) (h1 := fun _ => rfl) 5 [x] (by simp) h
theorem lit_bool (x : Bool) (h : Sp w F) : Sp (w.alloc (.cells #[.bool x] 4)) (Row Kd.bool 4 (.slice (some ⟨w.heap.size, 0, none⟩) 1 1) [x] :: F) := Sp.lit (enc := Value.bool) (h1 := fun _ => rfl) 4 [x] (by simp) h
set_option maxHeartbeats 8000000 in
set_option maxRecDepth 100000 in
theorem wakes_calls (hS : Sp w F) : Calls Try.prog 20 #[] w fun e w' => e = .returned (.bool true) ∧ Sp w' F := by
  have HS := Aside0.mk hS
  have k1 : Pd.Ok ⟨[([1], false)], 0, false, 0, none⟩ := ⟨by decide, by decide, (fun _ _ _ h => by cases h), by decide⟩
  have k2 : Pd.Ok ⟨[([1], false), ([2], false)], 0, false, 0, none⟩ := ⟨by decide, by decide, (fun _ _ _ h => by cases h), by decide⟩
  have k3 : Pd.Ok ⟨[([1], false), ([], true)], 2, false, 1, none⟩ := ⟨by decide, by decide, (fun _ _ _ h => by cases h), by decide⟩
  have K1 := Aside0.mk k1
  have K2 := Aside0.mk k2
  have K3 := Aside0.mk k3
  clear hS k1 k2 k3
  go_enter Try.func20, Try.ntmps20
  go_wp2_with (first
    | (go_at_call 11; refine (new_calls HS.out).mono ?_; rintro e w1 ⟨g, rfl, h1⟩; have H1 := Aside0.mk (lit_u8 1 h1); clear h1)
    | (go_at_call 13; refine (append_to H1.out.s1 Pd.new_ok (some ⟨w1.heap.size, 0, none⟩) 1 [1] (by decide) (by decide) (row_C H1.out).2.2 (q := ⟨[([1], false)], 0, false, 0, none⟩) (x := 0) (by with_unfolding_all rfl)).mono ?_; rintro e w2 ⟨rfl, h2⟩; have H2 := Aside0.mk (lit_u8 2 (Sp.tail h2.s1)); clear h2 H1)
    | (go_at_call 13; refine (append_to H2.out.s1 K1.out (some ⟨w2.heap.size, 0, none⟩) 1 [2] (by decide) (by decide) (row_C H2.out).2.2 (q := ⟨[([1], false), ([2], false)], 0, false, 0, none⟩) (x := 0) (by with_unfolding_all rfl)).mono ?_; rintro e w3 ⟨rfl, h3⟩; have H3 := Aside0.mk (lit_bool true (Sp.tail h3.s1)); clear h3 H2)
    | (go_at_call 14; refine (crash_to (K := Row Kd.bool 4 (.slice (some ⟨w3.heap.size, 0, none⟩) 1 1) [true]) H3.out.s1 K2.out (some ⟨w3.heap.size, 0, none⟩) 1 [true] (-1) (fun w ok h => (Kd.R_reads' h).2.2) (q := ⟨[([1], false), ([], true)], 2, true, 1, none⟩) (by with_unfolding_all rfl)).mono ?_; rintro e w4 ⟨⟨v, rfl⟩, h4⟩; have H4 := Aside0.mk (Sp.tail h4.s1); clear h4 H3)
    | (go_at_call 16; refine (start_calls H4.out).mono ?_; rintro e w5 ⟨⟨v, rfl⟩, h5⟩; have H5 := Aside0.mk (show Sp w5 (PadP g ⟨[([1], false), ([], true)], 2, false, 1, none⟩ :: F) from h5); clear h5 H4)
    | (go_at_call 15; refine (read_to H5.out K3.out 0 (b := [1]) (x := 0) (by with_unfolding_all rfl)).mono ?_; rintro e w6 ⟨v, rfl, h6⟩; have H6 := Aside0.mk h6; obtain ⟨gb, c, rfl⟩ := (h6.has).elim fun _ h => row_form h (by decide); clear h6 H5)
    | (go_at_call 15; refine (read_to H6.out.s1 K3.out 1 (b := []) (x := 13) (by with_unfolding_all rfl)).mono ?_; rintro e w7 ⟨v7, rfl, h7⟩; obtain ⟨ad', e7, hc7⟩ := Kd.at_int (row_C h7.s2).2.2 0 (by decide) (by decide); cases e7; replace hc7 : w7.cell? ⟨gb, 0, none⟩ = some (.int .u8 1) := hc7; have H7 := Aside0.mk (Sp.tail h7); clear h7 H6)
    | (go_at_call 23; refine (life_calls H7.out).mono ?_; rintro e w8 ⟨rfl, rfl⟩))
  go_ret
  exact ⟨rfl, H7.out.tail.tail⟩
end
end Go.Proofs.Ytjpaaicgkdnalaa.Pads
