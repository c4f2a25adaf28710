/-
  The plain law behind WireExact: numbers and texts that are put, and got, of any bytes, are the page's; what is handed in stays.
  Conditions: none but those of the given statement.
-/
import Derived.Test.YtomahagonogapaaRefWire
import Derived.Test.YtomahagonogapaaPAllx4
import Derived.Test.YtomahagonogapaaPAllx6
import Derived.Test.YtomahagonogapaaPAllx8
namespace Go.Proofs.Ytomahagonogapaa.Pure
open Go.RowKit Go.Proofs.Ytomahagonogapaa.PAll Go.Proofs.YtomahagonogapaaW.PrintWords Go.Proofs.YtomahagonogapaaW.PrintLast Go.Proofs.YtomahagonogapaaW.PrintMore Go.Proofs.Ytomahagonogapaa.Plain
set_option linter.unusedVariables false
set_option linter.unusedSimpArgs false

theorem spoil_l0 (n : Nat) : ∀ (k : Nat) (l : List Int) (i : Nat), l.length - i = n → l.length ≤ 1000000 → n < k → ∃ r, raddlekeep_SpoilBytes.l0 k l i = some r := by
  induction n with
  | zero =>
    intro k l i h hl hk
    obtain ⟨k, rfl⟩ : ∃ m, k = m + 1 := ⟨k - 1, by omega⟩
    exact ⟨l, by simp only [raddlekeep_SpoilBytes.l0]; rw [if_neg (by omega)]⟩
  | succ n ih =>
    intro k l i h hl hk
    obtain ⟨k, rfl⟩ : ∃ m, k = m + 1 := ⟨k - 1, by omega⟩
    simp only [raddlekeep_SpoilBytes.l0]
    rw [if_pos (by omega), if_pos (by omega), w64 (by omega) (by omega)]
    exact ih k _ (i + 1) (by simp; omega) (by simp; omega) (by omega)
theorem spoil_some (k : Nat) (l : List Int) (hl : l.length ≤ 1000000) (hk : l.length + 1 ≤ k) : ∃ r, raddlekeep_SpoilBytes.f k l = some r :=
  spoil_l0 l.length k l 0 (by omega) hl (by omega)
theorem sPut_length (l : List Int) (n s : Int) : (sPut l n s).1.length ≤ l.length + 7 := by
  unfold sPut
  split
  · simp [big_length]; omega
  · simp
theorem sPutInt_length (l : List Int) (n : Int) : (sPutInt l n).1.length ≤ l.length + 9 := by
  unfold sPutInt
  split
  · simp [intB_length]
  · simp
theorem sPutText_length (l : List Int) (s : ByteArray) : (sPutText l s).1.length ≤ l.length + 25 := by
  unfold sPutText
  split
  · simp [bytesOf_length]; omega
  · simp

theorem WireExact : raddlelaw01_WireExact.Pure := by
  intro b n at_ size s lb _ wb wn wa wz ws
  have hb := Bytes.of_wf wb
  have hn := wf_i64 wn
  have ha := wf_i64 wa
  refine ⟨1000, ?_⟩
  unfold raddlelaw01_WireExact.f
  by_cases g1 : (b.length : Int) > 300
  · rw [if_pos g1]; simp [raddlelaw01_WireExact.j0]
  rw [if_neg g1]
  by_cases g2 : (s.size : Int) > 300
  · simp [raddlelaw01_WireExact.j0, g2]
  simp only [raddlelaw01_WireExact.j0, g2, decide_false]
  have l1 := sPut_length b n size
  have l2 := sPutInt_length b n
  have l3 := sPutText_length b s
  have hsame : ∀ (k : Nat) (x : List Int), x.length ≤ 400 → 500 ≤ k → raddlekeep_Bytes.f k x x = some true := fun k x h hk => by rw [same_eq k x x (by omega) (by omega)]; simp
  rw [if_neg (by simp), twin_eq b (by omega), Option.bind_some, put_eq 999 b n size (by omega) (by omega), Option.bind_some, rput_eq 999 b n size (by omega) (by omega) (by omega), Option.bind_some, hsame 999 _ (by omega) (by omega), Option.bind_some, if_pos rfl]
  simp only [bne_self_eq_false, raddlelaw01_WireExact.j1]
  obtain ⟨r, hr⟩ := spoil_some 998 (sPut b n size).1 (by omega) (by omega)
  rw [if_neg (by simp), hr, Option.bind_some, putInt_eq 998 b n (by omega) (by omega), Option.bind_some, rputInt_eq 998 b n (by omega) (by omega), Option.bind_some, hsame 998 _ (by omega) (by omega), Option.bind_some, if_pos rfl]
  simp only [bne_self_eq_false, raddlelaw01_WireExact.j2]
  rw [if_neg (by simp), putText_eq b s (by omega), Option.bind_some, rputText_eq b s (by omega), Option.bind_some, hsame 997 _ (by omega) (by omega), Option.bind_some, if_pos rfl]
  simp only [bne_self_eq_false, raddlelaw01_WireExact.j3]
  rw [if_neg (by simp), get_eq 996 b at_ size hb (by omega) (by omega) (by omega), Option.bind_some, rget_eq 996 b at_ size hb (by omega) (by omega) (by omega), Option.bind_some, if_pos rfl, if_pos rfl]
  simp only [bne_self_eq_false, raddlelaw01_WireExact.j4]
  rw [if_neg (by simp), getInt_eq 995 b at_ hb (by omega) (by omega) (by omega), Option.bind_some, rgetInt_eq 995 b at_ hb (by omega) (by omega) (by omega), Option.bind_some, if_pos rfl, if_pos rfl]
  simp only [bne_self_eq_false, raddlelaw01_WireExact.j5]
  rw [if_neg (by simp), getText_eq 994 b at_ hb (by omega) (by omega) (by omega), Option.bind_some, rgetText_eq b at_ hb (by omega) (by omega), Option.bind_some, if_pos rfl, if_pos rfl, if_pos rfl, hsame 994 _ (by omega) (by omega), Option.bind_some, if_pos rfl, wakes_eq 994 (by omega), Option.bind_some]
end Go.Proofs.Ytomahagonogapaa.Pure
