/-
  Pads in the set's statements: plain laws.
  Conditions: none; plain theorems.
-/
import Derived.Test.YtjpaaicgkdnalaaPadG
import Derived.Test.YtjpaaicgkdnalaaKeepBytes
namespace Go.Proofs.Ytjpaaicgkdnalaa.Pads
open Go.RowKit Go.Proofs.YtjpaaicgkdnalaaW.PrintWords Go.Proofs.YtjpaaicgkdnalaaW.PrintLast Go.Proofs.YtjpaaicgkdnalaaW.PrintMore Go.Proofs.Ytjpaaicgkdnalaa.Sep
set_option linter.unusedVariables false
set_option linter.unusedSimpArgs false
/-- i bytes, one a slot. -/
def nums (i : Nat) : List Sl := (List.range i).map (fun j : Nat => ([(j : Int)], false))
theorem nums_succ (i : Nat) : nums (i + 1) = nums i ++ [([(i : Int)], false)] := by simp [nums, List.range_succ]
theorem nums_length (i : Nat) : (nums i).length = i := by simp [nums]
theorem nums_get (n i : Nat) (h : i < n) : (nums n)[i]? = some ([(i : Int)], false) := by simp [nums, h]
theorem nums_ok (i s : Nat) (hs : s ≤ i) (hi : i ≤ 4000) (o : Bool) (l : Int) : Pd.Ok ⟨nums i, s, o, l, none⟩ :=
  ⟨by simp only [nums_length]; exact hs, by simp only [nums_length]; exact hi, (fun _ _ _ h => by cases h), (fun x hx => by
    obtain ⟨j, _, rfl⟩ := List.mem_map.1 hx
    simp)⟩
theorem append_plain (sl : List Sl) (sf : Nat) (li : Int) (b : List Int) (hb : b.length ≤ 65536) (hl : sl.length < 4000) : (⟨sl, sf, false, li, none⟩ : Pd).append b = (⟨sl ++ [(b, false)], sf, false, li, none⟩, 0) := by
  unfold Pd.append
  rw [if_neg (by simp), if_neg (by omega), if_neg (by dsimp only; omega), Pd.spend_none rfl]
  rfl
theorem sync_plain (sl : List Sl) (sf : Nat) (li : Int) : (⟨sl, sf, false, li, none⟩ : Pd).sync = (⟨sl, sl.length, false, li, none⟩, 0) := by
  unfold Pd.sync
  rw [if_neg (by simp), Pd.spend_none rfl]
  rfl
theorem C_nil {α : Type} (d : Kd α) (w : World) : d.C w none 0 [] := ⟨rfl, by decide, fun h => by omega⟩
theorem append_full (sl : List Sl) (sf : Nat) (li : Int) (hl : 4000 ≤ sl.length) : (⟨sl, sf, false, li, none⟩ : Pd).append [] = (⟨sl, sf, false, li, none⟩, 6) := by
  unfold Pd.append
  rw [if_neg (by simp), if_neg (by simp), if_pos hl]
theorem trim_plain (sl : List Sl) (sf : Nat) (li : Int) (n : Nat) (hn : n ≤ sf) : (⟨sl, sf, false, li, none⟩ : Pd).trim (n : Int) = (⟨sl.drop n, sf - n, false, li, none⟩, 0) := by
  unfold Pd.trim
  rw [if_neg (by simp), if_neg (by dsimp only; omega), Pd.spend_none rfl]
  simp
theorem cut_plain (sl : List Sl) (sf : Nat) (li : Int) (n : Nat) (hn : n ≤ sl.length) : (⟨sl, sf, false, li, none⟩ : Pd).cut (n : Int) = (⟨sl.take n, min sf n, false, li, none⟩, 0) := by
  unfold Pd.cut
  rw [if_neg (by simp), if_neg (by dsimp only; omega), Pd.spend_none rfl]
  simp
theorem trim_bad (sl : List Sl) (sf : Nat) (li : Int) (n : Int) (hn : n < 0 ∨ n > sf) : (⟨sl, sf, false, li, none⟩ : Pd).trim n = (⟨sl, sf, false, li, none⟩, 1) := by
  unfold Pd.trim
  rw [if_neg (by simp), if_pos hn]
theorem cut_bad (sl : List Sl) (sf : Nat) (li : Int) (n : Int) (hn : n < 0 ∨ n > sl.length) : (⟨sl, sf, false, li, none⟩ : Pd).cut n = (⟨sl, sf, false, li, none⟩, 1) := by
  unfold Pd.cut
  rw [if_neg (by simp), if_pos hn]
theorem plain_ok (sl : List Sl) (sf : Nat) (o : Bool) (li : Int) (hs : sf ≤ sl.length) (hl : sl.length ≤ 4000) (hb : ∀ s ∈ sl, s.1.length ≤ 65536) : Pd.Ok ⟨sl, sf, o, li, none⟩ := ⟨hs, hl, (fun _ _ _ h => by cases h), hb⟩
end Go.Proofs.Ytjpaaicgkdnalaa.Pads
