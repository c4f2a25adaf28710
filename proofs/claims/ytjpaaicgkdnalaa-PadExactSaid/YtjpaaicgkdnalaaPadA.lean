/-
  pad's small functions, as the machine walks them.
  Conditions: none.
-/
import Derived.Test.YtjpaaicgkdnalaaProg
import Derived.Test.YtjpaaicgkdnalaaPadParts
import Derived.Below
import Derived.Deep.Draws
import Derived.Deep.AppendLies
import Derived.OwnWalk
import Derived.Laws.MakeOwn
import Derived.Laws.OwnMore
import Derived.Deep.OwnRows
import Derived.Tactics
import Derived.Laws.Slices
import Derived.WalkKit
import Derived.KernelRfl
import Derived.RowKit3
import Derived.Deep.LoopGhost
import Derived.Deep.QuietTactic
import Derived.BigQuiet
import Derived.Deep.DeepCutAuto
import Derived.Deep.CutBlock
import Derived.Deep.RegionHeld3
import Derived.Laws.Rows
import Derived.ArgAppend
import Derived.OrdersHeld
import Derived.WalkSpells
import Derived.Test.YtjpaaicgkdnalaaWMore
import Derived.Test.YtjpaaicgkdnalaaSteps
namespace Go.Proofs.Ytjpaaicgkdnalaa.Pads
open Go.RowKit Go.Proofs.YtjpaaicgkdnalaaW.PrintWords Go.Proofs.YtjpaaicgkdnalaaW.PrintLast Go.Proofs.YtjpaaicgkdnalaaW.PrintMore Go.Proofs.Ytjpaaicgkdnalaa.Sep
set_option linter.unusedVariables false
set_option linter.unusedSimpArgs false
section
variable {w : World} {g : Nat} {p : Pd} {F : List Part}
/-- What the cells of a pad hold. -/
theorem cells_of {t : Value} (hS : Sp w (PadQ g p t :: F)) : ∃ (A : Option Addr) (c : Nat), p.slots.length ≤ c ∧ w.cell? ⟨g, 0, none⟩ = some (.slice A p.slots.length c) ∧ w.cell? ⟨g, 1, none⟩ = some (.int .i64 p.safe) ∧ w.cell? ⟨g, 2, none⟩ = some (.bool p.off) ∧ w.cell? ⟨g, 3, none⟩ = some (.int .i64 p.life) ∧ w.cell? ⟨g, 4, none⟩ = some t ∧ (∀ j, w.frozen? ⟨g, j, none⟩ = false) := by
  obtain ⟨v, hS⟩ := PadQ.open hS
  obtain ⟨A, c, rfl, hc, _⟩ := hS.tail.row
  exact ⟨A, c, hc, blk_cell hS.blk 0, blk_cell hS.blk 1, blk_cell hS.blk 2, blk_cell hS.blk 3, blk_cell hS.blk 4, fun j => blk_frozen hS.blk j⟩
set_option maxHeartbeats 4000000 in
set_option maxRecDepth 100000 in
theorem len_calls (hS : Sp w (PadP g p :: F)) : Calls Try.prog 17 #[.pointer (some ⟨g, 0, none⟩)] w fun e w' => e = .returned (.int .i64 (p.slots.length : Int)) ∧ w = w' := by
  obtain ⟨t, hS⟩ := PadP.open hS
  obtain ⟨A, c, hc, h0, h1, h2, h3, h4, hfz⟩ := cells_of hS
  clear hS
  go_enter Try.func17, Try.ntmps17
  go_wp2
  go_ret
  exact ⟨rfl, rfl⟩
set_option maxHeartbeats 4000000 in
set_option maxRecDepth 100000 in
theorem safe_calls (hS : Sp w (PadP g p :: F)) : Calls Try.prog 18 #[.pointer (some ⟨g, 0, none⟩)] w fun e w' => e = .returned (.int .i64 (p.safe : Int)) ∧ w = w' := by
  obtain ⟨t, hS⟩ := PadP.open hS
  obtain ⟨A, c, hc, h0, h1, h2, h3, h4, hfz⟩ := cells_of hS
  clear hS
  go_enter Try.func18, Try.ntmps18
  go_wp2
  go_ret
  exact ⟨rfl, rfl⟩
set_option maxHeartbeats 4000000 in
set_option maxRecDepth 100000 in
theorem off_calls (hS : Sp w (PadP g p :: F)) : Calls Try.prog 24 #[.pointer (some ⟨g, 0, none⟩)] w fun e w' => e = .returned (.bool p.off) ∧ w = w' := by
  obtain ⟨t, hS⟩ := PadP.open hS
  obtain ⟨A, c, hc, h0, h1, h2, h3, h4, hfz⟩ := cells_of hS
  clear hS
  go_enter Try.func24, Try.ntmps24
  go_wp2
  go_ret
  exact ⟨rfl, rfl⟩
set_option maxHeartbeats 4000000 in
set_option maxRecDepth 100000 in
theorem life_calls (hS : Sp w (PadP g p :: F)) : Calls Try.prog 23 #[.pointer (some ⟨g, 0, none⟩)] w fun e w' => e = .returned (.int .i64 p.life) ∧ w = w' := by
  obtain ⟨t, hS⟩ := PadP.open hS
  obtain ⟨A, c, hc, h0, h1, h2, h3, h4, hfz⟩ := cells_of hS
  clear hS
  go_enter Try.func23, Try.ntmps23
  go_wp2
  go_ret
  exact ⟨rfl, rfl⟩
set_option maxHeartbeats 4000000 in
set_option maxRecDepth 100000 in
theorem new_calls (hS : Sp w F) : Calls Try.prog 11 #[] w fun e w' => ∃ g, e = .returned (.pointer (some ⟨g, 0, none⟩)) ∧ Sp w' (PadP g Pd.new :: F) := by
  go_enter Try.func11, Try.ntmps11
  go_wp2
  go_ret
  refine ⟨_, rfl, ?_⟩
  refine PadP.shut (t := .pointer none) (PadQ.shut (v := .slice none 0 0) ?_)
  have h1 := hS.box (.cells #[.slice none 0 0, .int .i64 0, .bool false, .int .i64 0, .pointer none] 58 (0, 0))
  have h2 := TripP.none_mk h1
  have h3 : Sp (w.alloc (.cells #[.slice none 0 0, .int .i64 0, .bool false, .int .i64 0, .pointer none] 58 (0, 0))) (Row kSl 60 (.slice none 0 0) [] :: TripP (.pointer none) none :: Blk w.heap.size (.cells #[.slice none 0 0, .int .i64 0, .bool false, .int .i64 0, .pointer none] 58 (0, 0)) :: F) :=
    ⟨fun _ => False, fun _ h => h.elim, Kd.R_nil _ _ _ _ _, Sep.wide h2 (fun k hk => ⟨hk, fun e => e⟩)⟩
  exact h3.s2
set_option maxHeartbeats 4000000 in
set_option maxRecDepth 100000 in
theorem start_calls (hS : Sp w (PadP g p :: F)) : Calls Try.prog 16 #[.pointer (some ⟨g, 0, none⟩)] w fun e w' => (∃ v, e = .returned v) ∧ Sp w' (PadP g p.start :: F) := by
  obtain ⟨t, hS⟩ := PadP.open hS
  obtain ⟨A, c, hc, h0, h1, h2, h3, h4, hfz⟩ := cells_of hS
  have hf2 := hfz 2
  clear hfz
  have HS := Aside0.mk hS
  clear hS
  go_enter Try.func16, Try.ntmps16
  go_wp2
  go_end0
  refine ⟨⟨_, rfl⟩, ?_⟩
  obtain ⟨v, hS⟩ := PadQ.open HS.out
  exact PadP.shut (PadQ.shut (hS.store 2 _))
end
end Go.Proofs.Ytjpaaicgkdnalaa.Pads
