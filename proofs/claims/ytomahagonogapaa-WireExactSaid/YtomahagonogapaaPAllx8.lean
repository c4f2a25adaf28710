-- Printed by a program of this session (wip/hp.py: the printer of the kit with hooks of our own); Lean checks it.
import Derived.Test.YtomahagonogapaaPAllx0
import Derived.Test.YtomahagonogapaaPAllx1
import Derived.Test.YtomahagonogapaaPAllx2
import Derived.Test.YtomahagonogapaaPAllx3
import Derived.Test.YtomahagonogapaaPAllx4
import Derived.Test.YtomahagonogapaaPAllx5
import Derived.Test.YtomahagonogapaaPAllx6
import Derived.Test.YtomahagonogapaaPAllx7
namespace Go.Proofs.Ytomahagonogapaa.PAll
open Go.RowKit Go.Proofs.YtomahagonogapaaW.PrintWords Go.Proofs.YtomahagonogapaaW.PrintLast Go.Proofs.YtomahagonogapaaW.PrintMore
attribute [local go_sem] max2_int min2_int max_two min_two max_three min_three max_four min_four   -- for this text's walks alone
set_option linter.unusedVariables false
set_option linter.unusedSimpArgs false

/-! ### raddlelaw01_WireExact: function 6 -/
mutual
def raddlelaw01_WireExact.j0 : Nat → List Int → Int → Int → Int → ByteArray → Bool → Option (Bool)
  | 0, _, _, _, _, _, _ => none
  | k + 1, x0, x1, x2, x3, x4, x29 => if x29 = true then (some true) else ((raddlekeep_Twin.f x0).bind fun t316 => ((wire_Put.f k t316 x1 x3).bind fun bt319 => ((raddleref01_Put.f k x0 x1 x3).bind fun bt323 => ((raddlekeep_Bytes.f k bt319.1 bt323.1).bind fun t327 => (if t327 = true then (raddlelaw01_WireExact.j1 k x0 x1 x2 x3 x4 t316 bt319.1 (bt319.2 != bt323.2)) else (raddlelaw01_WireExact.j1 k x0 x1 x2 x3 x4 t316 bt319.1 true))))))
def raddlelaw01_WireExact.j1 : Nat → List Int → Int → Int → Int → ByteArray → List Int → List Int → Bool → Option (Bool)
  | 0, _, _, _, _, _, _, _, _ => none
  | k + 1, x0, x1, x2, x3, x4, x11, x12, x54 => if x54 = true then (some false) else ((raddlekeep_SpoilBytes.f k x12).bind fun t328 => ((wire_PutInt.f k x11 x1).bind fun bt329 => ((raddleref01_PutInt.f k x0 x1).bind fun bt333 => ((raddlekeep_Bytes.f k bt329.1 bt333.1).bind fun t337 => (if t337 = true then (raddlelaw01_WireExact.j2 k x0 x2 x3 x4 x11 (bt329.2 != bt333.2)) else (raddlelaw01_WireExact.j2 k x0 x2 x3 x4 x11 true))))))
def raddlelaw01_WireExact.j2 : Nat → List Int → Int → Int → ByteArray → List Int → Bool → Option (Bool)
  | 0, _, _, _, _, _, _ => none
  | k + 1, x0, x2, x3, x4, x11, x77 => if x77 = true then (some false) else ((wire_PutText.f x11 x4).bind fun bt338 => ((raddleref01_PutText.f x0 x4).bind fun bt342 => ((raddlekeep_Bytes.f k bt338.1 bt342.1).bind fun t346 => (if t346 = true then (raddlelaw01_WireExact.j3 k x0 x2 x3 x11 (bt338.2 != bt342.2)) else (raddlelaw01_WireExact.j3 k x0 x2 x3 x11 true)))))
def raddlelaw01_WireExact.j3 : Nat → List Int → Int → Int → List Int → Bool → Option (Bool)
  | 0, _, _, _, _, _ => none
  | k + 1, x0, x2, x3, x11, x98 => if x98 = true then (some false) else ((wire_Get.f k x11 x2 x3).bind fun bt347 => ((raddleref01_Get.f k x0 x2 x3).bind fun bt350 => (if bt347.1 = bt350.1 then (if bt347.2.1 = bt350.2.1 then (raddlelaw01_WireExact.j4 k x0 x2 x11 (bt347.2.2 != bt350.2.2)) else (raddlelaw01_WireExact.j4 k x0 x2 x11 true)) else (raddlelaw01_WireExact.j4 k x0 x2 x11 true))))
def raddlelaw01_WireExact.j4 : Nat → List Int → Int → List Int → Bool → Option (Bool)
  | 0, _, _, _, _ => none
  | k + 1, x0, x2, x11, x127 => if x127 = true then (some false) else ((wire_GetInt.f k x11 x2).bind fun bt353 => ((raddleref01_GetInt.f k x0 x2).bind fun bt356 => (if bt353.1 = bt356.1 then (if bt353.2.1 = bt356.2.1 then (raddlelaw01_WireExact.j5 k x0 x2 x11 (bt353.2.2 != bt356.2.2)) else (raddlelaw01_WireExact.j5 k x0 x2 x11 true)) else (raddlelaw01_WireExact.j5 k x0 x2 x11 true))))
def raddlelaw01_WireExact.j5 : Nat → List Int → Int → List Int → Bool → Option (Bool)
  | 0, _, _, _, _ => none
  | k + 1, x0, x2, x11, x154 => if x154 = true then (some false) else ((wire_GetText.f k x11 x2).bind fun bt359 => ((raddleref01_GetText.f x0 x2).bind fun bt362 => (if bt359.1.toList = bt362.1.toList then (if bt359.2.1 = bt362.2.1 then (if bt359.2.2 = bt362.2.2 then ((raddlekeep_Bytes.f k x11 x0).bind fun t365 => (if t365 = true then ((raddlelaw01_wakes.f k).bind fun t366 => (some t366)) else (some false))) else (some false)) else (some false)) else (some false))))
end
def raddlelaw01_WireExact.f (k : Nat) (l0 : List Int) (a1 : Int) (a2 : Int) (a3 : Int) (a4 : ByteArray) : Option (Bool) := if (l0.length : Int) > 300 then (raddlelaw01_WireExact.j0 k l0 a1 a2 a3 a4 true) else (raddlelaw01_WireExact.j0 k l0 a1 a2 a3 a4 (decide ((a4.size : Int) > 300)))
theorem raddlelaw01_WireExact.mono_l : ∀ k, (∀ y0 y1 y2 y3 y4 y5, LeO (raddlelaw01_WireExact.j0 k y0 y1 y2 y3 y4 y5) (raddlelaw01_WireExact.j0 (k + 1) y0 y1 y2 y3 y4 y5)) ∧ (∀ y0 y1 y2 y3 y4 y5 y6 y7, LeO (raddlelaw01_WireExact.j1 k y0 y1 y2 y3 y4 y5 y6 y7) (raddlelaw01_WireExact.j1 (k + 1) y0 y1 y2 y3 y4 y5 y6 y7)) ∧ (∀ y0 y1 y2 y3 y4 y5, LeO (raddlelaw01_WireExact.j2 k y0 y1 y2 y3 y4 y5) (raddlelaw01_WireExact.j2 (k + 1) y0 y1 y2 y3 y4 y5)) ∧ (∀ y0 y1 y2 y3 y4, LeO (raddlelaw01_WireExact.j3 k y0 y1 y2 y3 y4) (raddlelaw01_WireExact.j3 (k + 1) y0 y1 y2 y3 y4)) ∧ (∀ y0 y1 y2 y3, LeO (raddlelaw01_WireExact.j4 k y0 y1 y2 y3) (raddlelaw01_WireExact.j4 (k + 1) y0 y1 y2 y3)) ∧ (∀ y0 y1 y2 y3, LeO (raddlelaw01_WireExact.j5 k y0 y1 y2 y3) (raddlelaw01_WireExact.j5 (k + 1) y0 y1 y2 y3))
  | 0 => ⟨fun _ _ _ _ _ _ r h => by simp [raddlelaw01_WireExact.j0] at h, fun _ _ _ _ _ _ _ _ r h => by simp [raddlelaw01_WireExact.j1] at h, fun _ _ _ _ _ _ r h => by simp [raddlelaw01_WireExact.j2] at h, fun _ _ _ _ _ r h => by simp [raddlelaw01_WireExact.j3] at h, fun _ _ _ _ r h => by simp [raddlelaw01_WireExact.j4] at h, fun _ _ _ _ r h => by simp [raddlelaw01_WireExact.j5] at h⟩
  | k + 1 => by
    obtain ⟨ih0, ih1, ih2, ih3, ih4, ih5⟩ := raddlelaw01_WireExact.mono_l k
    refine ⟨?_, ?_, ?_, ?_, ?_, ?_⟩
    · intro y0 y1 y2 y3 y4 y5
      unfold raddlelaw01_WireExact.j0
      repeat' first
      | (with_reducible exact ih0 _ _ _ _ _ _)
      | (with_reducible exact ih1 _ _ _ _ _ _ _ _)
      | (with_reducible exact ih2 _ _ _ _ _ _)
      | (with_reducible exact ih3 _ _ _ _ _)
      | (with_reducible exact ih4 _ _ _ _)
      | (with_reducible exact ih5 _ _ _ _)
      | (with_reducible exact raddlekeep_Bytes.mono _ _ _)
      | (with_reducible exact raddlekeep_SpoilBytes.mono _ _)
      | (with_reducible exact raddlelaw01_wakes.mono _)
      | (with_reducible exact raddleref01_Get.mono _ _ _ _)
      | (with_reducible exact raddleref01_GetInt.mono _ _ _)
      | (with_reducible exact raddleref01_Put.mono _ _ _ _)
      | (with_reducible exact raddleref01_PutInt.mono _ _ _)
      | (with_reducible exact wire_Get.mono _ _ _ _)
      | (with_reducible exact wire_GetInt.mono _ _ _)
      | (with_reducible exact wire_GetText.mono _ _ _)
      | (with_reducible exact wire_Put.mono _ _ _ _)
      | (with_reducible exact wire_PutInt.mono _ _ _)
      | (with_reducible exact LeO.refl _)
      | (with_reducible exact LeO.none _)
      | (with_reducible refine LeO.ite ?_ ?_)
      | (with_reducible refine LeO.bind ?_ (fun _ => ?_))
      | exact ih0 _ _ _ _ _ _
      | exact ih1 _ _ _ _ _ _ _ _
      | exact ih2 _ _ _ _ _ _
      | exact ih3 _ _ _ _ _
      | exact ih4 _ _ _ _
      | exact ih5 _ _ _ _
      | exact raddlekeep_Bytes.mono _ _ _
      | exact raddlekeep_SpoilBytes.mono _ _
      | exact raddlelaw01_wakes.mono _
      | exact raddleref01_Get.mono _ _ _ _
      | exact raddleref01_GetInt.mono _ _ _
      | exact raddleref01_Put.mono _ _ _ _
      | exact raddleref01_PutInt.mono _ _ _
      | exact wire_Get.mono _ _ _ _
      | exact wire_GetInt.mono _ _ _
      | exact wire_GetText.mono _ _ _
      | exact wire_Put.mono _ _ _ _
      | exact wire_PutInt.mono _ _ _
      | exact LeO.none _
      | refine LeO.ite ?_ ?_
      | refine LeO.bind ?_ (fun _ => ?_)
    · intro y0 y1 y2 y3 y4 y5 y6 y7
      unfold raddlelaw01_WireExact.j1
      repeat' first
      | (with_reducible exact ih0 _ _ _ _ _ _)
      | (with_reducible exact ih1 _ _ _ _ _ _ _ _)
      | (with_reducible exact ih2 _ _ _ _ _ _)
      | (with_reducible exact ih3 _ _ _ _ _)
      | (with_reducible exact ih4 _ _ _ _)
      | (with_reducible exact ih5 _ _ _ _)
      | (with_reducible exact raddlekeep_Bytes.mono _ _ _)
      | (with_reducible exact raddlekeep_SpoilBytes.mono _ _)
      | (with_reducible exact raddlelaw01_wakes.mono _)
      | (with_reducible exact raddleref01_Get.mono _ _ _ _)
      | (with_reducible exact raddleref01_GetInt.mono _ _ _)
      | (with_reducible exact raddleref01_Put.mono _ _ _ _)
      | (with_reducible exact raddleref01_PutInt.mono _ _ _)
      | (with_reducible exact wire_Get.mono _ _ _ _)
      | (with_reducible exact wire_GetInt.mono _ _ _)
      | (with_reducible exact wire_GetText.mono _ _ _)
      | (with_reducible exact wire_Put.mono _ _ _ _)
      | (with_reducible exact wire_PutInt.mono _ _ _)
      | (with_reducible exact LeO.refl _)
      | (with_reducible exact LeO.none _)
      | (with_reducible refine LeO.ite ?_ ?_)
      | (with_reducible refine LeO.bind ?_ (fun _ => ?_))
      | exact ih0 _ _ _ _ _ _
      | exact ih1 _ _ _ _ _ _ _ _
      | exact ih2 _ _ _ _ _ _
      | exact ih3 _ _ _ _ _
      | exact ih4 _ _ _ _
      | exact ih5 _ _ _ _
      | exact raddlekeep_Bytes.mono _ _ _
      | exact raddlekeep_SpoilBytes.mono _ _
      | exact raddlelaw01_wakes.mono _
      | exact raddleref01_Get.mono _ _ _ _
      | exact raddleref01_GetInt.mono _ _ _
      | exact raddleref01_Put.mono _ _ _ _
      | exact raddleref01_PutInt.mono _ _ _
      | exact wire_Get.mono _ _ _ _
      | exact wire_GetInt.mono _ _ _
      | exact wire_GetText.mono _ _ _
      | exact wire_Put.mono _ _ _ _
      | exact wire_PutInt.mono _ _ _
      | exact LeO.none _
      | refine LeO.ite ?_ ?_
      | refine LeO.bind ?_ (fun _ => ?_)
    · intro y0 y1 y2 y3 y4 y5
      unfold raddlelaw01_WireExact.j2
      repeat' first
      | (with_reducible exact ih0 _ _ _ _ _ _)
      | (with_reducible exact ih1 _ _ _ _ _ _ _ _)
      | (with_reducible exact ih2 _ _ _ _ _ _)
      | (with_reducible exact ih3 _ _ _ _ _)
      | (with_reducible exact ih4 _ _ _ _)
      | (with_reducible exact ih5 _ _ _ _)
      | (with_reducible exact raddlekeep_Bytes.mono _ _ _)
      | (with_reducible exact raddlekeep_SpoilBytes.mono _ _)
      | (with_reducible exact raddlelaw01_wakes.mono _)
      | (with_reducible exact raddleref01_Get.mono _ _ _ _)
      | (with_reducible exact raddleref01_GetInt.mono _ _ _)
      | (with_reducible exact raddleref01_Put.mono _ _ _ _)
      | (with_reducible exact raddleref01_PutInt.mono _ _ _)
      | (with_reducible exact wire_Get.mono _ _ _ _)
      | (with_reducible exact wire_GetInt.mono _ _ _)
      | (with_reducible exact wire_GetText.mono _ _ _)
      | (with_reducible exact wire_Put.mono _ _ _ _)
      | (with_reducible exact wire_PutInt.mono _ _ _)
      | (with_reducible exact LeO.refl _)
      | (with_reducible exact LeO.none _)
      | (with_reducible refine LeO.ite ?_ ?_)
      | (with_reducible refine LeO.bind ?_ (fun _ => ?_))
      | exact ih0 _ _ _ _ _ _
      | exact ih1 _ _ _ _ _ _ _ _
      | exact ih2 _ _ _ _ _ _
      | exact ih3 _ _ _ _ _
      | exact ih4 _ _ _ _
      | exact ih5 _ _ _ _
      | exact raddlekeep_Bytes.mono _ _ _
      | exact raddlekeep_SpoilBytes.mono _ _
      | exact raddlelaw01_wakes.mono _
      | exact raddleref01_Get.mono _ _ _ _
      | exact raddleref01_GetInt.mono _ _ _
      | exact raddleref01_Put.mono _ _ _ _
      | exact raddleref01_PutInt.mono _ _ _
      | exact wire_Get.mono _ _ _ _
      | exact wire_GetInt.mono _ _ _
      | exact wire_GetText.mono _ _ _
      | exact wire_Put.mono _ _ _ _
      | exact wire_PutInt.mono _ _ _
      | exact LeO.none _
      | refine LeO.ite ?_ ?_
      | refine LeO.bind ?_ (fun _ => ?_)
    · intro y0 y1 y2 y3 y4
      unfold raddlelaw01_WireExact.j3
      repeat' first
      | (with_reducible exact ih0 _ _ _ _ _ _)
      | (with_reducible exact ih1 _ _ _ _ _ _ _ _)
      | (with_reducible exact ih2 _ _ _ _ _ _)
      | (with_reducible exact ih3 _ _ _ _ _)
      | (with_reducible exact ih4 _ _ _ _)
      | (with_reducible exact ih5 _ _ _ _)
      | (with_reducible exact raddlekeep_Bytes.mono _ _ _)
      | (with_reducible exact raddlekeep_SpoilBytes.mono _ _)
      | (with_reducible exact raddlelaw01_wakes.mono _)
      | (with_reducible exact raddleref01_Get.mono _ _ _ _)
      | (with_reducible exact raddleref01_GetInt.mono _ _ _)
      | (with_reducible exact raddleref01_Put.mono _ _ _ _)
      | (with_reducible exact raddleref01_PutInt.mono _ _ _)
      | (with_reducible exact wire_Get.mono _ _ _ _)
      | (with_reducible exact wire_GetInt.mono _ _ _)
      | (with_reducible exact wire_GetText.mono _ _ _)
      | (with_reducible exact wire_Put.mono _ _ _ _)
      | (with_reducible exact wire_PutInt.mono _ _ _)
      | (with_reducible exact LeO.refl _)
      | (with_reducible exact LeO.none _)
      | (with_reducible refine LeO.ite ?_ ?_)
      | (with_reducible refine LeO.bind ?_ (fun _ => ?_))
      | exact ih0 _ _ _ _ _ _
      | exact ih1 _ _ _ _ _ _ _ _
      | exact ih2 _ _ _ _ _ _
      | exact ih3 _ _ _ _ _
      | exact ih4 _ _ _ _
      | exact ih5 _ _ _ _
      | exact raddlekeep_Bytes.mono _ _ _
      | exact raddlekeep_SpoilBytes.mono _ _
      | exact raddlelaw01_wakes.mono _
      | exact raddleref01_Get.mono _ _ _ _
      | exact raddleref01_GetInt.mono _ _ _
      | exact raddleref01_Put.mono _ _ _ _
      | exact raddleref01_PutInt.mono _ _ _
      | exact wire_Get.mono _ _ _ _
      | exact wire_GetInt.mono _ _ _
      | exact wire_GetText.mono _ _ _
      | exact wire_Put.mono _ _ _ _
      | exact wire_PutInt.mono _ _ _
      | exact LeO.none _
      | refine LeO.ite ?_ ?_
      | refine LeO.bind ?_ (fun _ => ?_)
    · intro y0 y1 y2 y3
      unfold raddlelaw01_WireExact.j4
      repeat' first
      | (with_reducible exact ih0 _ _ _ _ _ _)
      | (with_reducible exact ih1 _ _ _ _ _ _ _ _)
      | (with_reducible exact ih2 _ _ _ _ _ _)
      | (with_reducible exact ih3 _ _ _ _ _)
      | (with_reducible exact ih4 _ _ _ _)
      | (with_reducible exact ih5 _ _ _ _)
      | (with_reducible exact raddlekeep_Bytes.mono _ _ _)
      | (with_reducible exact raddlekeep_SpoilBytes.mono _ _)
      | (with_reducible exact raddlelaw01_wakes.mono _)
      | (with_reducible exact raddleref01_Get.mono _ _ _ _)
      | (with_reducible exact raddleref01_GetInt.mono _ _ _)
      | (with_reducible exact raddleref01_Put.mono _ _ _ _)
      | (with_reducible exact raddleref01_PutInt.mono _ _ _)
      | (with_reducible exact wire_Get.mono _ _ _ _)
      | (with_reducible exact wire_GetInt.mono _ _ _)
      | (with_reducible exact wire_GetText.mono _ _ _)
      | (with_reducible exact wire_Put.mono _ _ _ _)
      | (with_reducible exact wire_PutInt.mono _ _ _)
      | (with_reducible exact LeO.refl _)
      | (with_reducible exact LeO.none _)
      | (with_reducible refine LeO.ite ?_ ?_)
      | (with_reducible refine LeO.bind ?_ (fun _ => ?_))
      | exact ih0 _ _ _ _ _ _
      | exact ih1 _ _ _ _ _ _ _ _
      | exact ih2 _ _ _ _ _ _
      | exact ih3 _ _ _ _ _
      | exact ih4 _ _ _ _
      | exact ih5 _ _ _ _
      | exact raddlekeep_Bytes.mono _ _ _
      | exact raddlekeep_SpoilBytes.mono _ _
      | exact raddlelaw01_wakes.mono _
      | exact raddleref01_Get.mono _ _ _ _
      | exact raddleref01_GetInt.mono _ _ _
      | exact raddleref01_Put.mono _ _ _ _
      | exact raddleref01_PutInt.mono _ _ _
      | exact wire_Get.mono _ _ _ _
      | exact wire_GetInt.mono _ _ _
      | exact wire_GetText.mono _ _ _
      | exact wire_Put.mono _ _ _ _
      | exact wire_PutInt.mono _ _ _
      | exact LeO.none _
      | refine LeO.ite ?_ ?_
      | refine LeO.bind ?_ (fun _ => ?_)
    · intro y0 y1 y2 y3
      unfold raddlelaw01_WireExact.j5
      repeat' first
      | (with_reducible exact ih0 _ _ _ _ _ _)
      | (with_reducible exact ih1 _ _ _ _ _ _ _ _)
      | (with_reducible exact ih2 _ _ _ _ _ _)
      | (with_reducible exact ih3 _ _ _ _ _)
      | (with_reducible exact ih4 _ _ _ _)
      | (with_reducible exact ih5 _ _ _ _)
      | (with_reducible exact raddlekeep_Bytes.mono _ _ _)
      | (with_reducible exact raddlekeep_SpoilBytes.mono _ _)
      | (with_reducible exact raddlelaw01_wakes.mono _)
      | (with_reducible exact raddleref01_Get.mono _ _ _ _)
      | (with_reducible exact raddleref01_GetInt.mono _ _ _)
      | (with_reducible exact raddleref01_Put.mono _ _ _ _)
      | (with_reducible exact raddleref01_PutInt.mono _ _ _)
      | (with_reducible exact wire_Get.mono _ _ _ _)
      | (with_reducible exact wire_GetInt.mono _ _ _)
      | (with_reducible exact wire_GetText.mono _ _ _)
      | (with_reducible exact wire_Put.mono _ _ _ _)
      | (with_reducible exact wire_PutInt.mono _ _ _)
      | (with_reducible exact LeO.refl _)
      | (with_reducible exact LeO.none _)
      | (with_reducible refine LeO.ite ?_ ?_)
      | (with_reducible refine LeO.bind ?_ (fun _ => ?_))
      | exact ih0 _ _ _ _ _ _
      | exact ih1 _ _ _ _ _ _ _ _
      | exact ih2 _ _ _ _ _ _
      | exact ih3 _ _ _ _ _
      | exact ih4 _ _ _ _
      | exact ih5 _ _ _ _
      | exact raddlekeep_Bytes.mono _ _ _
      | exact raddlekeep_SpoilBytes.mono _ _
      | exact raddlelaw01_wakes.mono _
      | exact raddleref01_Get.mono _ _ _ _
      | exact raddleref01_GetInt.mono _ _ _
      | exact raddleref01_Put.mono _ _ _ _
      | exact raddleref01_PutInt.mono _ _ _
      | exact wire_Get.mono _ _ _ _
      | exact wire_GetInt.mono _ _ _
      | exact wire_GetText.mono _ _ _
      | exact wire_Put.mono _ _ _ _
      | exact wire_PutInt.mono _ _ _
      | exact LeO.none _
      | refine LeO.ite ?_ ?_
      | refine LeO.bind ?_ (fun _ => ?_)
theorem raddlelaw01_WireExact.mono : ∀ a0 a1 a2 a3 a4 k, LeO (raddlelaw01_WireExact.f k a0 a1 a2 a3 a4) (raddlelaw01_WireExact.f (k + 1) a0 a1 a2 a3 a4) := by
  intro a0 a1 a2 a3 a4 k
  obtain ⟨ih0, ih1, ih2, ih3, ih4, ih5⟩ := raddlelaw01_WireExact.mono_l k
  unfold raddlelaw01_WireExact.f
  repeat' first
      | (with_reducible exact ih0 _ _ _ _ _ _)
      | (with_reducible exact ih1 _ _ _ _ _ _ _ _)
      | (with_reducible exact ih2 _ _ _ _ _ _)
      | (with_reducible exact ih3 _ _ _ _ _)
      | (with_reducible exact ih4 _ _ _ _)
      | (with_reducible exact ih5 _ _ _ _)
      | (with_reducible exact raddlekeep_Bytes.mono _ _ _)
      | (with_reducible exact raddlekeep_SpoilBytes.mono _ _)
      | (with_reducible exact raddlelaw01_wakes.mono _)
      | (with_reducible exact raddleref01_Get.mono _ _ _ _)
      | (with_reducible exact raddleref01_GetInt.mono _ _ _)
      | (with_reducible exact raddleref01_Put.mono _ _ _ _)
      | (with_reducible exact raddleref01_PutInt.mono _ _ _)
      | (with_reducible exact wire_Get.mono _ _ _ _)
      | (with_reducible exact wire_GetInt.mono _ _ _)
      | (with_reducible exact wire_GetText.mono _ _ _)
      | (with_reducible exact wire_Put.mono _ _ _ _)
      | (with_reducible exact wire_PutInt.mono _ _ _)
      | (with_reducible exact LeO.refl _)
      | (with_reducible exact LeO.none _)
      | (with_reducible refine LeO.ite ?_ ?_)
      | (with_reducible refine LeO.bind ?_ (fun _ => ?_))
      | exact ih0 _ _ _ _ _ _
      | exact ih1 _ _ _ _ _ _ _ _
      | exact ih2 _ _ _ _ _ _
      | exact ih3 _ _ _ _ _
      | exact ih4 _ _ _ _
      | exact ih5 _ _ _ _
      | exact raddlekeep_Bytes.mono _ _ _
      | exact raddlekeep_SpoilBytes.mono _ _
      | exact raddlelaw01_wakes.mono _
      | exact raddleref01_Get.mono _ _ _ _
      | exact raddleref01_GetInt.mono _ _ _
      | exact raddleref01_Put.mono _ _ _ _
      | exact raddleref01_PutInt.mono _ _ _
      | exact wire_Get.mono _ _ _ _
      | exact wire_GetInt.mono _ _ _
      | exact wire_GetText.mono _ _ _
      | exact wire_Put.mono _ _ _ _
      | exact wire_PutInt.mono _ _ _
      | exact LeO.none _
      | refine LeO.ite ?_ ?_
      | refine LeO.bind ?_ (fun _ => ?_)
set_option maxHeartbeats 8000000 in
set_option maxRecDepth 100000 in
theorem raddlelaw01_WireExact.calls (k : Nat) (A0 : Option Addr) (c0 : Nat) (l0 : List Int) (a1 : Int) (a2 : Int) (a3 : Int) (a4 : ByteArray) (r : Bool) (w : World) (hr0 : Kd.C (Kd.int .u8) w A0 l0.length l0) (hc0 : l0.length ≤ c0) (h : raddlelaw01_WireExact.f k l0 a1 a2 a3 a4 = some r) :
    Calls Try.prog 6 #[.slice A0 l0.length c0, .int .i64 a1, .int .i64 a2, .int .i64 a3, .string a4] w fun e w' => e = .returned (.bool r) ∧ Below w.heap.size w w' := by
  have HR0 := Aside0.mk hr0
  have HC0 := Aside0.mk hc0
  clear hr0 hc0
  have HB := Aside0.mk (Below.refl w.heap.size w)
  have H : (if (l0.length : Int) > 300 then (raddlelaw01_WireExact.j0 k l0 a1 a2 a3 a4 true) else (raddlelaw01_WireExact.j0 k l0 a1 a2 a3 a4 (decide ((a4.size : Int) > 300)))) = some r := h
  clear h
  have HC6 := Aside0.mk H
  clear H
  go_enter Try.func6, Try.ntmps6
  go_upto_region 1 with (fail)
  go_cut [29] (fun v29 wc => ∃ (kq : Nat) (x29_5 : Bool), v29 = .bool x29_5 ∧ Aside0 (raddlelaw01_WireExact.j0 kq l0 a1 a2 a3 a4 x29_5 = some r) ∧ Aside0 (kq ≤ k) ∧ Aside0 (Below w.heap.size w wc))
  case first =>
    have H := HC6.out
    clear HC6
    by_cases c7 : (l0.length : Int) > 300
    · rw [if_pos c7] at H
      have c7b0 : decide (300 < (l0.length : Int)) = true := decide_eq_true c7
      have c7b1 : decide (300 < l0.length) = true := decide_eq_true (by omega)
      clear c7
      (first | rw [c7b0] | (simp only [i64_w, i32_w]; rw [c7b0]) | skip)
      have H' := Aside0.mk H
      clear H
      go_wp2
      go_meet
      case rel => exact ⟨_, (true), (by first | rfl | (simp; done) | (simp [*]; done)), H', ⟨by first | omega | exact Nat.le_refl _⟩, ⟨by repeat (first | (with_reducible first | exact HB.out | apply below_alloc | apply pw_below_drewN | apply below_drew1) | exact HB.out)⟩⟩
    · rw [if_neg c7] at H
      have c7b0 : decide (300 < (l0.length : Int)) = false := decide_eq_false c7
      have c7b1 : decide (300 < l0.length) = false := decide_eq_false (by omega)
      clear c7
      (first | rw [c7b0] | (simp only [i64_w, i32_w]; rw [c7b0]) | skip)
      have H' := Aside0.mk H
      clear H
      go_wp2
      go_meet
      case rel => exact ⟨_, (decide ((a4.size : Int) > 300)), (by first | rfl | (simp; done) | (simp [*]; done)), H', ⟨by first | omega | exact Nat.le_refl _⟩, ⟨by repeat (first | (with_reducible first | exact HB.out | apply below_alloc | apply pw_below_drewN | apply below_drew1) | exact HB.out)⟩⟩
  case rest => as_aux_lemma =>
    clear HC6
    try clear p2
    try clear c6
    try clear c7
    try clear c7b0
    try clear c7b1
    obtain ⟨kq, x29_5, rfl, HA, HJ5, HB⟩ := hcut
    cases kq with
    | zero => exact absurd HA.out (by simp [raddlelaw01_WireExact.j0])
    | succ kj5 =>
      have H := HA.out
      clear HA
      simp only [raddlelaw01_WireExact.j0] at H
      by_cases c8 : x29_5 = true
      · subst c8
        have H1 : (some true) = some r := by rw [if_pos rfl] at H; exact H
        clear H
        have H := H1
        clear H1
        obtain rfl := Option.some.inj H
        go_wp2
        go_ret
        exact ⟨by first | rfl | (simp [errW_none, errW_some] <;> rfl) | (simp [*, errW_none, errW_some] <;> rfl), by repeat (first | (with_reducible first | exact HB.out | apply below_alloc | apply pw_below_drewN | apply below_drew1) | exact HB.out)⟩
      · replace c8 := Bool.eq_false_iff.mpr c8
        subst c8
        have H1 : ((raddlekeep_Twin.f l0).bind fun t316 => ((wire_Put.f kj5 t316 a1 a3).bind fun bt319 => ((raddleref01_Put.f kj5 l0 a1 a3).bind fun bt323 => ((raddlekeep_Bytes.f kj5 bt319.1 bt323.1).bind fun t327 => (if t327 = true then (raddlelaw01_WireExact.j1 kj5 l0 a1 a2 a3 a4 t316 bt319.1 (bt319.2 != bt323.2)) else (raddlelaw01_WireExact.j1 kj5 l0 a1 a2 a3 a4 t316 bt319.1 true)))))) = some r := by rw [if_neg (show ¬ (false = true) by decide)] at H; exact H
        clear H
        have H := H1
        clear H1
        replace H := Option.bind_eq_some_iff.mp H
        obtain ⟨t316, A90, H⟩ := H
        replace H : ((wire_Put.f kj5 t316 a1 a3).bind fun bt319 => ((raddleref01_Put.f kj5 l0 a1 a3).bind fun bt323 => ((raddlekeep_Bytes.f kj5 bt319.1 bt323.1).bind fun t327 => (if t327 = true then (raddlelaw01_WireExact.j1 kj5 l0 a1 a2 a3 a4 t316 bt319.1 (bt319.2 != bt323.2)) else (raddlelaw01_WireExact.j1 kj5 l0 a1 a2 a3 a4 t316 bt319.1 true))))) = some r := H
        have A9 := Aside0.mk A90
        clear A90
        replace H := Option.bind_eq_some_iff.mp H
        obtain ⟨⟨t319, t320⟩, A100, H⟩ := H
        replace H : ((raddleref01_Put.f kj5 l0 a1 a3).bind fun bt323 => ((raddlekeep_Bytes.f kj5 t319 bt323.1).bind fun t327 => (if t327 = true then (raddlelaw01_WireExact.j1 kj5 l0 a1 a2 a3 a4 t316 t319 (t320 != bt323.2)) else (raddlelaw01_WireExact.j1 kj5 l0 a1 a2 a3 a4 t316 t319 true)))) = some r := H
        have A10 := Aside0.mk A100
        clear A100
        replace H := Option.bind_eq_some_iff.mp H
        obtain ⟨⟨t323, t324⟩, A110, H⟩ := H
        replace H : ((raddlekeep_Bytes.f kj5 t319 t323).bind fun t327 => (if t327 = true then (raddlelaw01_WireExact.j1 kj5 l0 a1 a2 a3 a4 t316 t319 (t320 != t324)) else (raddlelaw01_WireExact.j1 kj5 l0 a1 a2 a3 a4 t316 t319 true))) = some r := H
        have A11 := Aside0.mk A110
        clear A110
        have HC12 := Aside0.mk H
        clear H
        go_upto_region 6 with (first | ((with_reducible refine gate_callee (f := 15) rfl ?_); refine goesL_ (some 31) rfl rfl Try.func15 (by kernel_rfl) rfl #[.slice A0 l0.length c0] rfl (by (try simp only [List.map_toArray, List.map_cons, List.map_nil]); first | done | rfl | (simp only [List.length_drop, List.length_take]; rfl)) ?_; (with_reducible refine (raddlekeep_Twin.calls _ _ l0 t316 _ ?side1 ?side2 A9.out).mono ?_); (case side1 => repeat (first | exact (Kd.C_below HR0.out HB.out) | (with_reducible refine Kd.C_alloc ?_ _) | (with_reducible refine Kd.C_drewN ?_ _) | (with_reducible refine Kd.C_drew ?_))); (case side2 => exact HC0.out); rintro e w13 ⟨v317, rfl, ho0, hb⟩; refine ⟨_, rfl, ?_⟩; have n0_ := Aside0.mk (Kd.R_lower ho0 (below_size (by repeat (first | (with_reducible first | exact HB.out | apply below_alloc | apply pw_below_drewN | apply below_drew1) | exact HB.out)))); have n1_ := Aside0.mk (below_step (by repeat (first | (with_reducible first | exact HB.out | apply below_alloc | apply pw_below_drewN | apply below_drew1) | exact HB.out)) hb); clear HB; have HO318 := n0_; have HB := n1_; clear n0_ n1_; (try clear hb); (try clear hb2); (try clear hk); (try clear hi); (try clear ho0); obtain ⟨Ao14, co14, eo14⟩ := Kd.R_slice HO318.out; subst eo14) | ((with_reducible refine gate_callee (f := 13) rfl ?_); refine goesL_ (some 36) rfl rfl Try.func13 (by kernel_rfl) rfl #[.slice Ao14 t316.length co14, .int .i64 a1, .int .i64 a3] rfl (by (try simp only [List.map_toArray, List.map_cons, List.map_nil]); first | done | rfl | (simp only [List.length_drop, List.length_take]; rfl)) ?_; (with_reducible refine (wire_Put.calls kj5 _ _ t316 a1 a3 t319 t320 _ ?side1 ?side2 A10.out).mono ?_); (case side1 => repeat (first | exact (Kd.R_reads' HO318.out).2.2 | (with_reducible refine Kd.C_alloc ?_ _) | (with_reducible refine Kd.C_drewN ?_ _) | (with_reducible refine Kd.C_drew ?_))); (case side2 => exact (Kd.R_reads' HO318.out).2.1); rintro e w15 ⟨v321, rfl, ho0, hb⟩; refine ⟨_, rfl, ?_⟩; have n0_ := Aside0.mk (Kd.R_elder' (by (with_reducible repeat (first | apply Kd.R_alloc | apply Kd.R_drewN | apply Kd.R_drew)); exact HO318.out) (Kd.R_base ho0) hb); have n1_ := Aside0.mk (Kd.R_lower (Kd.R_new' ho0 (Kd.R_lt (by (with_reducible repeat (first | apply Kd.R_alloc | apply Kd.R_drewN | apply Kd.R_drew)); exact HO318.out))) (below_size (by repeat (first | (with_reducible first | exact HB.out | apply below_alloc | apply pw_below_drewN | apply below_drew1) | exact HB.out)))); have n2_ := Aside0.mk (below_step (by repeat (first | (with_reducible first | exact HB.out | apply below_alloc | apply pw_below_drewN | apply below_drew1) | exact HB.out)) hb); clear HO318; clear HB; have HO318 := n0_; have HO322 := n1_; have HB := n2_; clear n0_ n1_ n2_; (try clear hb); (try clear hb2); (try clear hk); (try clear hi); (try clear ho0)) | ((with_reducible refine gate_callee (f := 18) rfl ?_); refine goesL_ (some 43) rfl rfl Try.func18 (by kernel_rfl) rfl #[.slice A0 l0.length c0, .int .i64 a1, .int .i64 a3] rfl (by (try simp only [List.map_toArray, List.map_cons, List.map_nil]); first | done | rfl | (simp only [List.length_drop, List.length_take]; rfl)) ?_; (with_reducible refine (raddleref01_Put.calls kj5 _ _ l0 a1 a3 t323 t324 _ ?side1 ?side2 A11.out).mono ?_); (case side1 => repeat (first | exact (Kd.C_below HR0.out HB.out) | (with_reducible refine Kd.C_alloc ?_ _) | (with_reducible refine Kd.C_drewN ?_ _) | (with_reducible refine Kd.C_drew ?_))); (case side2 => exact HC0.out); rintro e w16 ⟨v325, rfl, ho0, hb⟩; refine ⟨_, rfl, ?_⟩; have n0_ := Aside0.mk (Kd.R_elder' (by (with_reducible repeat (first | apply Kd.R_alloc | apply Kd.R_drewN | apply Kd.R_drew)); exact HO318.out) (Kd.R_base ho0) hb); have n1_ := Aside0.mk (Kd.R_elder' (by (with_reducible repeat (first | apply Kd.R_alloc | apply Kd.R_drewN | apply Kd.R_drew)); exact HO322.out) (Kd.R_base ho0) hb); have n2_ := Aside0.mk (Kd.R_lower (Kd.R_new' (Kd.R_new' ho0 (Kd.R_lt (by (with_reducible repeat (first | apply Kd.R_alloc | apply Kd.R_drewN | apply Kd.R_drew)); exact HO318.out))) (Kd.R_lt (by (with_reducible repeat (first | apply Kd.R_alloc | apply Kd.R_drewN | apply Kd.R_drew)); exact HO322.out))) (below_size (by repeat (first | (with_reducible first | exact HB.out | apply below_alloc | apply pw_below_drewN | apply below_drew1) | exact HB.out)))); have n3_ := Aside0.mk (below_step (by repeat (first | (with_reducible first | exact HB.out | apply below_alloc | apply pw_below_drewN | apply below_drew1) | exact HB.out)) hb); clear HO318; clear HO322; clear HB; have HO318 := n0_; have HO322 := n1_; have HO326 := n2_; have HB := n3_; clear n0_ n1_ n2_ n3_; (try clear hb); (try clear hb2); (try clear hk); (try clear hi); (try clear ho0)))
        (try simp only [Act.put, List.setIfInBounds_toArray, List.set_cons_zero, List.set_cons_succ])
        go_cut [54] (fun v54 wc => ∃ (kq : Nat) (x54_11 : Bool), v54 = .bool x54_11 ∧ Aside0 (raddlelaw01_WireExact.j1 kq l0 a1 a2 a3 a4 t316 t319 x54_11 = some r) ∧ Aside0 (kq ≤ kj5) ∧ Aside0 (Kd.R (Kd.int .u8) 5 wc w.heap.size (fun k_ => some k_ ≠ (v321 : Value).ownBlock) (.slice Ao14 t316.length co14) t316) ∧ Aside0 (Kd.R (Kd.int .u8) 5 wc w.heap.size (fun k_ => some k_ ≠ ((.slice Ao14 t316.length co14) : Value).ownBlock) v321 t319) ∧ Aside0 (Below w.heap.size w wc))
        case first =>
          have H := HC12.out
          clear HC12
          replace H := Option.bind_eq_some_iff.mp H
          obtain ⟨t327, A170, H⟩ := H
          replace H : (if t327 = true then (raddlelaw01_WireExact.j1 kj5 l0 a1 a2 a3 a4 t316 t319 (t320 != t324)) else (raddlelaw01_WireExact.j1 kj5 l0 a1 a2 a3 a4 t316 t319 true)) = some r := H
          have A17 := Aside0.mk A170
          clear A170
          by_cases c18 : t327 = true
          · subst c18
            have H1 : (raddlelaw01_WireExact.j1 kj5 l0 a1 a2 a3 a4 t316 t319 (t320 != t324)) = some r := by rw [if_pos rfl] at H; exact H
            clear H
            have H := H1
            clear H1
            have H' := Aside0.mk H
            clear H
            obtain ⟨Ao19, co19, eo19⟩ := Kd.R_slice HO322.out
            subst eo19
            obtain ⟨Ao20, co20, eo20⟩ := Kd.R_slice HO326.out
            subst eo20
            go_wp2_with (first | ((with_reducible refine gate_callee (f := 14) rfl ?_); refine goesL_ (some 48) rfl rfl Try.func14 (by kernel_rfl) rfl #[.slice Ao19 t319.length co19, .slice Ao20 t323.length co20] rfl (by (try simp only [List.map_toArray, List.map_cons, List.map_nil]); first | done | rfl | (simp only [List.length_drop, List.length_take]; rfl)) ?_; (with_reducible refine (raddlekeep_Bytes.calls kj5 _ _ t319 _ _ t323 true _ ?side1 ?side2 ?side3 ?side4 A17.out).mono ?_); (case side1 => repeat (first | exact (Kd.R_reads' HO322.out).2.2 | (with_reducible refine Kd.C_alloc ?_ _) | (with_reducible refine Kd.C_drewN ?_ _) | (with_reducible refine Kd.C_drew ?_))); (case side2 => exact (Kd.R_reads' HO322.out).2.1); (case side3 => repeat (first | exact (Kd.R_reads' HO326.out).2.2 | (with_reducible refine Kd.C_alloc ?_ _) | (with_reducible refine Kd.C_drewN ?_ _) | (with_reducible refine Kd.C_drew ?_))); (case side4 => exact (Kd.R_reads' HO326.out).2.1); rintro e w' ⟨rfl, ⟨nd, rfl⟩⟩; refine ⟨_, rfl, ?_⟩))
            go_meet
            case rel => exact ⟨_, ((t320 != t324)), (by first | rfl | (simp; done) | (simp [*]; done)), H', ⟨by have := HJ5.out; first | omega | exact Nat.le_refl _⟩, ⟨by (with_reducible repeat (first | apply Kd.R_alloc | apply Kd.R_drewN | apply Kd.R_drew)); exact Kd.R_mono HO318.out (fun _ hk => hk.1.2)⟩, ⟨by (with_reducible repeat (first | apply Kd.R_alloc | apply Kd.R_drewN | apply Kd.R_drew)); exact Kd.R_mono HO322.out (fun _ hk => hk.1.2)⟩, ⟨by repeat (first | (with_reducible first | exact HB.out | apply below_alloc | apply pw_below_drewN | apply below_drew1) | exact HB.out)⟩⟩
          · replace c18 := Bool.eq_false_iff.mpr c18
            subst c18
            have H1 : (raddlelaw01_WireExact.j1 kj5 l0 a1 a2 a3 a4 t316 t319 true) = some r := by rw [if_neg (show ¬ (false = true) by decide)] at H; exact H
            clear H
            have H := H1
            clear H1
            have H' := Aside0.mk H
            clear H
            obtain ⟨Ao21, co21, eo21⟩ := Kd.R_slice HO322.out
            subst eo21
            obtain ⟨Ao22, co22, eo22⟩ := Kd.R_slice HO326.out
            subst eo22
            go_wp2_with (first | ((with_reducible refine gate_callee (f := 14) rfl ?_); refine goesL_ (some 48) rfl rfl Try.func14 (by kernel_rfl) rfl #[.slice Ao21 t319.length co21, .slice Ao22 t323.length co22] rfl (by (try simp only [List.map_toArray, List.map_cons, List.map_nil]); first | done | rfl | (simp only [List.length_drop, List.length_take]; rfl)) ?_; (with_reducible refine (raddlekeep_Bytes.calls kj5 _ _ t319 _ _ t323 false _ ?side1 ?side2 ?side3 ?side4 A17.out).mono ?_); (case side1 => repeat (first | exact (Kd.R_reads' HO322.out).2.2 | (with_reducible refine Kd.C_alloc ?_ _) | (with_reducible refine Kd.C_drewN ?_ _) | (with_reducible refine Kd.C_drew ?_))); (case side2 => exact (Kd.R_reads' HO322.out).2.1); (case side3 => repeat (first | exact (Kd.R_reads' HO326.out).2.2 | (with_reducible refine Kd.C_alloc ?_ _) | (with_reducible refine Kd.C_drewN ?_ _) | (with_reducible refine Kd.C_drew ?_))); (case side4 => exact (Kd.R_reads' HO326.out).2.1); rintro e w' ⟨rfl, ⟨nd, rfl⟩⟩; refine ⟨_, rfl, ?_⟩))
            go_meet
            case rel => exact ⟨_, (true), (by first | rfl | (simp; done) | (simp [*]; done)), H', ⟨by have := HJ5.out; first | omega | exact Nat.le_refl _⟩, ⟨by (with_reducible repeat (first | apply Kd.R_alloc | apply Kd.R_drewN | apply Kd.R_drew)); exact Kd.R_mono HO318.out (fun _ hk => hk.1.2)⟩, ⟨by (with_reducible repeat (first | apply Kd.R_alloc | apply Kd.R_drewN | apply Kd.R_drew)); exact Kd.R_mono HO322.out (fun _ hk => hk.1.2)⟩, ⟨by repeat (first | (with_reducible first | exact HB.out | apply below_alloc | apply pw_below_drewN | apply below_drew1) | exact HB.out)⟩⟩
        case rest => as_aux_lemma =>
          clear HC12
          try clear c1
          try clear p2
          try clear c6
          try clear c7
          try clear c7b0
          try clear c7b1
          try clear c8
          try clear c13
          try clear c14
          try clear c15
          try clear c18
          try clear p2
          obtain ⟨kq, x54_11, rfl, HA, HJ11, HO_11, HO_12, HB⟩ := hcut
          cases kq with
          | zero => exact absurd HA.out (by simp [raddlelaw01_WireExact.j1])
          | succ kj11 =>
            have H := HA.out
            clear HA
            simp only [raddlelaw01_WireExact.j1] at H
            by_cases c23 : x54_11 = true
            · subst c23
              have H1 : (some false) = some r := by rw [if_pos rfl] at H; exact H
              clear H
              have H := H1
              clear H1
              obtain rfl := Option.some.inj H
              go_wp2
              go_ret
              exact ⟨by first | rfl | (simp [errW_none, errW_some] <;> rfl) | (simp [*, errW_none, errW_some] <;> rfl), by repeat (first | (with_reducible first | exact HB.out | apply below_alloc | apply pw_below_drewN | apply below_drew1) | exact HB.out)⟩
            · replace c23 := Bool.eq_false_iff.mpr c23
              subst c23
              have H1 : ((raddlekeep_SpoilBytes.f kj11 t319).bind fun t328 => ((wire_PutInt.f kj11 t316 a1).bind fun bt329 => ((raddleref01_PutInt.f kj11 l0 a1).bind fun bt333 => ((raddlekeep_Bytes.f kj11 bt329.1 bt333.1).bind fun t337 => (if t337 = true then (raddlelaw01_WireExact.j2 kj11 l0 a2 a3 a4 t316 (bt329.2 != bt333.2)) else (raddlelaw01_WireExact.j2 kj11 l0 a2 a3 a4 t316 true)))))) = some r := by rw [if_neg (show ¬ (false = true) by decide)] at H; exact H
              clear H
              have H := H1
              clear H1
              replace H := Option.bind_eq_some_iff.mp H
              obtain ⟨t328, A240, H⟩ := H
              replace H : ((wire_PutInt.f kj11 t316 a1).bind fun bt329 => ((raddleref01_PutInt.f kj11 l0 a1).bind fun bt333 => ((raddlekeep_Bytes.f kj11 bt329.1 bt333.1).bind fun t337 => (if t337 = true then (raddlelaw01_WireExact.j2 kj11 l0 a2 a3 a4 t316 (bt329.2 != bt333.2)) else (raddlelaw01_WireExact.j2 kj11 l0 a2 a3 a4 t316 true))))) = some r := H
              have A24 := Aside0.mk A240
              clear A240
              replace H := Option.bind_eq_some_iff.mp H
              obtain ⟨⟨t329, t330⟩, A250, H⟩ := H
              replace H : ((raddleref01_PutInt.f kj11 l0 a1).bind fun bt333 => ((raddlekeep_Bytes.f kj11 t329 bt333.1).bind fun t337 => (if t337 = true then (raddlelaw01_WireExact.j2 kj11 l0 a2 a3 a4 t316 (t330 != bt333.2)) else (raddlelaw01_WireExact.j2 kj11 l0 a2 a3 a4 t316 true)))) = some r := H
              have A25 := Aside0.mk A250
              clear A250
              replace H := Option.bind_eq_some_iff.mp H
              obtain ⟨⟨t333, t334⟩, A260, H⟩ := H
              replace H : ((raddlekeep_Bytes.f kj11 t329 t333).bind fun t337 => (if t337 = true then (raddlelaw01_WireExact.j2 kj11 l0 a2 a3 a4 t316 (t330 != t334)) else (raddlelaw01_WireExact.j2 kj11 l0 a2 a3 a4 t316 true))) = some r := H
              have A26 := Aside0.mk A260
              clear A260
              have HC27 := Aside0.mk H
              clear H
              obtain ⟨Ao28, co28, eo28⟩ := Kd.R_slice HO_12.out
              subst eo28
              go_upto_region 11 with (first | ((with_reducible refine gate_callee (f := 19) rfl ?_); refine goesL_ (some 56) rfl rfl Try.func19 (by kernel_rfl) rfl #[.slice Ao28 t319.length co28] rfl (by (try simp only [List.map_toArray, List.map_cons, List.map_nil]); first | done | rfl | (simp only [List.length_drop, List.length_take]; rfl)) ?_; (with_reducible refine (raddlekeep_SpoilBytes.calls kj11 (fun k_ => some k_ = (.slice Ao28 t319.length co28 : Value).ownBlock) (.slice Ao28 t319.length co28) t319 t328 w _ ?side1 ?side2 A24.out).mono ?_); (case side1 => repeat (first | (with_reducible first | exact HB.out | apply below_alloc | apply pw_below_drewN | apply below_drew1) | exact HB.out)); (case side2 => exact Kd.R_tight rfl HO_12.out); rintro e w29 ⟨rfl, hy0, hb, hkp⟩; refine ⟨_, rfl, ?_⟩; have n0_ := Aside0.mk (Kd.R_mono (ok' := fun k_ => some k_ ≠ (.slice Ao28 t319.length co28 : Value).ownBlock) (Kd.R_keptB (HO_11.out) hkp (fun k_ hk_ hs_ => (hk_) hs_)) (fun k_ hk_ => hk_.1)); have n1_ := Aside0.mk (Kd.R_reok rfl hy0 (fun k_ e_ => HO_12.out.1 k_ e_)); have n2_ := Aside0.mk (hb); clear HO_11; clear HO_12; clear HB; have HO_11 := n0_; have HO_12 := n1_; have HB := n2_; clear n0_ n1_ n2_; (try clear hb); (try clear hkp); (try clear hy0)) | ((with_reducible refine gate_callee (f := 9) rfl ?_); refine goesL_ (some 60) rfl rfl Try.func9 (by kernel_rfl) rfl #[.slice Ao14 t316.length co14, .int .i64 a1] rfl (by (try simp only [List.map_toArray, List.map_cons, List.map_nil]); first | done | rfl | (simp only [List.length_drop, List.length_take]; rfl)) ?_; (with_reducible refine (wire_PutInt.calls kj11 _ _ t316 a1 t329 t330 _ ?side1 ?side2 A25.out).mono ?_); (case side1 => repeat (first | exact (Kd.R_reads' HO_11.out).2.2 | (with_reducible refine Kd.C_alloc ?_ _) | (with_reducible refine Kd.C_drewN ?_ _) | (with_reducible refine Kd.C_drew ?_))); (case side2 => exact (Kd.R_reads' HO_11.out).2.1); rintro e w30 ⟨v331, rfl, ho0, hb⟩; refine ⟨_, rfl, ?_⟩; have n0_ := Aside0.mk (Kd.R_elder' (by (with_reducible repeat (first | apply Kd.R_alloc | apply Kd.R_drewN | apply Kd.R_drew)); exact HO_11.out) (Kd.R_base ho0) hb); have n1_ := Aside0.mk (Kd.R_elder' (by (with_reducible repeat (first | apply Kd.R_alloc | apply Kd.R_drewN | apply Kd.R_drew)); exact HO_12.out) (Kd.R_base ho0) hb); have n2_ := Aside0.mk (Kd.R_lower (Kd.R_new' (Kd.R_new' ho0 (Kd.R_lt (by (with_reducible repeat (first | apply Kd.R_alloc | apply Kd.R_drewN | apply Kd.R_drew)); exact HO_11.out))) (Kd.R_lt (by (with_reducible repeat (first | apply Kd.R_alloc | apply Kd.R_drewN | apply Kd.R_drew)); exact HO_12.out))) (below_size (by repeat (first | (with_reducible first | exact HB.out | apply below_alloc | apply pw_below_drewN | apply below_drew1) | exact HB.out)))); have n3_ := Aside0.mk (below_step (by repeat (first | (with_reducible first | exact HB.out | apply below_alloc | apply pw_below_drewN | apply below_drew1) | exact HB.out)) hb); clear HO_11; clear HO_12; clear HB; have HO_11 := n0_; have HO_12 := n1_; have HO332 := n2_; have HB := n3_; clear n0_ n1_ n2_ n3_; (try clear hb); (try clear hb2); (try clear hk); (try clear hi); (try clear ho0)) | ((with_reducible refine gate_callee (f := 20) rfl ?_); refine goesL_ (some 66) rfl rfl Try.func20 (by kernel_rfl) rfl #[.slice A0 l0.length c0, .int .i64 a1] rfl (by (try simp only [List.map_toArray, List.map_cons, List.map_nil]); first | done | rfl | (simp only [List.length_drop, List.length_take]; rfl)) ?_; (with_reducible refine (raddleref01_PutInt.calls kj11 _ _ l0 a1 t333 t334 _ ?side1 ?side2 A26.out).mono ?_); (case side1 => repeat (first | exact (Kd.C_below HR0.out HB.out) | (with_reducible refine Kd.C_alloc ?_ _) | (with_reducible refine Kd.C_drewN ?_ _) | (with_reducible refine Kd.C_drew ?_))); (case side2 => exact HC0.out); rintro e w31 ⟨v335, rfl, ho0, hb⟩; refine ⟨_, rfl, ?_⟩; have n0_ := Aside0.mk (Kd.R_elder' (by (with_reducible repeat (first | apply Kd.R_alloc | apply Kd.R_drewN | apply Kd.R_drew)); exact HO_11.out) (Kd.R_base ho0) hb); have n1_ := Aside0.mk (Kd.R_elder' (by (with_reducible repeat (first | apply Kd.R_alloc | apply Kd.R_drewN | apply Kd.R_drew)); exact HO_12.out) (Kd.R_base ho0) hb); have n2_ := Aside0.mk (Kd.R_elder' (by (with_reducible repeat (first | apply Kd.R_alloc | apply Kd.R_drewN | apply Kd.R_drew)); exact HO332.out) (Kd.R_base ho0) hb); have n3_ := Aside0.mk (Kd.R_lower (Kd.R_new' (Kd.R_new' (Kd.R_new' ho0 (Kd.R_lt (by (with_reducible repeat (first | apply Kd.R_alloc | apply Kd.R_drewN | apply Kd.R_drew)); exact HO_11.out))) (Kd.R_lt (by (with_reducible repeat (first | apply Kd.R_alloc | apply Kd.R_drewN | apply Kd.R_drew)); exact HO_12.out))) (Kd.R_lt (by (with_reducible repeat (first | apply Kd.R_alloc | apply Kd.R_drewN | apply Kd.R_drew)); exact HO332.out))) (below_size (by repeat (first | (with_reducible first | exact HB.out | apply below_alloc | apply pw_below_drewN | apply below_drew1) | exact HB.out)))); have n4_ := Aside0.mk (below_step (by repeat (first | (with_reducible first | exact HB.out | apply below_alloc | apply pw_below_drewN | apply below_drew1) | exact HB.out)) hb); clear HO_11; clear HO_12; clear HO332; clear HB; have HO_11 := n0_; have HO_12 := n1_; have HO332 := n2_; have HO336 := n3_; have HB := n4_; clear n0_ n1_ n2_ n3_ n4_; (try clear hb); (try clear hb2); (try clear hk); (try clear hi); (try clear ho0)))
              (try simp only [Act.put, List.setIfInBounds_toArray, List.set_cons_zero, List.set_cons_succ])
              go_cut [77] (fun v77 wc => ∃ (kq : Nat) (x77_26 : Bool), v77 = .bool x77_26 ∧ Aside0 (raddlelaw01_WireExact.j2 kq l0 a2 a3 a4 t316 x77_26 = some r) ∧ Aside0 (kq ≤ kj11) ∧ Aside0 (Kd.R (Kd.int .u8) 5 wc w.heap.size (fun _ => True) (.slice Ao14 t316.length co14) t316) ∧ Aside0 (Below w.heap.size w wc))
              case first =>
                have H := HC27.out
                clear HC27
                replace H := Option.bind_eq_some_iff.mp H
                obtain ⟨t337, A320, H⟩ := H
                replace H : (if t337 = true then (raddlelaw01_WireExact.j2 kj11 l0 a2 a3 a4 t316 (t330 != t334)) else (raddlelaw01_WireExact.j2 kj11 l0 a2 a3 a4 t316 true)) = some r := H
                have A32 := Aside0.mk A320
                clear A320
                by_cases c33 : t337 = true
                · subst c33
                  have H1 : (raddlelaw01_WireExact.j2 kj11 l0 a2 a3 a4 t316 (t330 != t334)) = some r := by rw [if_pos rfl] at H; exact H
                  clear H
                  have H := H1
                  clear H1
                  have H' := Aside0.mk H
                  clear H
                  obtain ⟨Ao34, co34, eo34⟩ := Kd.R_slice HO332.out
                  subst eo34
                  obtain ⟨Ao35, co35, eo35⟩ := Kd.R_slice HO336.out
                  subst eo35
                  go_wp2_with (first | ((with_reducible refine gate_callee (f := 14) rfl ?_); refine goesL_ (some 71) rfl rfl Try.func14 (by kernel_rfl) rfl #[.slice Ao34 t329.length co34, .slice Ao35 t333.length co35] rfl (by (try simp only [List.map_toArray, List.map_cons, List.map_nil]); first | done | rfl | (simp only [List.length_drop, List.length_take]; rfl)) ?_; (with_reducible refine (raddlekeep_Bytes.calls kj11 _ _ t329 _ _ t333 true _ ?side1 ?side2 ?side3 ?side4 A32.out).mono ?_); (case side1 => repeat (first | exact (Kd.R_reads' HO332.out).2.2 | (with_reducible refine Kd.C_alloc ?_ _) | (with_reducible refine Kd.C_drewN ?_ _) | (with_reducible refine Kd.C_drew ?_))); (case side2 => exact (Kd.R_reads' HO332.out).2.1); (case side3 => repeat (first | exact (Kd.R_reads' HO336.out).2.2 | (with_reducible refine Kd.C_alloc ?_ _) | (with_reducible refine Kd.C_drewN ?_ _) | (with_reducible refine Kd.C_drew ?_))); (case side4 => exact (Kd.R_reads' HO336.out).2.1); rintro e w' ⟨rfl, ⟨nd, rfl⟩⟩; refine ⟨_, rfl, ?_⟩))
                  go_meet
                  case rel => exact ⟨_, ((t330 != t334)), (by first | rfl | (simp; done) | (simp [*]; done)), H', ⟨by have := HJ5.out; have := HJ11.out; first | omega | exact Nat.le_refl _⟩, ⟨by (with_reducible repeat (first | apply Kd.R_alloc | apply Kd.R_drewN | apply Kd.R_drew)); exact Kd.R_mono HO_11.out (fun _ hk => trivial)⟩, ⟨by repeat (first | (with_reducible first | exact HB.out | apply below_alloc | apply pw_below_drewN | apply below_drew1) | exact HB.out)⟩⟩
                · replace c33 := Bool.eq_false_iff.mpr c33
                  subst c33
                  have H1 : (raddlelaw01_WireExact.j2 kj11 l0 a2 a3 a4 t316 true) = some r := by rw [if_neg (show ¬ (false = true) by decide)] at H; exact H
                  clear H
                  have H := H1
                  clear H1
                  have H' := Aside0.mk H
                  clear H
                  obtain ⟨Ao36, co36, eo36⟩ := Kd.R_slice HO332.out
                  subst eo36
                  obtain ⟨Ao37, co37, eo37⟩ := Kd.R_slice HO336.out
                  subst eo37
                  go_wp2_with (first | ((with_reducible refine gate_callee (f := 14) rfl ?_); refine goesL_ (some 71) rfl rfl Try.func14 (by kernel_rfl) rfl #[.slice Ao36 t329.length co36, .slice Ao37 t333.length co37] rfl (by (try simp only [List.map_toArray, List.map_cons, List.map_nil]); first | done | rfl | (simp only [List.length_drop, List.length_take]; rfl)) ?_; (with_reducible refine (raddlekeep_Bytes.calls kj11 _ _ t329 _ _ t333 false _ ?side1 ?side2 ?side3 ?side4 A32.out).mono ?_); (case side1 => repeat (first | exact (Kd.R_reads' HO332.out).2.2 | (with_reducible refine Kd.C_alloc ?_ _) | (with_reducible refine Kd.C_drewN ?_ _) | (with_reducible refine Kd.C_drew ?_))); (case side2 => exact (Kd.R_reads' HO332.out).2.1); (case side3 => repeat (first | exact (Kd.R_reads' HO336.out).2.2 | (with_reducible refine Kd.C_alloc ?_ _) | (with_reducible refine Kd.C_drewN ?_ _) | (with_reducible refine Kd.C_drew ?_))); (case side4 => exact (Kd.R_reads' HO336.out).2.1); rintro e w' ⟨rfl, ⟨nd, rfl⟩⟩; refine ⟨_, rfl, ?_⟩))
                  go_meet
                  case rel => exact ⟨_, (true), (by first | rfl | (simp; done) | (simp [*]; done)), H', ⟨by have := HJ5.out; have := HJ11.out; first | omega | exact Nat.le_refl _⟩, ⟨by (with_reducible repeat (first | apply Kd.R_alloc | apply Kd.R_drewN | apply Kd.R_drew)); exact Kd.R_mono HO_11.out (fun _ hk => trivial)⟩, ⟨by repeat (first | (with_reducible first | exact HB.out | apply below_alloc | apply pw_below_drewN | apply below_drew1) | exact HB.out)⟩⟩
              case rest => as_aux_lemma =>
                clear HC27
                try clear c1
                try clear c2
                try clear p2
                try clear c3
                try clear c6
                try clear c7
                try clear c7b0
                try clear c7b1
                try clear c8
                try clear c9
                try clear c13
                try clear c14
                try clear c15
                try clear c18
                try clear c19
                try clear c20
                try clear c23
                try clear c33
                try clear p2
                obtain ⟨kq, x77_26, rfl, HA, HJ26, HO_11, HB⟩ := hcut
                cases kq with
                | zero => exact absurd HA.out (by simp [raddlelaw01_WireExact.j2])
                | succ kj26 =>
                  have H := HA.out
                  clear HA
                  simp only [raddlelaw01_WireExact.j2] at H
                  by_cases c38 : x77_26 = true
                  · subst c38
                    have H1 : (some false) = some r := by rw [if_pos rfl] at H; exact H
                    clear H
                    have H := H1
                    clear H1
                    obtain rfl := Option.some.inj H
                    go_wp2
                    go_ret
                    exact ⟨by first | rfl | (simp [errW_none, errW_some] <;> rfl) | (simp [*, errW_none, errW_some] <;> rfl), by repeat (first | (with_reducible first | exact HB.out | apply below_alloc | apply pw_below_drewN | apply below_drew1) | exact HB.out)⟩
                  · replace c38 := Bool.eq_false_iff.mpr c38
                    subst c38
                    have H1 : ((wire_PutText.f t316 a4).bind fun bt338 => ((raddleref01_PutText.f l0 a4).bind fun bt342 => ((raddlekeep_Bytes.f kj26 bt338.1 bt342.1).bind fun t346 => (if t346 = true then (raddlelaw01_WireExact.j3 kj26 l0 a2 a3 t316 (bt338.2 != bt342.2)) else (raddlelaw01_WireExact.j3 kj26 l0 a2 a3 t316 true))))) = some r := by rw [if_neg (show ¬ (false = true) by decide)] at H; exact H
                    clear H
                    have H := H1
                    clear H1
                    replace H := Option.bind_eq_some_iff.mp H
                    obtain ⟨⟨t338, t339⟩, A390, H⟩ := H
                    replace H : ((raddleref01_PutText.f l0 a4).bind fun bt342 => ((raddlekeep_Bytes.f kj26 t338 bt342.1).bind fun t346 => (if t346 = true then (raddlelaw01_WireExact.j3 kj26 l0 a2 a3 t316 (t339 != bt342.2)) else (raddlelaw01_WireExact.j3 kj26 l0 a2 a3 t316 true)))) = some r := H
                    have A39 := Aside0.mk A390
                    clear A390
                    replace H := Option.bind_eq_some_iff.mp H
                    obtain ⟨⟨t342, t343⟩, A400, H⟩ := H
                    replace H : ((raddlekeep_Bytes.f kj26 t338 t342).bind fun t346 => (if t346 = true then (raddlelaw01_WireExact.j3 kj26 l0 a2 a3 t316 (t339 != t343)) else (raddlelaw01_WireExact.j3 kj26 l0 a2 a3 t316 true))) = some r := H
                    have A40 := Aside0.mk A400
                    clear A400
                    have HC41 := Aside0.mk H
                    clear H
                    go_upto_region 15 with (first | ((with_reducible refine gate_callee (f := 21) rfl ?_); refine goesL_ (some 81) rfl rfl Try.func21 (by kernel_rfl) rfl #[.slice Ao14 t316.length co14, .string a4] rfl (by (try simp only [List.map_toArray, List.map_cons, List.map_nil]); first | done | rfl | (simp only [List.length_drop, List.length_take]; rfl)) ?_; (with_reducible refine (wire_PutText.calls _ _ t316 a4 t338 t339 _ ?side1 ?side2 A39.out).mono ?_); (case side1 => repeat (first | exact (Kd.R_reads' HO_11.out).2.2 | (with_reducible refine Kd.C_alloc ?_ _) | (with_reducible refine Kd.C_drewN ?_ _) | (with_reducible refine Kd.C_drew ?_))); (case side2 => exact (Kd.R_reads' HO_11.out).2.1); rintro e w42 ⟨v340, rfl, ho0, hb⟩; refine ⟨_, rfl, ?_⟩; have n0_ := Aside0.mk (Kd.R_elder' (by (with_reducible repeat (first | apply Kd.R_alloc | apply Kd.R_drewN | apply Kd.R_drew)); exact HO_11.out) (Kd.R_base ho0) hb); have n1_ := Aside0.mk (Kd.R_lower (Kd.R_new' ho0 (Kd.R_lt (by (with_reducible repeat (first | apply Kd.R_alloc | apply Kd.R_drewN | apply Kd.R_drew)); exact HO_11.out))) (below_size (by repeat (first | (with_reducible first | exact HB.out | apply below_alloc | apply pw_below_drewN | apply below_drew1) | exact HB.out)))); have n2_ := Aside0.mk (below_step (by repeat (first | (with_reducible first | exact HB.out | apply below_alloc | apply pw_below_drewN | apply below_drew1) | exact HB.out)) hb); clear HO_11; clear HB; have HO_11 := n0_; have HO341 := n1_; have HB := n2_; clear n0_ n1_ n2_; (try clear hb); (try clear hb2); (try clear hk); (try clear hi); (try clear ho0)) | ((with_reducible refine gate_callee (f := 22) rfl ?_); refine goesL_ (some 87) rfl rfl Try.func22 (by kernel_rfl) rfl #[.slice A0 l0.length c0, .string a4] rfl (by (try simp only [List.map_toArray, List.map_cons, List.map_nil]); first | done | rfl | (simp only [List.length_drop, List.length_take]; rfl)) ?_; (with_reducible refine (raddleref01_PutText.calls _ _ l0 a4 t342 t343 _ ?side1 ?side2 A40.out).mono ?_); (case side1 => repeat (first | exact (Kd.C_below HR0.out HB.out) | (with_reducible refine Kd.C_alloc ?_ _) | (with_reducible refine Kd.C_drewN ?_ _) | (with_reducible refine Kd.C_drew ?_))); (case side2 => exact HC0.out); rintro e w43 ⟨v344, rfl, ho0, hb⟩; refine ⟨_, rfl, ?_⟩; have n0_ := Aside0.mk (Kd.R_elder' (by (with_reducible repeat (first | apply Kd.R_alloc | apply Kd.R_drewN | apply Kd.R_drew)); exact HO_11.out) (Kd.R_base ho0) hb); have n1_ := Aside0.mk (Kd.R_elder' (by (with_reducible repeat (first | apply Kd.R_alloc | apply Kd.R_drewN | apply Kd.R_drew)); exact HO341.out) (Kd.R_base ho0) hb); have n2_ := Aside0.mk (Kd.R_lower (Kd.R_new' (Kd.R_new' ho0 (Kd.R_lt (by (with_reducible repeat (first | apply Kd.R_alloc | apply Kd.R_drewN | apply Kd.R_drew)); exact HO_11.out))) (Kd.R_lt (by (with_reducible repeat (first | apply Kd.R_alloc | apply Kd.R_drewN | apply Kd.R_drew)); exact HO341.out))) (below_size (by repeat (first | (with_reducible first | exact HB.out | apply below_alloc | apply pw_below_drewN | apply below_drew1) | exact HB.out)))); have n3_ := Aside0.mk (below_step (by repeat (first | (with_reducible first | exact HB.out | apply below_alloc | apply pw_below_drewN | apply below_drew1) | exact HB.out)) hb); clear HO_11; clear HO341; clear HB; have HO_11 := n0_; have HO341 := n1_; have HO345 := n2_; have HB := n3_; clear n0_ n1_ n2_ n3_; (try clear hb); (try clear hb2); (try clear hk); (try clear hi); (try clear ho0)))
                    (try simp only [Act.put, List.setIfInBounds_toArray, List.set_cons_zero, List.set_cons_succ])
                    go_cut [98] (fun v98 wc => ∃ (kq : Nat) (x98_40 : Bool), v98 = .bool x98_40 ∧ Aside0 (raddlelaw01_WireExact.j3 kq l0 a2 a3 t316 x98_40 = some r) ∧ Aside0 (kq ≤ kj26) ∧ Aside0 (Kd.R (Kd.int .u8) 5 wc w.heap.size (fun _ => True) (.slice Ao14 t316.length co14) t316) ∧ Aside0 (Below w.heap.size w wc))
                    case first =>
                      have H := HC41.out
                      clear HC41
                      replace H := Option.bind_eq_some_iff.mp H
                      obtain ⟨t346, A440, H⟩ := H
                      replace H : (if t346 = true then (raddlelaw01_WireExact.j3 kj26 l0 a2 a3 t316 (t339 != t343)) else (raddlelaw01_WireExact.j3 kj26 l0 a2 a3 t316 true)) = some r := H
                      have A44 := Aside0.mk A440
                      clear A440
                      by_cases c45 : t346 = true
                      · subst c45
                        have H1 : (raddlelaw01_WireExact.j3 kj26 l0 a2 a3 t316 (t339 != t343)) = some r := by rw [if_pos rfl] at H; exact H
                        clear H
                        have H := H1
                        clear H1
                        have H' := Aside0.mk H
                        clear H
                        obtain ⟨Ao46, co46, eo46⟩ := Kd.R_slice HO341.out
                        subst eo46
                        obtain ⟨Ao47, co47, eo47⟩ := Kd.R_slice HO345.out
                        subst eo47
                        go_wp2_with (first | ((with_reducible refine gate_callee (f := 14) rfl ?_); refine goesL_ (some 92) rfl rfl Try.func14 (by kernel_rfl) rfl #[.slice Ao46 t338.length co46, .slice Ao47 t342.length co47] rfl (by (try simp only [List.map_toArray, List.map_cons, List.map_nil]); first | done | rfl | (simp only [List.length_drop, List.length_take]; rfl)) ?_; (with_reducible refine (raddlekeep_Bytes.calls kj26 _ _ t338 _ _ t342 true _ ?side1 ?side2 ?side3 ?side4 A44.out).mono ?_); (case side1 => repeat (first | exact (Kd.R_reads' HO341.out).2.2 | (with_reducible refine Kd.C_alloc ?_ _) | (with_reducible refine Kd.C_drewN ?_ _) | (with_reducible refine Kd.C_drew ?_))); (case side2 => exact (Kd.R_reads' HO341.out).2.1); (case side3 => repeat (first | exact (Kd.R_reads' HO345.out).2.2 | (with_reducible refine Kd.C_alloc ?_ _) | (with_reducible refine Kd.C_drewN ?_ _) | (with_reducible refine Kd.C_drew ?_))); (case side4 => exact (Kd.R_reads' HO345.out).2.1); rintro e w' ⟨rfl, ⟨nd, rfl⟩⟩; refine ⟨_, rfl, ?_⟩))
                        go_meet
                        case rel => exact ⟨_, ((t339 != t343)), (by first | rfl | (simp; done) | (simp [*]; done)), H', ⟨by have := HJ5.out; have := HJ11.out; have := HJ26.out; first | omega | exact Nat.le_refl _⟩, ⟨by (with_reducible repeat (first | apply Kd.R_alloc | apply Kd.R_drewN | apply Kd.R_drew)); exact Kd.R_mono HO_11.out (fun _ hk => trivial)⟩, ⟨by repeat (first | (with_reducible first | exact HB.out | apply below_alloc | apply pw_below_drewN | apply below_drew1) | exact HB.out)⟩⟩
                      · replace c45 := Bool.eq_false_iff.mpr c45
                        subst c45
                        have H1 : (raddlelaw01_WireExact.j3 kj26 l0 a2 a3 t316 true) = some r := by rw [if_neg (show ¬ (false = true) by decide)] at H; exact H
                        clear H
                        have H := H1
                        clear H1
                        have H' := Aside0.mk H
                        clear H
                        obtain ⟨Ao48, co48, eo48⟩ := Kd.R_slice HO341.out
                        subst eo48
                        obtain ⟨Ao49, co49, eo49⟩ := Kd.R_slice HO345.out
                        subst eo49
                        go_wp2_with (first | ((with_reducible refine gate_callee (f := 14) rfl ?_); refine goesL_ (some 92) rfl rfl Try.func14 (by kernel_rfl) rfl #[.slice Ao48 t338.length co48, .slice Ao49 t342.length co49] rfl (by (try simp only [List.map_toArray, List.map_cons, List.map_nil]); first | done | rfl | (simp only [List.length_drop, List.length_take]; rfl)) ?_; (with_reducible refine (raddlekeep_Bytes.calls kj26 _ _ t338 _ _ t342 false _ ?side1 ?side2 ?side3 ?side4 A44.out).mono ?_); (case side1 => repeat (first | exact (Kd.R_reads' HO341.out).2.2 | (with_reducible refine Kd.C_alloc ?_ _) | (with_reducible refine Kd.C_drewN ?_ _) | (with_reducible refine Kd.C_drew ?_))); (case side2 => exact (Kd.R_reads' HO341.out).2.1); (case side3 => repeat (first | exact (Kd.R_reads' HO345.out).2.2 | (with_reducible refine Kd.C_alloc ?_ _) | (with_reducible refine Kd.C_drewN ?_ _) | (with_reducible refine Kd.C_drew ?_))); (case side4 => exact (Kd.R_reads' HO345.out).2.1); rintro e w' ⟨rfl, ⟨nd, rfl⟩⟩; refine ⟨_, rfl, ?_⟩))
                        go_meet
                        case rel => exact ⟨_, (true), (by first | rfl | (simp; done) | (simp [*]; done)), H', ⟨by have := HJ5.out; have := HJ11.out; have := HJ26.out; first | omega | exact Nat.le_refl _⟩, ⟨by (with_reducible repeat (first | apply Kd.R_alloc | apply Kd.R_drewN | apply Kd.R_drew)); exact Kd.R_mono HO_11.out (fun _ hk => trivial)⟩, ⟨by repeat (first | (with_reducible first | exact HB.out | apply below_alloc | apply pw_below_drewN | apply below_drew1) | exact HB.out)⟩⟩
                    case rest => as_aux_lemma =>
                      clear HC41
                      try clear c1
                      try clear c2
                      try clear p2
                      try clear c3
                      try clear c4
                      try clear c6
                      try clear c7
                      try clear c7b0
                      try clear c7b1
                      try clear c8
                      try clear c9
                      try clear c13
                      try clear c14
                      try clear c15
                      try clear c18
                      try clear c19
                      try clear c20
                      try clear c21
                      try clear c22
                      try clear c23
                      try clear c33
                      try clear c38
                      try clear c45
                      try clear p2
                      obtain ⟨kq, x98_40, rfl, HA, HJ40, HO_11, HB⟩ := hcut
                      cases kq with
                      | zero => exact absurd HA.out (by simp [raddlelaw01_WireExact.j3])
                      | succ kj40 =>
                        have H := HA.out
                        clear HA
                        simp only [raddlelaw01_WireExact.j3] at H
                        by_cases c50 : x98_40 = true
                        · subst c50
                          have H1 : (some false) = some r := by rw [if_pos rfl] at H; exact H
                          clear H
                          have H := H1
                          clear H1
                          obtain rfl := Option.some.inj H
                          go_wp2
                          go_ret
                          exact ⟨by first | rfl | (simp [errW_none, errW_some] <;> rfl) | (simp [*, errW_none, errW_some] <;> rfl), by repeat (first | (with_reducible first | exact HB.out | apply below_alloc | apply pw_below_drewN | apply below_drew1) | exact HB.out)⟩
                        · replace c50 := Bool.eq_false_iff.mpr c50
                          subst c50
                          have H1 : ((wire_Get.f kj40 t316 a2 a3).bind fun bt347 => ((raddleref01_Get.f kj40 l0 a2 a3).bind fun bt350 => (if bt347.1 = bt350.1 then (if bt347.2.1 = bt350.2.1 then (raddlelaw01_WireExact.j4 kj40 l0 a2 t316 (bt347.2.2 != bt350.2.2)) else (raddlelaw01_WireExact.j4 kj40 l0 a2 t316 true)) else (raddlelaw01_WireExact.j4 kj40 l0 a2 t316 true)))) = some r := by rw [if_neg (show ¬ (false = true) by decide)] at H; exact H
                          clear H
                          have H := H1
                          clear H1
                          replace H := Option.bind_eq_some_iff.mp H
                          obtain ⟨⟨t347, t348, t349⟩, A510, H⟩ := H
                          replace H : ((raddleref01_Get.f kj40 l0 a2 a3).bind fun bt350 => (if t347 = bt350.1 then (if t348 = bt350.2.1 then (raddlelaw01_WireExact.j4 kj40 l0 a2 t316 (t349 != bt350.2.2)) else (raddlelaw01_WireExact.j4 kj40 l0 a2 t316 true)) else (raddlelaw01_WireExact.j4 kj40 l0 a2 t316 true))) = some r := H
                          have A51 := Aside0.mk A510
                          clear A510
                          replace H := Option.bind_eq_some_iff.mp H
                          obtain ⟨⟨t350, t351, t352⟩, A520, H⟩ := H
                          replace H : (if t347 = t350 then (if t348 = t351 then (raddlelaw01_WireExact.j4 kj40 l0 a2 t316 (t349 != t352)) else (raddlelaw01_WireExact.j4 kj40 l0 a2 t316 true)) else (raddlelaw01_WireExact.j4 kj40 l0 a2 t316 true)) = some r := H
                          have A52 := Aside0.mk A520
                          clear A520
                          have HC53 := Aside0.mk H
                          clear H
                          go_upto_region 19 with (first | ((with_reducible refine gate_callee (f := 16) rfl ?_); refine goesL_ (some 103) rfl rfl Try.func16 (by kernel_rfl) rfl #[.slice Ao14 t316.length co14, .int .i64 a2, .int .i64 a3] rfl (by (try simp only [List.map_toArray, List.map_cons, List.map_nil]); first | done | rfl | (simp only [List.length_drop, List.length_take]; rfl)) ?_; (with_reducible refine (wire_Get.calls kj40 _ _ t316 a2 a3 t347 t348 t349 _ ?side1 ?side2 A51.out).mono ?_); (case side1 => repeat (first | exact (Kd.R_reads' HO_11.out).2.2 | (with_reducible refine Kd.C_alloc ?_ _) | (with_reducible refine Kd.C_drewN ?_ _) | (with_reducible refine Kd.C_drew ?_))); (case side2 => exact (Kd.R_reads' HO_11.out).2.1); rintro e w' ⟨rfl, ⟨nd, rfl⟩⟩; refine ⟨_, rfl, ?_⟩) | ((with_reducible refine gate_callee (f := 23) rfl ?_); refine goesL_ (some 111) rfl rfl Try.func23 (by kernel_rfl) rfl #[.slice A0 l0.length c0, .int .i64 a2, .int .i64 a3] rfl (by (try simp only [List.map_toArray, List.map_cons, List.map_nil]); first | done | rfl | (simp only [List.length_drop, List.length_take]; rfl)) ?_; (with_reducible refine (raddleref01_Get.calls kj40 _ _ l0 a2 a3 t350 t351 t352 _ ?side1 ?side2 A52.out).mono ?_); (case side1 => repeat (first | exact (Kd.C_below HR0.out (by repeat (first | (with_reducible first | exact HB.out | apply below_alloc | apply pw_below_drewN | apply below_drew1) | exact HB.out))) | (with_reducible refine Kd.C_alloc ?_ _) | (with_reducible refine Kd.C_drewN ?_ _) | (with_reducible refine Kd.C_drew ?_))); (case side2 => exact HC0.out); rintro e w' ⟨rfl, ⟨nd, rfl⟩⟩; refine ⟨_, rfl, ?_⟩))
                          (try simp only [Act.put, List.setIfInBounds_toArray, List.set_cons_zero, List.set_cons_succ])
                          go_cut [127] (fun v127 wc => ∃ (kq : Nat) (x127_52 : Bool), v127 = .bool x127_52 ∧ Aside0 (raddlelaw01_WireExact.j4 kq l0 a2 t316 x127_52 = some r) ∧ Aside0 (kq ≤ kj40) ∧ Aside0 (Kd.R (Kd.int .u8) 5 wc w.heap.size (fun _ => True) (.slice Ao14 t316.length co14) t316) ∧ Aside0 (Below w.heap.size w wc))
                          case first =>
                            have H := HC53.out
                            clear HC53
                            by_cases c54 : t347 = t350
                            · rw [if_pos c54] at H
                              have c54b0 : (t347 == t350) = true := beq_iff_eq.mpr c54
                              have c54b1 : (t347 != t350) = false := bne_eq_false_iff_eq.mpr c54
                              clear c54
                              (first | rw [c54b0] | (simp only [i64_w, i32_w]; rw [c54b0]) | skip)
                              by_cases c55 : t348 = t351
                              · rw [if_pos c55] at H
                                have c55b0 : (t348 == t351) = true := beq_iff_eq.mpr c55
                                have c55b1 : (t348 != t351) = false := bne_eq_false_iff_eq.mpr c55
                                clear c55
                                have H' := Aside0.mk H
                                clear H
                                go_wp2
                                go_meet
                                case rel => exact ⟨_, ((t349 != t352)), (by first | rfl | (simp; done) | (simp [*]; done)), H', ⟨by have := HJ5.out; have := HJ11.out; have := HJ26.out; have := HJ40.out; first | omega | exact Nat.le_refl _⟩, ⟨by (with_reducible repeat (first | apply Kd.R_alloc | apply Kd.R_drewN | apply Kd.R_drew)); exact HO_11.out⟩, ⟨by repeat (first | (with_reducible first | exact HB.out | apply below_alloc | apply pw_below_drewN | apply below_drew1) | exact HB.out)⟩⟩
                              · rw [if_neg c55] at H
                                have c55b0 : (t348 == t351) = false := beq_eq_false_iff_ne.mpr c55
                                have c55b1 : (t348 != t351) = true := bne_iff_ne.mpr c55
                                have H' := Aside0.mk H
                                clear H
                                go_wp2
                                go_meet
                                case rel => exact ⟨_, (true), (by first | rfl | (simp; done) | (simp [*]; done)), H', ⟨by have := HJ5.out; have := HJ11.out; have := HJ26.out; have := HJ40.out; first | omega | exact Nat.le_refl _⟩, ⟨by (with_reducible repeat (first | apply Kd.R_alloc | apply Kd.R_drewN | apply Kd.R_drew)); exact HO_11.out⟩, ⟨by repeat (first | (with_reducible first | exact HB.out | apply below_alloc | apply pw_below_drewN | apply below_drew1) | exact HB.out)⟩⟩
                            · rw [if_neg c54] at H
                              have c54b0 : (t347 == t350) = false := beq_eq_false_iff_ne.mpr c54
                              have c54b1 : (t347 != t350) = true := bne_iff_ne.mpr c54
                              (first | rw [c54b0] | (simp only [i64_w, i32_w]; rw [c54b0]) | skip)
                              have H' := Aside0.mk H
                              clear H
                              go_wp2
                              go_meet
                              case rel => exact ⟨_, (true), (by first | rfl | (simp; done) | (simp [*]; done)), H', ⟨by have := HJ5.out; have := HJ11.out; have := HJ26.out; have := HJ40.out; first | omega | exact Nat.le_refl _⟩, ⟨by (with_reducible repeat (first | apply Kd.R_alloc | apply Kd.R_drewN | apply Kd.R_drew)); exact HO_11.out⟩, ⟨by repeat (first | (with_reducible first | exact HB.out | apply below_alloc | apply pw_below_drewN | apply below_drew1) | exact HB.out)⟩⟩
                          case rest => as_aux_lemma =>
                            clear HC53
                            try clear c1
                            try clear c2
                            try clear p2
                            try clear c3
                            try clear c4
                            try clear c5
                            try clear c6
                            try clear c7
                            try clear c7b0
                            try clear c7b1
                            try clear c8
                            try clear c9
                            try clear c13
                            try clear c14
                            try clear c15
                            try clear c16
                            try clear c18
                            try clear c19
                            try clear c20
                            try clear c21
                            try clear c22
                            try clear c23
                            try clear c33
                            try clear c38
                            try clear c45
                            try clear c50
                            try clear c54
                            try clear c54b0
                            try clear c54b1
                            try clear c55
                            try clear c55b0
                            try clear c55b1
                            try clear p2
                            obtain ⟨kq, x127_52, rfl, HA, HJ52, HO_11, HB⟩ := hcut
                            cases kq with
                            | zero => exact absurd HA.out (by simp [raddlelaw01_WireExact.j4])
                            | succ kj52 =>
                              have H := HA.out
                              clear HA
                              simp only [raddlelaw01_WireExact.j4] at H
                              by_cases c56 : x127_52 = true
                              · subst c56
                                have H1 : (some false) = some r := by rw [if_pos rfl] at H; exact H
                                clear H
                                have H := H1
                                clear H1
                                obtain rfl := Option.some.inj H
                                go_wp2
                                go_ret
                                exact ⟨by first | rfl | (simp [errW_none, errW_some] <;> rfl) | (simp [*, errW_none, errW_some] <;> rfl), by repeat (first | (with_reducible first | exact HB.out | apply below_alloc | apply pw_below_drewN | apply below_drew1) | exact HB.out)⟩
                              · replace c56 := Bool.eq_false_iff.mpr c56
                                subst c56
                                have H1 : ((wire_GetInt.f kj52 t316 a2).bind fun bt353 => ((raddleref01_GetInt.f kj52 l0 a2).bind fun bt356 => (if bt353.1 = bt356.1 then (if bt353.2.1 = bt356.2.1 then (raddlelaw01_WireExact.j5 kj52 l0 a2 t316 (bt353.2.2 != bt356.2.2)) else (raddlelaw01_WireExact.j5 kj52 l0 a2 t316 true)) else (raddlelaw01_WireExact.j5 kj52 l0 a2 t316 true)))) = some r := by rw [if_neg (show ¬ (false = true) by decide)] at H; exact H
                                clear H
                                have H := H1
                                clear H1
                                replace H := Option.bind_eq_some_iff.mp H
                                obtain ⟨⟨t353, t354, t355⟩, A570, H⟩ := H
                                replace H : ((raddleref01_GetInt.f kj52 l0 a2).bind fun bt356 => (if t353 = bt356.1 then (if t354 = bt356.2.1 then (raddlelaw01_WireExact.j5 kj52 l0 a2 t316 (t355 != bt356.2.2)) else (raddlelaw01_WireExact.j5 kj52 l0 a2 t316 true)) else (raddlelaw01_WireExact.j5 kj52 l0 a2 t316 true))) = some r := H
                                have A57 := Aside0.mk A570
                                clear A570
                                replace H := Option.bind_eq_some_iff.mp H
                                obtain ⟨⟨t356, t357, t358⟩, A580, H⟩ := H
                                replace H : (if t353 = t356 then (if t354 = t357 then (raddlelaw01_WireExact.j5 kj52 l0 a2 t316 (t355 != t358)) else (raddlelaw01_WireExact.j5 kj52 l0 a2 t316 true)) else (raddlelaw01_WireExact.j5 kj52 l0 a2 t316 true)) = some r := H
                                have A58 := Aside0.mk A580
                                clear A580
                                have HC59 := Aside0.mk H
                                clear H
                                go_upto_region 23 with (first | ((with_reducible refine gate_callee (f := 11) rfl ?_); refine goesL_ (some 131) rfl rfl Try.func11 (by kernel_rfl) rfl #[.slice Ao14 t316.length co14, .int .i64 a2] rfl (by (try simp only [List.map_toArray, List.map_cons, List.map_nil]); first | done | rfl | (simp only [List.length_drop, List.length_take]; rfl)) ?_; (with_reducible refine (wire_GetInt.calls kj52 _ _ t316 a2 t353 t354 t355 _ ?side1 ?side2 A57.out).mono ?_); (case side1 => repeat (first | exact (Kd.R_reads' HO_11.out).2.2 | (with_reducible refine Kd.C_alloc ?_ _) | (with_reducible refine Kd.C_drewN ?_ _) | (with_reducible refine Kd.C_drew ?_))); (case side2 => exact (Kd.R_reads' HO_11.out).2.1); rintro e w' ⟨rfl, ⟨nd, rfl⟩⟩; refine ⟨_, rfl, ?_⟩) | ((with_reducible refine gate_callee (f := 24) rfl ?_); refine goesL_ (some 138) rfl rfl Try.func24 (by kernel_rfl) rfl #[.slice A0 l0.length c0, .int .i64 a2] rfl (by (try simp only [List.map_toArray, List.map_cons, List.map_nil]); first | done | rfl | (simp only [List.length_drop, List.length_take]; rfl)) ?_; (with_reducible refine (raddleref01_GetInt.calls kj52 _ _ l0 a2 t356 t357 t358 _ ?side1 ?side2 A58.out).mono ?_); (case side1 => repeat (first | exact (Kd.C_below HR0.out (by repeat (first | (with_reducible first | exact HB.out | apply below_alloc | apply pw_below_drewN | apply below_drew1) | exact HB.out))) | (with_reducible refine Kd.C_alloc ?_ _) | (with_reducible refine Kd.C_drewN ?_ _) | (with_reducible refine Kd.C_drew ?_))); (case side2 => exact HC0.out); rintro e w' ⟨rfl, ⟨nd, rfl⟩⟩; refine ⟨_, rfl, ?_⟩))
                                (try simp only [Act.put, List.setIfInBounds_toArray, List.set_cons_zero, List.set_cons_succ])
                                go_cut [154] (fun v154 wc => ∃ (kq : Nat) (x154_58 : Bool), v154 = .bool x154_58 ∧ Aside0 (raddlelaw01_WireExact.j5 kq l0 a2 t316 x154_58 = some r) ∧ Aside0 (kq ≤ kj52) ∧ Aside0 (Kd.R (Kd.int .u8) 5 wc w.heap.size (fun _ => True) (.slice Ao14 t316.length co14) t316) ∧ Aside0 (Below w.heap.size w wc))
                                case first =>
                                  have H := HC59.out
                                  clear HC59
                                  by_cases c60 : t353 = t356
                                  · rw [if_pos c60] at H
                                    have c60b0 : (t353 == t356) = true := beq_iff_eq.mpr c60
                                    have c60b1 : (t353 != t356) = false := bne_eq_false_iff_eq.mpr c60
                                    clear c60
                                    (first | rw [c60b0] | (simp only [i64_w, i32_w]; rw [c60b0]) | skip)
                                    by_cases c61 : t354 = t357
                                    · rw [if_pos c61] at H
                                      have c61b0 : (t354 == t357) = true := beq_iff_eq.mpr c61
                                      have c61b1 : (t354 != t357) = false := bne_eq_false_iff_eq.mpr c61
                                      clear c61
                                      have H' := Aside0.mk H
                                      clear H
                                      go_wp2
                                      go_meet
                                      case rel => exact ⟨_, ((t355 != t358)), (by first | rfl | (simp; done) | (simp [*]; done)), H', ⟨by have := HJ5.out; have := HJ11.out; have := HJ26.out; have := HJ40.out; have := HJ52.out; first | omega | exact Nat.le_refl _⟩, ⟨by (with_reducible repeat (first | apply Kd.R_alloc | apply Kd.R_drewN | apply Kd.R_drew)); exact HO_11.out⟩, ⟨by repeat (first | (with_reducible first | exact HB.out | apply below_alloc | apply pw_below_drewN | apply below_drew1) | exact HB.out)⟩⟩
                                    · rw [if_neg c61] at H
                                      have c61b0 : (t354 == t357) = false := beq_eq_false_iff_ne.mpr c61
                                      have c61b1 : (t354 != t357) = true := bne_iff_ne.mpr c61
                                      have H' := Aside0.mk H
                                      clear H
                                      go_wp2
                                      go_meet
                                      case rel => exact ⟨_, (true), (by first | rfl | (simp; done) | (simp [*]; done)), H', ⟨by have := HJ5.out; have := HJ11.out; have := HJ26.out; have := HJ40.out; have := HJ52.out; first | omega | exact Nat.le_refl _⟩, ⟨by (with_reducible repeat (first | apply Kd.R_alloc | apply Kd.R_drewN | apply Kd.R_drew)); exact HO_11.out⟩, ⟨by repeat (first | (with_reducible first | exact HB.out | apply below_alloc | apply pw_below_drewN | apply below_drew1) | exact HB.out)⟩⟩
                                  · rw [if_neg c60] at H
                                    have c60b0 : (t353 == t356) = false := beq_eq_false_iff_ne.mpr c60
                                    have c60b1 : (t353 != t356) = true := bne_iff_ne.mpr c60
                                    (first | rw [c60b0] | (simp only [i64_w, i32_w]; rw [c60b0]) | skip)
                                    have H' := Aside0.mk H
                                    clear H
                                    go_wp2
                                    go_meet
                                    case rel => exact ⟨_, (true), (by first | rfl | (simp; done) | (simp [*]; done)), H', ⟨by have := HJ5.out; have := HJ11.out; have := HJ26.out; have := HJ40.out; have := HJ52.out; first | omega | exact Nat.le_refl _⟩, ⟨by (with_reducible repeat (first | apply Kd.R_alloc | apply Kd.R_drewN | apply Kd.R_drew)); exact HO_11.out⟩, ⟨by repeat (first | (with_reducible first | exact HB.out | apply below_alloc | apply pw_below_drewN | apply below_drew1) | exact HB.out)⟩⟩
                                case rest => as_aux_lemma =>
                                  clear HC59
                                  try clear c1
                                  try clear c2
                                  try clear p2
                                  try clear c3
                                  try clear c4
                                  try clear c5
                                  try clear c6
                                  try clear c7
                                  try clear c7b0
                                  try clear c7b1
                                  try clear c8
                                  try clear c9
                                  try clear c11
                                  try clear c13
                                  try clear c14
                                  try clear c15
                                  try clear c16
                                  try clear c18
                                  try clear c19
                                  try clear c20
                                  try clear c21
                                  try clear c22
                                  try clear c23
                                  try clear c24
                                  try clear c33
                                  try clear c38
                                  try clear c45
                                  try clear c50
                                  try clear c54
                                  try clear c54b0
                                  try clear c54b1
                                  try clear c55
                                  try clear c55b0
                                  try clear c55b1
                                  try clear c56
                                  try clear c60
                                  try clear c60b0
                                  try clear c60b1
                                  try clear c61
                                  try clear c61b0
                                  try clear c61b1
                                  try clear p2
                                  obtain ⟨kq, x154_58, rfl, HA, HJ58, HO_11, HB⟩ := hcut
                                  cases kq with
                                  | zero => exact absurd HA.out (by simp [raddlelaw01_WireExact.j5])
                                  | succ kj58 =>
                                    have H := HA.out
                                    clear HA
                                    simp only [raddlelaw01_WireExact.j5] at H
                                    by_cases c62 : x154_58 = true
                                    · subst c62
                                      have H1 : (some false) = some r := by rw [if_pos rfl] at H; exact H
                                      clear H
                                      have H := H1
                                      clear H1
                                      obtain rfl := Option.some.inj H
                                      go_wp2
                                      go_ret
                                      exact ⟨by first | rfl | (simp [errW_none, errW_some] <;> rfl) | (simp [*, errW_none, errW_some] <;> rfl), by repeat (first | (with_reducible first | exact HB.out | apply below_alloc | apply pw_below_drewN | apply below_drew1) | exact HB.out)⟩
                                    · replace c62 := Bool.eq_false_iff.mpr c62
                                      subst c62
                                      have H1 : ((wire_GetText.f kj58 t316 a2).bind fun bt359 => ((raddleref01_GetText.f l0 a2).bind fun bt362 => (if bt359.1.toList = bt362.1.toList then (if bt359.2.1 = bt362.2.1 then (if bt359.2.2 = bt362.2.2 then ((raddlekeep_Bytes.f kj58 t316 l0).bind fun t365 => (if t365 = true then ((raddlelaw01_wakes.f kj58).bind fun t366 => (some t366)) else (some false))) else (some false)) else (some false)) else (some false)))) = some r := by rw [if_neg (show ¬ (false = true) by decide)] at H; exact H
                                      clear H
                                      have H := H1
                                      clear H1
                                      replace H := Option.bind_eq_some_iff.mp H
                                      obtain ⟨⟨t359, t360, t361⟩, A630, H⟩ := H
                                      replace H : ((raddleref01_GetText.f l0 a2).bind fun bt362 => (if t359.toList = bt362.1.toList then (if t360 = bt362.2.1 then (if t361 = bt362.2.2 then ((raddlekeep_Bytes.f kj58 t316 l0).bind fun t365 => (if t365 = true then ((raddlelaw01_wakes.f kj58).bind fun t366 => (some t366)) else (some false))) else (some false)) else (some false)) else (some false))) = some r := H
                                      have A63 := Aside0.mk A630
                                      clear A630
                                      replace H := Option.bind_eq_some_iff.mp H
                                      obtain ⟨⟨t362, t363, t364⟩, A640, H⟩ := H
                                      replace H : (if t359.toList = t362.toList then (if t360 = t363 then (if t361 = t364 then ((raddlekeep_Bytes.f kj58 t316 l0).bind fun t365 => (if t365 = true then ((raddlelaw01_wakes.f kj58).bind fun t366 => (some t366)) else (some false))) else (some false)) else (some false)) else (some false)) = some r := H
                                      have A64 := Aside0.mk A640
                                      clear A640
                                      by_cases c65 : t359.toList = t362.toList
                                      · rw [if_pos c65] at H
                                        have c65b0 : (t359.toList == t362.toList) = true := beq_iff_eq.mpr c65
                                        have c65b1 : (t359.toList != t362.toList) = false := bne_eq_false_iff_eq.mpr c65
                                        clear c65
                                        by_cases c66 : t360 = t363
                                        · rw [if_pos c66] at H
                                          have c66b0 : (t360 == t363) = true := beq_iff_eq.mpr c66
                                          have c66b1 : (t360 != t363) = false := bne_eq_false_iff_eq.mpr c66
                                          clear c66
                                          by_cases c67 : t361 = t364
                                          · rw [if_pos c67] at H
                                            have c67b0 : (t361 == t364) = true := beq_iff_eq.mpr c67
                                            have c67b1 : (t361 != t364) = false := bne_eq_false_iff_eq.mpr c67
                                            clear c67
                                            replace H := Option.bind_eq_some_iff.mp H
                                            obtain ⟨t365, A680, H⟩ := H
                                            replace H : (if t365 = true then ((raddlelaw01_wakes.f kj58).bind fun t366 => (some t366)) else (some false)) = some r := H
                                            have A68 := Aside0.mk A680
                                            clear A680
                                            by_cases c69 : t365 = true
                                            · subst c69
                                              have H1 : ((raddlelaw01_wakes.f kj58).bind fun t366 => (some t366)) = some r := by rw [if_pos rfl] at H; exact H
                                              clear H
                                              have H := H1
                                              clear H1
                                              replace H := Option.bind_eq_some_iff.mp H
                                              obtain ⟨t366, A700, H⟩ := H
                                              replace H : (some t366) = some r := H
                                              have A70 := Aside0.mk A700
                                              clear A700
                                              obtain rfl := Option.some.inj H
                                              go_wp2_with (first | ((with_reducible refine gate_callee (f := 17) rfl ?_); refine goesL_ (some 158) rfl rfl Try.func17 (by kernel_rfl) rfl #[.slice Ao14 t316.length co14, .int .i64 a2] rfl (by (try simp only [List.map_toArray, List.map_cons, List.map_nil]); first | done | rfl | (simp only [List.length_drop, List.length_take]; rfl)) ?_; (with_reducible refine (wire_GetText.calls kj58 _ _ t316 a2 t359 t360 t361 _ ?side1 ?side2 A63.out).mono ?_); (case side1 => repeat (first | exact (Kd.R_reads' HO_11.out).2.2 | (with_reducible refine Kd.C_alloc ?_ _) | (with_reducible refine Kd.C_drewN ?_ _) | (with_reducible refine Kd.C_drew ?_))); (case side2 => exact (Kd.R_reads' HO_11.out).2.1); rintro e w' ⟨rfl, ⟨nd, rfl⟩⟩; refine ⟨_, rfl, ?_⟩) | ((with_reducible refine gate_callee (f := 25) rfl ?_); refine goesL_ (some 165) rfl rfl Try.func25 (by kernel_rfl) rfl #[.slice A0 l0.length c0, .int .i64 a2] rfl (by (try simp only [List.map_toArray, List.map_cons, List.map_nil]); first | done | rfl | (simp only [List.length_drop, List.length_take]; rfl)) ?_; (with_reducible refine (raddleref01_GetText.calls _ _ l0 a2 t362 t363 t364 _ ?side1 ?side2 A64.out).mono ?_); (case side1 => repeat (first | exact (Kd.C_below HR0.out (by repeat (first | (with_reducible first | exact HB.out | apply below_alloc | apply pw_below_drewN | apply below_drew1) | exact HB.out))) | (with_reducible refine Kd.C_alloc ?_ _) | (with_reducible refine Kd.C_drewN ?_ _) | (with_reducible refine Kd.C_drew ?_))); (case side2 => exact HC0.out); rintro e w' ⟨rfl, ⟨nd, rfl⟩⟩; refine ⟨_, rfl, ?_⟩) | (go_at_call 14; (with_reducible refine (raddlekeep_Bytes.calls kj58 _ _ t316 _ _ l0 true _ ?side1 ?side2 ?side3 ?side4 A68.out).mono ?_); (case side1 => repeat (first | exact (Kd.R_reads' HO_11.out).2.2 | (with_reducible refine Kd.C_alloc ?_ _) | (with_reducible refine Kd.C_drewN ?_ _) | (with_reducible refine Kd.C_drew ?_))); (case side2 => exact (Kd.R_reads' HO_11.out).2.1); (case side3 => repeat (first | exact (Kd.C_below HR0.out (by repeat (first | (with_reducible first | exact HB.out | apply below_alloc | apply pw_below_drewN | apply below_drew1) | exact HB.out))) | (with_reducible refine Kd.C_alloc ?_ _) | (with_reducible refine Kd.C_drewN ?_ _) | (with_reducible refine Kd.C_drew ?_))); (case side4 => exact HC0.out); rintro e w' ⟨rfl, ⟨nd, rfl⟩⟩) | (go_at_call 12; (with_reducible refine (raddlelaw01_wakes.calls kj58  t366 _ A70.out).mono ?_); rintro e w71 ⟨rfl, hb⟩; have n0_ := Aside0.mk (Kd.R_below (by (with_reducible repeat (first | apply Kd.R_alloc | apply Kd.R_drewN | apply Kd.R_drew)); exact HO_11.out) hb); have n1_ := Aside0.mk (below_step (by repeat (first | (with_reducible first | exact HB.out | apply below_alloc | apply pw_below_drewN | apply below_drew1) | exact HB.out)) hb); clear HO_11; clear HB; have HO_11 := n0_; have HB := n1_; clear n0_ n1_; (try clear hb); (try clear hb2); (try clear hk); (try clear hi)))
                                              go_ret
                                              exact ⟨by first | rfl | (simp [errW_none, errW_some] <;> rfl) | (simp [*, errW_none, errW_some] <;> rfl), by repeat (first | (with_reducible first | exact HB.out | apply below_alloc | apply pw_below_drewN | apply below_drew1) | exact HB.out)⟩
                                            · replace c69 := Bool.eq_false_iff.mpr c69
                                              subst c69
                                              have H1 : (some false) = some r := by rw [if_neg (show ¬ (false = true) by decide)] at H; exact H
                                              clear H
                                              have H := H1
                                              clear H1
                                              obtain rfl := Option.some.inj H
                                              go_wp2_with (first | ((with_reducible refine gate_callee (f := 17) rfl ?_); refine goesL_ (some 158) rfl rfl Try.func17 (by kernel_rfl) rfl #[.slice Ao14 t316.length co14, .int .i64 a2] rfl (by (try simp only [List.map_toArray, List.map_cons, List.map_nil]); first | done | rfl | (simp only [List.length_drop, List.length_take]; rfl)) ?_; (with_reducible refine (wire_GetText.calls kj58 _ _ t316 a2 t359 t360 t361 _ ?side1 ?side2 A63.out).mono ?_); (case side1 => repeat (first | exact (Kd.R_reads' HO_11.out).2.2 | (with_reducible refine Kd.C_alloc ?_ _) | (with_reducible refine Kd.C_drewN ?_ _) | (with_reducible refine Kd.C_drew ?_))); (case side2 => exact (Kd.R_reads' HO_11.out).2.1); rintro e w' ⟨rfl, ⟨nd, rfl⟩⟩; refine ⟨_, rfl, ?_⟩) | ((with_reducible refine gate_callee (f := 25) rfl ?_); refine goesL_ (some 165) rfl rfl Try.func25 (by kernel_rfl) rfl #[.slice A0 l0.length c0, .int .i64 a2] rfl (by (try simp only [List.map_toArray, List.map_cons, List.map_nil]); first | done | rfl | (simp only [List.length_drop, List.length_take]; rfl)) ?_; (with_reducible refine (raddleref01_GetText.calls _ _ l0 a2 t362 t363 t364 _ ?side1 ?side2 A64.out).mono ?_); (case side1 => repeat (first | exact (Kd.C_below HR0.out (by repeat (first | (with_reducible first | exact HB.out | apply below_alloc | apply pw_below_drewN | apply below_drew1) | exact HB.out))) | (with_reducible refine Kd.C_alloc ?_ _) | (with_reducible refine Kd.C_drewN ?_ _) | (with_reducible refine Kd.C_drew ?_))); (case side2 => exact HC0.out); rintro e w' ⟨rfl, ⟨nd, rfl⟩⟩; refine ⟨_, rfl, ?_⟩) | (go_at_call 14; (with_reducible refine (raddlekeep_Bytes.calls kj58 _ _ t316 _ _ l0 false _ ?side1 ?side2 ?side3 ?side4 A68.out).mono ?_); (case side1 => repeat (first | exact (Kd.R_reads' HO_11.out).2.2 | (with_reducible refine Kd.C_alloc ?_ _) | (with_reducible refine Kd.C_drewN ?_ _) | (with_reducible refine Kd.C_drew ?_))); (case side2 => exact (Kd.R_reads' HO_11.out).2.1); (case side3 => repeat (first | exact (Kd.C_below HR0.out (by repeat (first | (with_reducible first | exact HB.out | apply below_alloc | apply pw_below_drewN | apply below_drew1) | exact HB.out))) | (with_reducible refine Kd.C_alloc ?_ _) | (with_reducible refine Kd.C_drewN ?_ _) | (with_reducible refine Kd.C_drew ?_))); (case side4 => exact HC0.out); rintro e w' ⟨rfl, ⟨nd, rfl⟩⟩))
                                              go_ret
                                              exact ⟨by first | rfl | (simp [errW_none, errW_some] <;> rfl) | (simp [*, errW_none, errW_some] <;> rfl), by repeat (first | (with_reducible first | exact HB.out | apply below_alloc | apply pw_below_drewN | apply below_drew1) | exact HB.out)⟩
                                          · rw [if_neg c67] at H
                                            have c67b0 : (t361 == t364) = false := beq_eq_false_iff_ne.mpr c67
                                            have c67b1 : (t361 != t364) = true := bne_iff_ne.mpr c67
                                            obtain rfl := Option.some.inj H
                                            go_wp2_with (first | ((with_reducible refine gate_callee (f := 17) rfl ?_); refine goesL_ (some 158) rfl rfl Try.func17 (by kernel_rfl) rfl #[.slice Ao14 t316.length co14, .int .i64 a2] rfl (by (try simp only [List.map_toArray, List.map_cons, List.map_nil]); first | done | rfl | (simp only [List.length_drop, List.length_take]; rfl)) ?_; (with_reducible refine (wire_GetText.calls kj58 _ _ t316 a2 t359 t360 t361 _ ?side1 ?side2 A63.out).mono ?_); (case side1 => repeat (first | exact (Kd.R_reads' HO_11.out).2.2 | (with_reducible refine Kd.C_alloc ?_ _) | (with_reducible refine Kd.C_drewN ?_ _) | (with_reducible refine Kd.C_drew ?_))); (case side2 => exact (Kd.R_reads' HO_11.out).2.1); rintro e w' ⟨rfl, ⟨nd, rfl⟩⟩; refine ⟨_, rfl, ?_⟩) | ((with_reducible refine gate_callee (f := 25) rfl ?_); refine goesL_ (some 165) rfl rfl Try.func25 (by kernel_rfl) rfl #[.slice A0 l0.length c0, .int .i64 a2] rfl (by (try simp only [List.map_toArray, List.map_cons, List.map_nil]); first | done | rfl | (simp only [List.length_drop, List.length_take]; rfl)) ?_; (with_reducible refine (raddleref01_GetText.calls _ _ l0 a2 t362 t363 t364 _ ?side1 ?side2 A64.out).mono ?_); (case side1 => repeat (first | exact (Kd.C_below HR0.out (by repeat (first | (with_reducible first | exact HB.out | apply below_alloc | apply pw_below_drewN | apply below_drew1) | exact HB.out))) | (with_reducible refine Kd.C_alloc ?_ _) | (with_reducible refine Kd.C_drewN ?_ _) | (with_reducible refine Kd.C_drew ?_))); (case side2 => exact HC0.out); rintro e w' ⟨rfl, ⟨nd, rfl⟩⟩; refine ⟨_, rfl, ?_⟩))
                                            go_ret
                                            exact ⟨by first | rfl | (simp [errW_none, errW_some] <;> rfl) | (simp [*, errW_none, errW_some] <;> rfl), by repeat (first | (with_reducible first | exact HB.out | apply below_alloc | apply pw_below_drewN | apply below_drew1) | exact HB.out)⟩
                                        · rw [if_neg c66] at H
                                          have c66b0 : (t360 == t363) = false := beq_eq_false_iff_ne.mpr c66
                                          have c66b1 : (t360 != t363) = true := bne_iff_ne.mpr c66
                                          obtain rfl := Option.some.inj H
                                          go_wp2_with (first | ((with_reducible refine gate_callee (f := 17) rfl ?_); refine goesL_ (some 158) rfl rfl Try.func17 (by kernel_rfl) rfl #[.slice Ao14 t316.length co14, .int .i64 a2] rfl (by (try simp only [List.map_toArray, List.map_cons, List.map_nil]); first | done | rfl | (simp only [List.length_drop, List.length_take]; rfl)) ?_; (with_reducible refine (wire_GetText.calls kj58 _ _ t316 a2 t359 t360 t361 _ ?side1 ?side2 A63.out).mono ?_); (case side1 => repeat (first | exact (Kd.R_reads' HO_11.out).2.2 | (with_reducible refine Kd.C_alloc ?_ _) | (with_reducible refine Kd.C_drewN ?_ _) | (with_reducible refine Kd.C_drew ?_))); (case side2 => exact (Kd.R_reads' HO_11.out).2.1); rintro e w' ⟨rfl, ⟨nd, rfl⟩⟩; refine ⟨_, rfl, ?_⟩) | ((with_reducible refine gate_callee (f := 25) rfl ?_); refine goesL_ (some 165) rfl rfl Try.func25 (by kernel_rfl) rfl #[.slice A0 l0.length c0, .int .i64 a2] rfl (by (try simp only [List.map_toArray, List.map_cons, List.map_nil]); first | done | rfl | (simp only [List.length_drop, List.length_take]; rfl)) ?_; (with_reducible refine (raddleref01_GetText.calls _ _ l0 a2 t362 t363 t364 _ ?side1 ?side2 A64.out).mono ?_); (case side1 => repeat (first | exact (Kd.C_below HR0.out (by repeat (first | (with_reducible first | exact HB.out | apply below_alloc | apply pw_below_drewN | apply below_drew1) | exact HB.out))) | (with_reducible refine Kd.C_alloc ?_ _) | (with_reducible refine Kd.C_drewN ?_ _) | (with_reducible refine Kd.C_drew ?_))); (case side2 => exact HC0.out); rintro e w' ⟨rfl, ⟨nd, rfl⟩⟩; refine ⟨_, rfl, ?_⟩))
                                          go_ret
                                          exact ⟨by first | rfl | (simp [errW_none, errW_some] <;> rfl) | (simp [*, errW_none, errW_some] <;> rfl), by repeat (first | (with_reducible first | exact HB.out | apply below_alloc | apply pw_below_drewN | apply below_drew1) | exact HB.out)⟩
                                      · rw [if_neg c65] at H
                                        have c65b0 : (t359.toList == t362.toList) = false := beq_eq_false_iff_ne.mpr c65
                                        have c65b1 : (t359.toList != t362.toList) = true := bne_iff_ne.mpr c65
                                        obtain rfl := Option.some.inj H
                                        go_wp2_with (first | ((with_reducible refine gate_callee (f := 17) rfl ?_); refine goesL_ (some 158) rfl rfl Try.func17 (by kernel_rfl) rfl #[.slice Ao14 t316.length co14, .int .i64 a2] rfl (by (try simp only [List.map_toArray, List.map_cons, List.map_nil]); first | done | rfl | (simp only [List.length_drop, List.length_take]; rfl)) ?_; (with_reducible refine (wire_GetText.calls kj58 _ _ t316 a2 t359 t360 t361 _ ?side1 ?side2 A63.out).mono ?_); (case side1 => repeat (first | exact (Kd.R_reads' HO_11.out).2.2 | (with_reducible refine Kd.C_alloc ?_ _) | (with_reducible refine Kd.C_drewN ?_ _) | (with_reducible refine Kd.C_drew ?_))); (case side2 => exact (Kd.R_reads' HO_11.out).2.1); rintro e w' ⟨rfl, ⟨nd, rfl⟩⟩; refine ⟨_, rfl, ?_⟩) | ((with_reducible refine gate_callee (f := 25) rfl ?_); refine goesL_ (some 165) rfl rfl Try.func25 (by kernel_rfl) rfl #[.slice A0 l0.length c0, .int .i64 a2] rfl (by (try simp only [List.map_toArray, List.map_cons, List.map_nil]); first | done | rfl | (simp only [List.length_drop, List.length_take]; rfl)) ?_; (with_reducible refine (raddleref01_GetText.calls _ _ l0 a2 t362 t363 t364 _ ?side1 ?side2 A64.out).mono ?_); (case side1 => repeat (first | exact (Kd.C_below HR0.out (by repeat (first | (with_reducible first | exact HB.out | apply below_alloc | apply pw_below_drewN | apply below_drew1) | exact HB.out))) | (with_reducible refine Kd.C_alloc ?_ _) | (with_reducible refine Kd.C_drewN ?_ _) | (with_reducible refine Kd.C_drew ?_))); (case side2 => exact HC0.out); rintro e w' ⟨rfl, ⟨nd, rfl⟩⟩; refine ⟨_, rfl, ?_⟩))
                                        go_ret
                                        exact ⟨by first | rfl | (simp [errW_none, errW_some] <;> rfl) | (simp [*, errW_none, errW_some] <;> rfl), by repeat (first | (with_reducible first | exact HB.out | apply below_alloc | apply pw_below_drewN | apply below_drew1) | exact HB.out)⟩

/-- THE ONE PURE STATEMENT of raddlelaw01_WireExact: yours. -/
def raddlelaw01_WireExact.Pure : Prop := ∀ (l0 : List Int) (a1 : Int) (a2 : Int) (a3 : Int) (a4 : ByteArray), l0.length ≤ maxLen → l0.length * 1 ≤ 140737488351232 → (∀ x ∈ l0, (Lit.int .u8 x).wf = true) → (Lit.int .i64 a1).wf = true → (Lit.int .i64 a2).wf = true → (Lit.int .i64 a3).wf = true → a4.size ≤ 140737488351232 → ∃ k, raddlelaw01_WireExact.f k l0 a1 a2 a3 a4 = some true
theorem raddlelaw01_WireExact.walk (P : raddlelaw01_WireExact.Pure) (a0 : Option Addr) (len0 cap0 : Nat) (z0 : List Int) (a1 : Int) (a2 : Int) (a3 : Int) (a4 : ByteArray) (w : World) (w0 : (a0 = none ∧ len0 = 0 ∧ cap0 = 0 ∧ z0 = []) ∨ ∃ x, a0 = some x ∧ len0 ≤ cap0 ∧ cap0 ≤ maxLen ∧ z0.length = cap0 ∧ (∀ i, i < z0.length → w.cell? (x.add i) = some (.int .u8 (z0.getD i 0))) ∧ ∀ n ∈ z0, (Lit.int .u8 n).wf = true) (y0 : len0 * 1 ≤ 140737488351232) (w1 : (Lit.int .i64 a1).wf = true) (w2 : (Lit.int .i64 a2).wf = true) (w3 : (Lit.int .i64 a3).wf = true) (w4 : a4.size ≤ 140737488351232) :
    Calls Try.prog 6 #[.slice a0 len0 cap0, .int .i64 a1, .int .i64 a2, .int .i64 a3, .string a4] w fun e w' => e = .returned (.bool true) ∧ Below w.heap.size w w' := by
  obtain ⟨l0, rfl, hr0, hm0, hw0, hc0⟩ := ReadsInt.ofRowC w0
  obtain ⟨k, h⟩ := P l0 a1 a2 a3 a4 hm0 y0 hw0 w1 w2 w3 w4
  refine (raddlelaw01_WireExact.calls k _ _ l0 a1 a2 a3 a4 true w (Kd.C_of_reads (d := (0 : Int)) (h1 := fun _ => rfl) hr0) hc0 h).mono ?_
  rintro e w' ⟨rfl, hd⟩
  exact ⟨rfl, hd⟩

end Go.Proofs.Ytomahagonogapaa.PAll
