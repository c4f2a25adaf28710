-- wip/slice2.py
import Derived.Test.YtimbbaoodjhdoaaZPlanBent3

set_option maxHeartbeats 8000000
set_option maxRecDepth 100000
open Go.IntKind (u64)
open Go.Proofs.YtimbbaoodjhdoaaW Go.Proofs.Ytimbbaoodjhdoaa
section
namespace Go.Proofs.Ytimbbaoodjhdoaa.PAll
open Go.RowKit PrintWords PrintLast PrintMore ZipT PrintWords.Kd PrintMore.Kd
attribute [local go_sem] max2_int min2_int max_two min_two max_three min_three max_four min_four   -- for this text's walks alone
set_option linter.unusedVariables false
set_option linter.unusedSimpArgs false
mutual
def raddlelaw20_PlanBent.j0 : Nat → List (S34) → List (S54) → Int → Int → Bool → Option (Bool)
 | 0, _, _, _, _, _ => none
 | k + 1, x0, x1, x2, x3, x22 => if x22 = true then (some true) else ((raddleref14_Plan.f x0 x1).bind fun bt455 => (if bt455.2 = 0 then (if (u64.wrap ((x0.length : Int))) = 0 then (none) else ((raddlekeep_TwinNodes.f k x0).bind fun t459 => (if (Int.tmod (u64.wrap (x3)) 5) = 0 then (if 0 ≤ (wrap64 (Int.tmod (u64.wrap (x2)) (u64.wrap ((x0.length : Int))))) then (if (wrap64 (Int.tmod (u64.wrap (x2)) (u64.wrap ((x0.length : Int))))) < (t459.length : Int) then (raddlelaw20_PlanBent.j1 k x1 (t459.set ((wrap64 (Int.tmod (u64.wrap (x2)) (u64.wrap ((x0.length : Int))))) : Int).toNat (⟨0, (rd_T34 t459 (wrap64 (Int.tmod (u64.wrap (x2)) (u64.wrap ((x0.length : Int)))))).f1, (rd_T34 t459 (wrap64 (Int.tmod (u64.wrap (x2)) (u64.wrap ((x0.length : Int)))))).f2, (rd_T34 t459 (wrap64 (Int.tmod (u64.wrap (x2)) (u64.wrap ((x0.length : Int)))))).f3, (⟨(rd_T34 t459 (wrap64 (Int.tmod (u64.wrap (x2)) (u64.wrap ((x0.length : Int)))))).f4.f0, (rd_T34 t459 (wrap64 (Int.tmod (u64.wrap (x2)) (u64.wrap ((x0.length : Int)))))).f4.f1, (rd_T34 t459 (wrap64 (Int.tmod (u64.wrap (x2)) (u64.wrap ((x0.length : Int)))))).f4.f2, (⟨(rd_T34 t459 (wrap64 (Int.tmod (u64.wrap (x2)) (u64.wrap ((x0.length : Int)))))).f4.f3.f0, (rd_T34 t459 (wrap64 (Int.tmod (u64.wrap (x2)) (u64.wrap ((x0.length : Int)))))).f4.f3.f1, (rd_T34 t459 (wrap64 (Int.tmod (u64.wrap (x2)) (u64.wrap ((x0.length : Int)))))).f4.f3.f2⟩ : S29)⟩ : S31), (rd_T34 t459 (wrap64 (Int.tmod (u64.wrap (x2)) (u64.wrap ((x0.length : Int)))))).f5, (rd_T34 t459 (wrap64 (Int.tmod (u64.wrap (x2)) (u64.wrap ((x0.length : Int)))))).f6, (rd_T34 t459 (wrap64 (Int.tmod (u64.wrap (x2)) (u64.wrap ((x0.length : Int)))))).f7, (rd_T34 t459 (wrap64 (Int.tmod (u64.wrap (x2)) (u64.wrap ((x0.length : Int)))))).f8⟩ : S34))) else (none)) else (none)) else (if (Int.tmod (u64.wrap (x3)) 5) = 1 then (if 0 ≤ (wrap64 (Int.tmod (u64.wrap (x2)) (u64.wrap ((x0.length : Int))))) then (if (wrap64 (Int.tmod (u64.wrap (x2)) (u64.wrap ((x0.length : Int))))) < (t459.length : Int) then (raddlelaw20_PlanBent.j1 k x1 (t459.set ((wrap64 (Int.tmod (u64.wrap (x2)) (u64.wrap ((x0.length : Int))))) : Int).toNat (⟨9, (rd_T34 t459 (wrap64 (Int.tmod (u64.wrap (x2)) (u64.wrap ((x0.length : Int)))))).f1, (rd_T34 t459 (wrap64 (Int.tmod (u64.wrap (x2)) (u64.wrap ((x0.length : Int)))))).f2, (rd_T34 t459 (wrap64 (Int.tmod (u64.wrap (x2)) (u64.wrap ((x0.length : Int)))))).f3, (⟨(rd_T34 t459 (wrap64 (Int.tmod (u64.wrap (x2)) (u64.wrap ((x0.length : Int)))))).f4.f0, (rd_T34 t459 (wrap64 (Int.tmod (u64.wrap (x2)) (u64.wrap ((x0.length : Int)))))).f4.f1, (rd_T34 t459 (wrap64 (Int.tmod (u64.wrap (x2)) (u64.wrap ((x0.length : Int)))))).f4.f2, (⟨(rd_T34 t459 (wrap64 (Int.tmod (u64.wrap (x2)) (u64.wrap ((x0.length : Int)))))).f4.f3.f0, (rd_T34 t459 (wrap64 (Int.tmod (u64.wrap (x2)) (u64.wrap ((x0.length : Int)))))).f4.f3.f1, (rd_T34 t459 (wrap64 (Int.tmod (u64.wrap (x2)) (u64.wrap ((x0.length : Int)))))).f4.f3.f2⟩ : S29)⟩ : S31), (rd_T34 t459 (wrap64 (Int.tmod (u64.wrap (x2)) (u64.wrap ((x0.length : Int)))))).f5, (rd_T34 t459 (wrap64 (Int.tmod (u64.wrap (x2)) (u64.wrap ((x0.length : Int)))))).f6, (rd_T34 t459 (wrap64 (Int.tmod (u64.wrap (x2)) (u64.wrap ((x0.length : Int)))))).f7, (rd_T34 t459 (wrap64 (Int.tmod (u64.wrap (x2)) (u64.wrap ((x0.length : Int)))))).f8⟩ : S34))) else (none)) else (none)) else (if (Int.tmod (u64.wrap (x3)) 5) = 2 then (if 0 ≤ (wrap64 (Int.tmod (u64.wrap (x2)) (u64.wrap ((x0.length : Int))))) then (if (wrap64 (Int.tmod (u64.wrap (x2)) (u64.wrap ((x0.length : Int))))) < (t459.length : Int) then (if ((rd_T34 t459 (wrap64 (Int.tmod (u64.wrap (x2)) (u64.wrap ((x0.length : Int)))))).f0) = 1 then (raddlelaw20_PlanBent.j1 k x1 (t459.set ((wrap64 (Int.tmod (u64.wrap (x2)) (u64.wrap ((x0.length : Int))))) : Int).toNat (⟨(rd_T34 t459 (wrap64 (Int.tmod (u64.wrap (x2)) (u64.wrap ((x0.length : Int)))))).f0, (rd_T34 t459 (wrap64 (Int.tmod (u64.wrap (x2)) (u64.wrap ((x0.length : Int)))))).f1, (rd_T34 t459 (wrap64 (Int.tmod (u64.wrap (x2)) (u64.wrap ((x0.length : Int)))))).f2, (x1.length : Int), (⟨(rd_T34 t459 (wrap64 (Int.tmod (u64.wrap (x2)) (u64.wrap ((x0.length : Int)))))).f4.f0, (rd_T34 t459 (wrap64 (Int.tmod (u64.wrap (x2)) (u64.wrap ((x0.length : Int)))))).f4.f1, (rd_T34 t459 (wrap64 (Int.tmod (u64.wrap (x2)) (u64.wrap ((x0.length : Int)))))).f4.f2, (⟨(rd_T34 t459 (wrap64 (Int.tmod (u64.wrap (x2)) (u64.wrap ((x0.length : Int)))))).f4.f3.f0, (rd_T34 t459 (wrap64 (Int.tmod (u64.wrap (x2)) (u64.wrap ((x0.length : Int)))))).f4.f3.f1, (rd_T34 t459 (wrap64 (Int.tmod (u64.wrap (x2)) (u64.wrap ((x0.length : Int)))))).f4.f3.f2⟩ : S29)⟩ : S31), (rd_T34 t459 (wrap64 (Int.tmod (u64.wrap (x2)) (u64.wrap ((x0.length : Int)))))).f5, (rd_T34 t459 (wrap64 (Int.tmod (u64.wrap (x2)) (u64.wrap ((x0.length : Int)))))).f6, (rd_T34 t459 (wrap64 (Int.tmod (u64.wrap (x2)) (u64.wrap ((x0.length : Int)))))).f7, (rd_T34 t459 (wrap64 (Int.tmod (u64.wrap (x2)) (u64.wrap ((x0.length : Int)))))).f8⟩ : S34))) else (raddlelaw20_PlanBent.j1 k x1 (t459.set ((wrap64 (Int.tmod (u64.wrap (x2)) (u64.wrap ((x0.length : Int))))) : Int).toNat (⟨(rd_T34 t459 (wrap64 (Int.tmod (u64.wrap (x2)) (u64.wrap ((x0.length : Int)))))).f0, wrap64 (Int.tmod (u64.wrap (x2)) (u64.wrap ((x0.length : Int)))), (rd_T34 t459 (wrap64 (Int.tmod (u64.wrap (x2)) (u64.wrap ((x0.length : Int)))))).f2, (rd_T34 t459 (wrap64 (Int.tmod (u64.wrap (x2)) (u64.wrap ((x0.length : Int)))))).f3, (⟨(rd_T34 t459 (wrap64 (Int.tmod (u64.wrap (x2)) (u64.wrap ((x0.length : Int)))))).f4.f0, (rd_T34 t459 (wrap64 (Int.tmod (u64.wrap (x2)) (u64.wrap ((x0.length : Int)))))).f4.f1, (rd_T34 t459 (wrap64 (Int.tmod (u64.wrap (x2)) (u64.wrap ((x0.length : Int)))))).f4.f2, (⟨(rd_T34 t459 (wrap64 (Int.tmod (u64.wrap (x2)) (u64.wrap ((x0.length : Int)))))).f4.f3.f0, (rd_T34 t459 (wrap64 (Int.tmod (u64.wrap (x2)) (u64.wrap ((x0.length : Int)))))).f4.f3.f1, (rd_T34 t459 (wrap64 (Int.tmod (u64.wrap (x2)) (u64.wrap ((x0.length : Int)))))).f4.f3.f2⟩ : S29)⟩ : S31), (rd_T34 t459 (wrap64 (Int.tmod (u64.wrap (x2)) (u64.wrap ((x0.length : Int)))))).f5, (rd_T34 t459 (wrap64 (Int.tmod (u64.wrap (x2)) (u64.wrap ((x0.length : Int)))))).f6, (rd_T34 t459 (wrap64 (Int.tmod (u64.wrap (x2)) (u64.wrap ((x0.length : Int)))))).f7, (rd_T34 t459 (wrap64 (Int.tmod (u64.wrap (x2)) (u64.wrap ((x0.length : Int)))))).f8⟩ : S34)))) else (none)) else (none)) else (if (Int.tmod (u64.wrap (x3)) 5) = 3 then (if 0 ≤ (wrap64 (Int.tmod (u64.wrap (x2)) (u64.wrap ((x0.length : Int))))) then (if (wrap64 (Int.tmod (u64.wrap (x2)) (u64.wrap ((x0.length : Int))))) < (t459.length : Int) then (if ((rd_T34 t459 (wrap64 (Int.tmod (u64.wrap (x2)) (u64.wrap ((x0.length : Int)))))).f0) = 1 then (raddlelaw20_PlanBent.j1 k x1 (t459.set ((wrap64 (Int.tmod (u64.wrap (x2)) (u64.wrap ((x0.length : Int))))) : Int).toNat (⟨(rd_T34 t459 (wrap64 (Int.tmod (u64.wrap (x2)) (u64.wrap ((x0.length : Int)))))).f0, (rd_T34 t459 (wrap64 (Int.tmod (u64.wrap (x2)) (u64.wrap ((x0.length : Int)))))).f1, (rd_T34 t459 (wrap64 (Int.tmod (u64.wrap (x2)) (u64.wrap ((x0.length : Int)))))).f2, (-1), (⟨(rd_T34 t459 (wrap64 (Int.tmod (u64.wrap (x2)) (u64.wrap ((x0.length : Int)))))).f4.f0, (rd_T34 t459 (wrap64 (Int.tmod (u64.wrap (x2)) (u64.wrap ((x0.length : Int)))))).f4.f1, (rd_T34 t459 (wrap64 (Int.tmod (u64.wrap (x2)) (u64.wrap ((x0.length : Int)))))).f4.f2, (⟨(rd_T34 t459 (wrap64 (Int.tmod (u64.wrap (x2)) (u64.wrap ((x0.length : Int)))))).f4.f3.f0, (rd_T34 t459 (wrap64 (Int.tmod (u64.wrap (x2)) (u64.wrap ((x0.length : Int)))))).f4.f3.f1, (rd_T34 t459 (wrap64 (Int.tmod (u64.wrap (x2)) (u64.wrap ((x0.length : Int)))))).f4.f3.f2⟩ : S29)⟩ : S31), (rd_T34 t459 (wrap64 (Int.tmod (u64.wrap (x2)) (u64.wrap ((x0.length : Int)))))).f5, (rd_T34 t459 (wrap64 (Int.tmod (u64.wrap (x2)) (u64.wrap ((x0.length : Int)))))).f6, (rd_T34 t459 (wrap64 (Int.tmod (u64.wrap (x2)) (u64.wrap ((x0.length : Int)))))).f7, (rd_T34 t459 (wrap64 (Int.tmod (u64.wrap (x2)) (u64.wrap ((x0.length : Int)))))).f8⟩ : S34))) else (raddlelaw20_PlanBent.j1 k x1 (t459.set ((wrap64 (Int.tmod (u64.wrap (x2)) (u64.wrap ((x0.length : Int))))) : Int).toNat (⟨(rd_T34 t459 (wrap64 (Int.tmod (u64.wrap (x2)) (u64.wrap ((x0.length : Int)))))).f0, (-1), (rd_T34 t459 (wrap64 (Int.tmod (u64.wrap (x2)) (u64.wrap ((x0.length : Int)))))).f2, (rd_T34 t459 (wrap64 (Int.tmod (u64.wrap (x2)) (u64.wrap ((x0.length : Int)))))).f3, (⟨(rd_T34 t459 (wrap64 (Int.tmod (u64.wrap (x2)) (u64.wrap ((x0.length : Int)))))).f4.f0, (rd_T34 t459 (wrap64 (Int.tmod (u64.wrap (x2)) (u64.wrap ((x0.length : Int)))))).f4.f1, (rd_T34 t459 (wrap64 (Int.tmod (u64.wrap (x2)) (u64.wrap ((x0.length : Int)))))).f4.f2, (⟨(rd_T34 t459 (wrap64 (Int.tmod (u64.wrap (x2)) (u64.wrap ((x0.length : Int)))))).f4.f3.f0, (rd_T34 t459 (wrap64 (Int.tmod (u64.wrap (x2)) (u64.wrap ((x0.length : Int)))))).f4.f3.f1, (rd_T34 t459 (wrap64 (Int.tmod (u64.wrap (x2)) (u64.wrap ((x0.length : Int)))))).f4.f3.f2⟩ : S29)⟩ : S31), (rd_T34 t459 (wrap64 (Int.tmod (u64.wrap (x2)) (u64.wrap ((x0.length : Int)))))).f5, (rd_T34 t459 (wrap64 (Int.tmod (u64.wrap (x2)) (u64.wrap ((x0.length : Int)))))).f6, (rd_T34 t459 (wrap64 (Int.tmod (u64.wrap (x2)) (u64.wrap ((x0.length : Int)))))).f7, (rd_T34 t459 (wrap64 (Int.tmod (u64.wrap (x2)) (u64.wrap ((x0.length : Int)))))).f8⟩ : S34)))) else (none)) else (none)) else (if 0 ≤ (wrap64 (Int.tmod (u64.wrap (x2)) (u64.wrap ((x0.length : Int))))) then (if (wrap64 (Int.tmod (u64.wrap (x2)) (u64.wrap ((x0.length : Int))))) < (t459.length : Int) then (if ((rd_T34 t459 (wrap64 (Int.tmod (u64.wrap (x2)) (u64.wrap ((x0.length : Int)))))).f0) = 1 then ((some (t459.set ((wrap64 (Int.tmod (u64.wrap (x2)) (u64.wrap ((x0.length : Int))))) : Int).toNat (⟨7, (rd_T34 t459 (wrap64 (Int.tmod (u64.wrap (x2)) (u64.wrap ((x0.length : Int)))))).f1, (rd_T34 t459 (wrap64 (Int.tmod (u64.wrap (x2)) (u64.wrap ((x0.length : Int)))))).f2, (rd_T34 t459 (wrap64 (Int.tmod (u64.wrap (x2)) (u64.wrap ((x0.length : Int)))))).f3, (⟨(rd_T34 t459 (wrap64 (Int.tmod (u64.wrap (x2)) (u64.wrap ((x0.length : Int)))))).f4.f0, (rd_T34 t459 (wrap64 (Int.tmod (u64.wrap (x2)) (u64.wrap ((x0.length : Int)))))).f4.f1, (rd_T34 t459 (wrap64 (Int.tmod (u64.wrap (x2)) (u64.wrap ((x0.length : Int)))))).f4.f2, (⟨(rd_T34 t459 (wrap64 (Int.tmod (u64.wrap (x2)) (u64.wrap ((x0.length : Int)))))).f4.f3.f0, (rd_T34 t459 (wrap64 (Int.tmod (u64.wrap (x2)) (u64.wrap ((x0.length : Int)))))).f4.f3.f1, (rd_T34 t459 (wrap64 (Int.tmod (u64.wrap (x2)) (u64.wrap ((x0.length : Int)))))).f4.f3.f2⟩ : S29)⟩ : S31), (rd_T34 t459 (wrap64 (Int.tmod (u64.wrap (x2)) (u64.wrap ((x0.length : Int)))))).f5, (rd_T34 t459 (wrap64 (Int.tmod (u64.wrap (x2)) (u64.wrap ((x0.length : Int)))))).f6, (rd_T34 t459 (wrap64 (Int.tmod (u64.wrap (x2)) (u64.wrap ((x0.length : Int)))))).f7, (rd_T34 t459 (wrap64 (Int.tmod (u64.wrap (x2)) (u64.wrap ((x0.length : Int)))))).f8⟩ : S34) : List (S34))).bind fun y471 => (raddlelaw20_PlanBent.j1 k x1 (y471.set ((wrap64 (Int.tmod (u64.wrap (x2)) (u64.wrap ((x0.length : Int))))) : Int).toNat (⟨(rd_T34 y471 (wrap64 (Int.tmod (u64.wrap (x2)) (u64.wrap ((x0.length : Int)))))).f0, wrap64 (Int.tmod (u64.wrap (x2)) (u64.wrap ((x0.length : Int)))), (rd_T34 y471 (wrap64 (Int.tmod (u64.wrap (x2)) (u64.wrap ((x0.length : Int)))))).f2, (rd_T34 y471 (wrap64 (Int.tmod (u64.wrap (x2)) (u64.wrap ((x0.length : Int)))))).f3, (⟨(rd_T34 y471 (wrap64 (Int.tmod (u64.wrap (x2)) (u64.wrap ((x0.length : Int)))))).f4.f0, (rd_T34 y471 (wrap64 (Int.tmod (u64.wrap (x2)) (u64.wrap ((x0.length : Int)))))).f4.f1, (rd_T34 y471 (wrap64 (Int.tmod (u64.wrap (x2)) (u64.wrap ((x0.length : Int)))))).f4.f2, (⟨(rd_T34 y471 (wrap64 (Int.tmod (u64.wrap (x2)) (u64.wrap ((x0.length : Int)))))).f4.f3.f0, (rd_T34 y471 (wrap64 (Int.tmod (u64.wrap (x2)) (u64.wrap ((x0.length : Int)))))).f4.f3.f1, (rd_T34 y471 (wrap64 (Int.tmod (u64.wrap (x2)) (u64.wrap ((x0.length : Int)))))).f4.f3.f2⟩ : S29)⟩ : S31), (rd_T34 y471 (wrap64 (Int.tmod (u64.wrap (x2)) (u64.wrap ((x0.length : Int)))))).f5, (rd_T34 y471 (wrap64 (Int.tmod (u64.wrap (x2)) (u64.wrap ((x0.length : Int)))))).f6, (rd_T34 y471 (wrap64 (Int.tmod (u64.wrap (x2)) (u64.wrap ((x0.length : Int)))))).f7, (rd_T34 y471 (wrap64 (Int.tmod (u64.wrap (x2)) (u64.wrap ((x0.length : Int)))))).f8⟩ : S34)))) else (raddlelaw20_PlanBent.j1 k x1 (t459.set ((wrap64 (Int.tmod (u64.wrap (x2)) (u64.wrap ((x0.length : Int))))) : Int).toNat (⟨(rd_T34 t459 (wrap64 (Int.tmod (u64.wrap (x2)) (u64.wrap ((x0.length : Int)))))).f0, (x0.length : Int), (rd_T34 t459 (wrap64 (Int.tmod (u64.wrap (x2)) (u64.wrap ((x0.length : Int)))))).f2, (rd_T34 t459 (wrap64 (Int.tmod (u64.wrap (x2)) (u64.wrap ((x0.length : Int)))))).f3, (⟨(rd_T34 t459 (wrap64 (Int.tmod (u64.wrap (x2)) (u64.wrap ((x0.length : Int)))))).f4.f0, (rd_T34 t459 (wrap64 (Int.tmod (u64.wrap (x2)) (u64.wrap ((x0.length : Int)))))).f4.f1, (rd_T34 t459 (wrap64 (Int.tmod (u64.wrap (x2)) (u64.wrap ((x0.length : Int)))))).f4.f2, (⟨(rd_T34 t459 (wrap64 (Int.tmod (u64.wrap (x2)) (u64.wrap ((x0.length : Int)))))).f4.f3.f0, (rd_T34 t459 (wrap64 (Int.tmod (u64.wrap (x2)) (u64.wrap ((x0.length : Int)))))).f4.f3.f1, (rd_T34 t459 (wrap64 (Int.tmod (u64.wrap (x2)) (u64.wrap ((x0.length : Int)))))).f4.f3.f2⟩ : S29)⟩ : S31), (rd_T34 t459 (wrap64 (Int.tmod (u64.wrap (x2)) (u64.wrap ((x0.length : Int)))))).f5, (rd_T34 t459 (wrap64 (Int.tmod (u64.wrap (x2)) (u64.wrap ((x0.length : Int)))))).f6, (rd_T34 t459 (wrap64 (Int.tmod (u64.wrap (x2)) (u64.wrap ((x0.length : Int)))))).f7, (rd_T34 t459 (wrap64 (Int.tmod (u64.wrap (x2)) (u64.wrap ((x0.length : Int)))))).f8⟩ : S34)))) else (none)) else (none)))))))) else (some true)))
def raddlelaw20_PlanBent.j1 : Nat → List (S54) → List (S34) → Option (Bool)
 | 0, _, _ => none
 | k + 1, x1, x11 => (plan_Check.f x11 x1).bind fun bt474 => ((plan_Bound.f x11 x1).bind fun bt478 => (if bt474.2 = 1 then (if bt478.2.2 = 1 then (if (bt474.1.length : Int) = 0 then (if bt478.1 = 0 then (if bt478.2.1 = 0 then ((raddlelaw20_wakes.f k).bind fun t481 => (some t481)) else (some false)) else (some false)) else (some false)) else (some false)) else (some false)))
end
def raddlelaw20_PlanBent.f (k : Nat) (l0 : List (S34)) (l1 : List (S54)) (a2 : Int) (a3 : Int) : Option (Bool) := (raddlelaw20_Heavy.f k l0).bind fun t453 => (if t453 = true then (raddlelaw20_PlanBent.j0 k l0 l1 a2 a3 true) else ((raddlelaw07_HeavyForms.f k l1).bind fun t454 => (raddlelaw20_PlanBent.j0 k l0 l1 a2 a3 t454)))
theorem raddlelaw20_PlanBent.calls (k : Nat) (A0 : Option Addr) (c0 : Nat) (l0 : List (S34)) (A1 : Option Addr) (c1 : Nat) (l1 : List (S54)) (a2 : Int) (a3 : Int) (r : Bool) (w : World) (hr0 : Kd.C k34 w A0 l0.length l0) (hc0 : l0.length ≤ c0) (hr1 : Kd.C k54 w A1 l1.length l1) (hc1 : l1.length ≤ c1) (hrt : r = true) (h : raddlelaw20_PlanBent.f k l0 l1 a2 a3 = some r) :
  Calls Try.prog 5 #[.slice A0 l0.length c0, .slice A1 l1.length c1, .int .i64 a2, .int .i64 a3] w fun e w' => e = .returned (.bool r) ∧ Below w.heap.size w w' := by
 have HR0 := mk_ hr0
 have HC0 := mk_ hc0
 clear hr0 hc0
 have HR1 := mk_ hr1
 have HC1 := mk_ hc1
 clear hr1 hc1
 have HB := mk_ (Below.refl w.heap.size w)
 have H : ((raddlelaw20_Heavy.f k l0).bind fun t453 => (if t453 = true then (raddlelaw20_PlanBent.j0 k l0 l1 a2 a3 true) else ((raddlelaw07_HeavyForms.f k l1).bind fun t454 => (raddlelaw20_PlanBent.j0 k l0 l1 a2 a3 t454)))) = some r := h
 clear h
 have HC5 := mk_ H
 clear H
 go_enter Try.func5, Try.ntmps5
 go_upto_region 1 with (fail)
 go_cut [22] (fun v22 wc => ∃ (kq : Nat) (x22_4 : Bool), v22 = .bool x22_4 ∧ Aside0 (raddlelaw20_PlanBent.j0 kq l0 l1 a2 a3 x22_4 = some r) ∧ Aside0 (kq ≤ k) ∧ Aside0 (Below w.heap.size w wc))
 case first =>
  have H := HC5.out
  clear HC5
  replace H := Option.bind_eq_some_iff.mp H
  obtain ⟨t453, A60, H⟩ := H
  replace H : (if t453 = true then (raddlelaw20_PlanBent.j0 k l0 l1 a2 a3 true) else ((raddlelaw07_HeavyForms.f k l1).bind fun t454 => (raddlelaw20_PlanBent.j0 k l0 l1 a2 a3 t454))) = some r := H
  have A6 := mk_ A60
  clear A60
  by_cases c7 : t453 = true
  ·
   subst c7
   have H1 : (raddlelaw20_PlanBent.j0 k l0 l1 a2 a3 true) = some r := by rw [if_pos rfl] at H; exact H
   clear H
   have H := H1
   clear H1
   have H' := mk_ H
   clear H
   go_wp2_with (first | ((with_reducible refine gate_callee (f := 15) rfl ?_); refine Short.gL (some 18) Try.func15 #[.slice A0 l0.length c0] (h := ?_); (with_reducible refine (raddlelaw20_Heavy.calls k _ _ l0 true _ ?side1 ?side2 A6.out).mono ?_); (case side1 => exact cX_ (C_below HR0.out HB.out)); (case side2 => exact HC0.out); rintro e w8 ⟨rfl, hb⟩; refine ⟨_, rfl, ?_⟩; have n0_ := mk_ (below_step (Short.hB HB) hb); clear HB; revert n0_; intro HB; (try clear hb)))
   (try subst hji20)
   (try subst hji27)
   (try subst hji34)
   (try subst hji47)
   (try subst hji59)
   go_meet
   case rel => exact ⟨_, (true), z8, H', ⟨by first | omega | exact Nat.le_refl _⟩, ⟨Short.hB HB⟩⟩
  replace c7 := Bool.eq_false_iff.mpr c7
  subst c7
  have H1 : ((raddlelaw07_HeavyForms.f k l1).bind fun t454 => (raddlelaw20_PlanBent.j0 k l0 l1 a2 a3 t454)) = some r := by rw [if_neg (show ¬ (false = true) by decide)] at H; exact H
  clear H
  have H := H1
  clear H1
  replace H := Option.bind_eq_some_iff.mp H
  obtain ⟨t454, A90, H⟩ := H
  replace H : (raddlelaw20_PlanBent.j0 k l0 l1 a2 a3 t454) = some r := H
  have A9 := mk_ A90
  clear A90
  have H' := mk_ H
  clear H
  go_wp2_with (first | ((with_reducible refine gate_callee (f := 15) rfl ?_); refine Short.gL (some 18) Try.func15 #[.slice A0 l0.length c0] (h := ?_); (with_reducible refine (raddlelaw20_Heavy.calls k _ _ l0 false _ ?side1 ?side2 A6.out).mono ?_); (case side1 => exact cX_ (C_below HR0.out HB.out)); (case side2 => exact HC0.out); rintro e w10 ⟨rfl, hb⟩; refine ⟨_, rfl, ?_⟩; have n0_ := mk_ (below_step (Short.hB HB) hb); clear HB; revert n0_; intro HB; (try clear hb)) | (go_at_call 10; (with_reducible refine (raddlelaw07_HeavyForms.calls k _ _ l1 t454 _ ?side1 ?side2 A9.out).mono ?_); (case side1 => exact cX_ (C_below HR1.out HB.out)); (case side2 => exact HC1.out); rintro e w' ⟨rfl, ⟨nd, rfl⟩⟩))
  (try subst hji20)
  (try subst hji27)
  (try subst hji34)
  (try subst hji47)
  (try subst hji59)
  go_meet
  case rel => exact ⟨_, (t454), z8, H', ⟨by first | omega | exact Nat.le_refl _⟩, ⟨Short.hB HB⟩⟩
 case rest =>
  clear HC5
  try clear c1
  try clear p2
  try clear c5
  try clear c7
  obtain ⟨kq, x22_4, rfl, HA, HJ4, HB⟩ := hcut
  cases kq with
  | zero => exact absurd HA.out (by simp [raddlelaw20_PlanBent.j0])
  | succ kj4 =>
   have H := HA.out
   clear HA
   simp only [raddlelaw20_PlanBent.j0] at H
   by_cases c11 : x22_4 = true
   ·
    subst c11
    have H1 : (some true) = some r := by rw [if_pos rfl] at H; exact H
    clear H
    have H := H1
    clear H1
    obtain rfl := Option.some.inj H
    go_wp2
    go_ret
    exact ⟨q0, Short.hB HB⟩
   replace c11 := Bool.eq_false_iff.mpr c11
   subst c11
   have H1 : ((raddleref14_Plan.f l0 l1).bind fun bt455 => (if bt455.2 = 0 then (if (u64.wrap ((l0.length : Int))) = 0 then (none) else ((raddlekeep_TwinNodes.f kj4 l0).bind fun t459 => (if (Int.tmod (u64.wrap (a3)) 5) = 0 then (if 0 ≤ (wrap64 (Int.tmod (u64.wrap (a2)) (u64.wrap ((l0.length : Int))))) then (if (wrap64 (Int.tmod (u64.wrap (a2)) (u64.wrap ((l0.length : Int))))) < (t459.length : Int) then (raddlelaw20_PlanBent.j1 kj4 l1 (t459.set ((wrap64 (Int.tmod (u64.wrap (a2)) (u64.wrap ((l0.length : Int))))) : Int).toNat (⟨0, (rd_T34 t459 (wrap64 (Int.tmod (u64.wrap (a2)) (u64.wrap ((l0.length : Int)))))).f1, (rd_T34 t459 (wrap64 (Int.tmod (u64.wrap (a2)) (u64.wrap ((l0.length : Int)))))).f2, (rd_T34 t459 (wrap64 (Int.tmod (u64.wrap (a2)) (u64.wrap ((l0.length : Int)))))).f3, (⟨(rd_T34 t459 (wrap64 (Int.tmod (u64.wrap (a2)) (u64.wrap ((l0.length : Int)))))).f4.f0, (rd_T34 t459 (wrap64 (Int.tmod (u64.wrap (a2)) (u64.wrap ((l0.length : Int)))))).f4.f1, (rd_T34 t459 (wrap64 (Int.tmod (u64.wrap (a2)) (u64.wrap ((l0.length : Int)))))).f4.f2, (⟨(rd_T34 t459 (wrap64 (Int.tmod (u64.wrap (a2)) (u64.wrap ((l0.length : Int)))))).f4.f3.f0, (rd_T34 t459 (wrap64 (Int.tmod (u64.wrap (a2)) (u64.wrap ((l0.length : Int)))))).f4.f3.f1, (rd_T34 t459 (wrap64 (Int.tmod (u64.wrap (a2)) (u64.wrap ((l0.length : Int)))))).f4.f3.f2⟩ : S29)⟩ : S31), (rd_T34 t459 (wrap64 (Int.tmod (u64.wrap (a2)) (u64.wrap ((l0.length : Int)))))).f5, (rd_T34 t459 (wrap64 (Int.tmod (u64.wrap (a2)) (u64.wrap ((l0.length : Int)))))).f6, (rd_T34 t459 (wrap64 (Int.tmod (u64.wrap (a2)) (u64.wrap ((l0.length : Int)))))).f7, (rd_T34 t459 (wrap64 (Int.tmod (u64.wrap (a2)) (u64.wrap ((l0.length : Int)))))).f8⟩ : S34))) else (none)) else (none)) else (if (Int.tmod (u64.wrap (a3)) 5) = 1 then (if 0 ≤ (wrap64 (Int.tmod (u64.wrap (a2)) (u64.wrap ((l0.length : Int))))) then (if (wrap64 (Int.tmod (u64.wrap (a2)) (u64.wrap ((l0.length : Int))))) < (t459.length : Int) then (raddlelaw20_PlanBent.j1 kj4 l1 (t459.set ((wrap64 (Int.tmod (u64.wrap (a2)) (u64.wrap ((l0.length : Int))))) : Int).toNat (⟨9, (rd_T34 t459 (wrap64 (Int.tmod (u64.wrap (a2)) (u64.wrap ((l0.length : Int)))))).f1, (rd_T34 t459 (wrap64 (Int.tmod (u64.wrap (a2)) (u64.wrap ((l0.length : Int)))))).f2, (rd_T34 t459 (wrap64 (Int.tmod (u64.wrap (a2)) (u64.wrap ((l0.length : Int)))))).f3, (⟨(rd_T34 t459 (wrap64 (Int.tmod (u64.wrap (a2)) (u64.wrap ((l0.length : Int)))))).f4.f0, (rd_T34 t459 (wrap64 (Int.tmod (u64.wrap (a2)) (u64.wrap ((l0.length : Int)))))).f4.f1, (rd_T34 t459 (wrap64 (Int.tmod (u64.wrap (a2)) (u64.wrap ((l0.length : Int)))))).f4.f2, (⟨(rd_T34 t459 (wrap64 (Int.tmod (u64.wrap (a2)) (u64.wrap ((l0.length : Int)))))).f4.f3.f0, (rd_T34 t459 (wrap64 (Int.tmod (u64.wrap (a2)) (u64.wrap ((l0.length : Int)))))).f4.f3.f1, (rd_T34 t459 (wrap64 (Int.tmod (u64.wrap (a2)) (u64.wrap ((l0.length : Int)))))).f4.f3.f2⟩ : S29)⟩ : S31), (rd_T34 t459 (wrap64 (Int.tmod (u64.wrap (a2)) (u64.wrap ((l0.length : Int)))))).f5, (rd_T34 t459 (wrap64 (Int.tmod (u64.wrap (a2)) (u64.wrap ((l0.length : Int)))))).f6, (rd_T34 t459 (wrap64 (Int.tmod (u64.wrap (a2)) (u64.wrap ((l0.length : Int)))))).f7, (rd_T34 t459 (wrap64 (Int.tmod (u64.wrap (a2)) (u64.wrap ((l0.length : Int)))))).f8⟩ : S34))) else (none)) else (none)) else (if (Int.tmod (u64.wrap (a3)) 5) = 2 then (if 0 ≤ (wrap64 (Int.tmod (u64.wrap (a2)) (u64.wrap ((l0.length : Int))))) then (if (wrap64 (Int.tmod (u64.wrap (a2)) (u64.wrap ((l0.length : Int))))) < (t459.length : Int) then (if ((rd_T34 t459 (wrap64 (Int.tmod (u64.wrap (a2)) (u64.wrap ((l0.length : Int)))))).f0) = 1 then (raddlelaw20_PlanBent.j1 kj4 l1 (t459.set ((wrap64 (Int.tmod (u64.wrap (a2)) (u64.wrap ((l0.length : Int))))) : Int).toNat (⟨(rd_T34 t459 (wrap64 (Int.tmod (u64.wrap (a2)) (u64.wrap ((l0.length : Int)))))).f0, (rd_T34 t459 (wrap64 (Int.tmod (u64.wrap (a2)) (u64.wrap ((l0.length : Int)))))).f1, (rd_T34 t459 (wrap64 (Int.tmod (u64.wrap (a2)) (u64.wrap ((l0.length : Int)))))).f2, (l1.length : Int), (⟨(rd_T34 t459 (wrap64 (Int.tmod (u64.wrap (a2)) (u64.wrap ((l0.length : Int)))))).f4.f0, (rd_T34 t459 (wrap64 (Int.tmod (u64.wrap (a2)) (u64.wrap ((l0.length : Int)))))).f4.f1, (rd_T34 t459 (wrap64 (Int.tmod (u64.wrap (a2)) (u64.wrap ((l0.length : Int)))))).f4.f2, (⟨(rd_T34 t459 (wrap64 (Int.tmod (u64.wrap (a2)) (u64.wrap ((l0.length : Int)))))).f4.f3.f0, (rd_T34 t459 (wrap64 (Int.tmod (u64.wrap (a2)) (u64.wrap ((l0.length : Int)))))).f4.f3.f1, (rd_T34 t459 (wrap64 (Int.tmod (u64.wrap (a2)) (u64.wrap ((l0.length : Int)))))).f4.f3.f2⟩ : S29)⟩ : S31), (rd_T34 t459 (wrap64 (Int.tmod (u64.wrap (a2)) (u64.wrap ((l0.length : Int)))))).f5, (rd_T34 t459 (wrap64 (Int.tmod (u64.wrap (a2)) (u64.wrap ((l0.length : Int)))))).f6, (rd_T34 t459 (wrap64 (Int.tmod (u64.wrap (a2)) (u64.wrap ((l0.length : Int)))))).f7, (rd_T34 t459 (wrap64 (Int.tmod (u64.wrap (a2)) (u64.wrap ((l0.length : Int)))))).f8⟩ : S34))) else (raddlelaw20_PlanBent.j1 kj4 l1 (t459.set ((wrap64 (Int.tmod (u64.wrap (a2)) (u64.wrap ((l0.length : Int))))) : Int).toNat (⟨(rd_T34 t459 (wrap64 (Int.tmod (u64.wrap (a2)) (u64.wrap ((l0.length : Int)))))).f0, wrap64 (Int.tmod (u64.wrap (a2)) (u64.wrap ((l0.length : Int)))), (rd_T34 t459 (wrap64 (Int.tmod (u64.wrap (a2)) (u64.wrap ((l0.length : Int)))))).f2, (rd_T34 t459 (wrap64 (Int.tmod (u64.wrap (a2)) (u64.wrap ((l0.length : Int)))))).f3, (⟨(rd_T34 t459 (wrap64 (Int.tmod (u64.wrap (a2)) (u64.wrap ((l0.length : Int)))))).f4.f0, (rd_T34 t459 (wrap64 (Int.tmod (u64.wrap (a2)) (u64.wrap ((l0.length : Int)))))).f4.f1, (rd_T34 t459 (wrap64 (Int.tmod (u64.wrap (a2)) (u64.wrap ((l0.length : Int)))))).f4.f2, (⟨(rd_T34 t459 (wrap64 (Int.tmod (u64.wrap (a2)) (u64.wrap ((l0.length : Int)))))).f4.f3.f0, (rd_T34 t459 (wrap64 (Int.tmod (u64.wrap (a2)) (u64.wrap ((l0.length : Int)))))).f4.f3.f1, (rd_T34 t459 (wrap64 (Int.tmod (u64.wrap (a2)) (u64.wrap ((l0.length : Int)))))).f4.f3.f2⟩ : S29)⟩ : S31), (rd_T34 t459 (wrap64 (Int.tmod (u64.wrap (a2)) (u64.wrap ((l0.length : Int)))))).f5, (rd_T34 t459 (wrap64 (Int.tmod (u64.wrap (a2)) (u64.wrap ((l0.length : Int)))))).f6, (rd_T34 t459 (wrap64 (Int.tmod (u64.wrap (a2)) (u64.wrap ((l0.length : Int)))))).f7, (rd_T34 t459 (wrap64 (Int.tmod (u64.wrap (a2)) (u64.wrap ((l0.length : Int)))))).f8⟩ : S34)))) else (none)) else (none)) else (if (Int.tmod (u64.wrap (a3)) 5) = 3 then (if 0 ≤ (wrap64 (Int.tmod (u64.wrap (a2)) (u64.wrap ((l0.length : Int))))) then (if (wrap64 (Int.tmod (u64.wrap (a2)) (u64.wrap ((l0.length : Int))))) < (t459.length : Int) then (if ((rd_T34 t459 (wrap64 (Int.tmod (u64.wrap (a2)) (u64.wrap ((l0.length : Int)))))).f0) = 1 then (raddlelaw20_PlanBent.j1 kj4 l1 (t459.set ((wrap64 (Int.tmod (u64.wrap (a2)) (u64.wrap ((l0.length : Int))))) : Int).toNat (⟨(rd_T34 t459 (wrap64 (Int.tmod (u64.wrap (a2)) (u64.wrap ((l0.length : Int)))))).f0, (rd_T34 t459 (wrap64 (Int.tmod (u64.wrap (a2)) (u64.wrap ((l0.length : Int)))))).f1, (rd_T34 t459 (wrap64 (Int.tmod (u64.wrap (a2)) (u64.wrap ((l0.length : Int)))))).f2, (-1), (⟨(rd_T34 t459 (wrap64 (Int.tmod (u64.wrap (a2)) (u64.wrap ((l0.length : Int)))))).f4.f0, (rd_T34 t459 (wrap64 (Int.tmod (u64.wrap (a2)) (u64.wrap ((l0.length : Int)))))).f4.f1, (rd_T34 t459 (wrap64 (Int.tmod (u64.wrap (a2)) (u64.wrap ((l0.length : Int)))))).f4.f2, (⟨(rd_T34 t459 (wrap64 (Int.tmod (u64.wrap (a2)) (u64.wrap ((l0.length : Int)))))).f4.f3.f0, (rd_T34 t459 (wrap64 (Int.tmod (u64.wrap (a2)) (u64.wrap ((l0.length : Int)))))).f4.f3.f1, (rd_T34 t459 (wrap64 (Int.tmod (u64.wrap (a2)) (u64.wrap ((l0.length : Int)))))).f4.f3.f2⟩ : S29)⟩ : S31), (rd_T34 t459 (wrap64 (Int.tmod (u64.wrap (a2)) (u64.wrap ((l0.length : Int)))))).f5, (rd_T34 t459 (wrap64 (Int.tmod (u64.wrap (a2)) (u64.wrap ((l0.length : Int)))))).f6, (rd_T34 t459 (wrap64 (Int.tmod (u64.wrap (a2)) (u64.wrap ((l0.length : Int)))))).f7, (rd_T34 t459 (wrap64 (Int.tmod (u64.wrap (a2)) (u64.wrap ((l0.length : Int)))))).f8⟩ : S34))) else (raddlelaw20_PlanBent.j1 kj4 l1 (t459.set ((wrap64 (Int.tmod (u64.wrap (a2)) (u64.wrap ((l0.length : Int))))) : Int).toNat (⟨(rd_T34 t459 (wrap64 (Int.tmod (u64.wrap (a2)) (u64.wrap ((l0.length : Int)))))).f0, (-1), (rd_T34 t459 (wrap64 (Int.tmod (u64.wrap (a2)) (u64.wrap ((l0.length : Int)))))).f2, (rd_T34 t459 (wrap64 (Int.tmod (u64.wrap (a2)) (u64.wrap ((l0.length : Int)))))).f3, (⟨(rd_T34 t459 (wrap64 (Int.tmod (u64.wrap (a2)) (u64.wrap ((l0.length : Int)))))).f4.f0, (rd_T34 t459 (wrap64 (Int.tmod (u64.wrap (a2)) (u64.wrap ((l0.length : Int)))))).f4.f1, (rd_T34 t459 (wrap64 (Int.tmod (u64.wrap (a2)) (u64.wrap ((l0.length : Int)))))).f4.f2, (⟨(rd_T34 t459 (wrap64 (Int.tmod (u64.wrap (a2)) (u64.wrap ((l0.length : Int)))))).f4.f3.f0, (rd_T34 t459 (wrap64 (Int.tmod (u64.wrap (a2)) (u64.wrap ((l0.length : Int)))))).f4.f3.f1, (rd_T34 t459 (wrap64 (Int.tmod (u64.wrap (a2)) (u64.wrap ((l0.length : Int)))))).f4.f3.f2⟩ : S29)⟩ : S31), (rd_T34 t459 (wrap64 (Int.tmod (u64.wrap (a2)) (u64.wrap ((l0.length : Int)))))).f5, (rd_T34 t459 (wrap64 (Int.tmod (u64.wrap (a2)) (u64.wrap ((l0.length : Int)))))).f6, (rd_T34 t459 (wrap64 (Int.tmod (u64.wrap (a2)) (u64.wrap ((l0.length : Int)))))).f7, (rd_T34 t459 (wrap64 (Int.tmod (u64.wrap (a2)) (u64.wrap ((l0.length : Int)))))).f8⟩ : S34)))) else (none)) else (none)) else (if 0 ≤ (wrap64 (Int.tmod (u64.wrap (a2)) (u64.wrap ((l0.length : Int))))) then (if (wrap64 (Int.tmod (u64.wrap (a2)) (u64.wrap ((l0.length : Int))))) < (t459.length : Int) then (if ((rd_T34 t459 (wrap64 (Int.tmod (u64.wrap (a2)) (u64.wrap ((l0.length : Int)))))).f0) = 1 then ((some (t459.set ((wrap64 (Int.tmod (u64.wrap (a2)) (u64.wrap ((l0.length : Int))))) : Int).toNat (⟨7, (rd_T34 t459 (wrap64 (Int.tmod (u64.wrap (a2)) (u64.wrap ((l0.length : Int)))))).f1, (rd_T34 t459 (wrap64 (Int.tmod (u64.wrap (a2)) (u64.wrap ((l0.length : Int)))))).f2, (rd_T34 t459 (wrap64 (Int.tmod (u64.wrap (a2)) (u64.wrap ((l0.length : Int)))))).f3, (⟨(rd_T34 t459 (wrap64 (Int.tmod (u64.wrap (a2)) (u64.wrap ((l0.length : Int)))))).f4.f0, (rd_T34 t459 (wrap64 (Int.tmod (u64.wrap (a2)) (u64.wrap ((l0.length : Int)))))).f4.f1, (rd_T34 t459 (wrap64 (Int.tmod (u64.wrap (a2)) (u64.wrap ((l0.length : Int)))))).f4.f2, (⟨(rd_T34 t459 (wrap64 (Int.tmod (u64.wrap (a2)) (u64.wrap ((l0.length : Int)))))).f4.f3.f0, (rd_T34 t459 (wrap64 (Int.tmod (u64.wrap (a2)) (u64.wrap ((l0.length : Int)))))).f4.f3.f1, (rd_T34 t459 (wrap64 (Int.tmod (u64.wrap (a2)) (u64.wrap ((l0.length : Int)))))).f4.f3.f2⟩ : S29)⟩ : S31), (rd_T34 t459 (wrap64 (Int.tmod (u64.wrap (a2)) (u64.wrap ((l0.length : Int)))))).f5, (rd_T34 t459 (wrap64 (Int.tmod (u64.wrap (a2)) (u64.wrap ((l0.length : Int)))))).f6, (rd_T34 t459 (wrap64 (Int.tmod (u64.wrap (a2)) (u64.wrap ((l0.length : Int)))))).f7, (rd_T34 t459 (wrap64 (Int.tmod (u64.wrap (a2)) (u64.wrap ((l0.length : Int)))))).f8⟩ : S34) : List (S34))).bind fun y471 => (raddlelaw20_PlanBent.j1 kj4 l1 (y471.set ((wrap64 (Int.tmod (u64.wrap (a2)) (u64.wrap ((l0.length : Int))))) : Int).toNat (⟨(rd_T34 y471 (wrap64 (Int.tmod (u64.wrap (a2)) (u64.wrap ((l0.length : Int)))))).f0, wrap64 (Int.tmod (u64.wrap (a2)) (u64.wrap ((l0.length : Int)))), (rd_T34 y471 (wrap64 (Int.tmod (u64.wrap (a2)) (u64.wrap ((l0.length : Int)))))).f2, (rd_T34 y471 (wrap64 (Int.tmod (u64.wrap (a2)) (u64.wrap ((l0.length : Int)))))).f3, (⟨(rd_T34 y471 (wrap64 (Int.tmod (u64.wrap (a2)) (u64.wrap ((l0.length : Int)))))).f4.f0, (rd_T34 y471 (wrap64 (Int.tmod (u64.wrap (a2)) (u64.wrap ((l0.length : Int)))))).f4.f1, (rd_T34 y471 (wrap64 (Int.tmod (u64.wrap (a2)) (u64.wrap ((l0.length : Int)))))).f4.f2, (⟨(rd_T34 y471 (wrap64 (Int.tmod (u64.wrap (a2)) (u64.wrap ((l0.length : Int)))))).f4.f3.f0, (rd_T34 y471 (wrap64 (Int.tmod (u64.wrap (a2)) (u64.wrap ((l0.length : Int)))))).f4.f3.f1, (rd_T34 y471 (wrap64 (Int.tmod (u64.wrap (a2)) (u64.wrap ((l0.length : Int)))))).f4.f3.f2⟩ : S29)⟩ : S31), (rd_T34 y471 (wrap64 (Int.tmod (u64.wrap (a2)) (u64.wrap ((l0.length : Int)))))).f5, (rd_T34 y471 (wrap64 (Int.tmod (u64.wrap (a2)) (u64.wrap ((l0.length : Int)))))).f6, (rd_T34 y471 (wrap64 (Int.tmod (u64.wrap (a2)) (u64.wrap ((l0.length : Int)))))).f7, (rd_T34 y471 (wrap64 (Int.tmod (u64.wrap (a2)) (u64.wrap ((l0.length : Int)))))).f8⟩ : S34)))) else (raddlelaw20_PlanBent.j1 kj4 l1 (t459.set ((wrap64 (Int.tmod (u64.wrap (a2)) (u64.wrap ((l0.length : Int))))) : Int).toNat (⟨(rd_T34 t459 (wrap64 (Int.tmod (u64.wrap (a2)) (u64.wrap ((l0.length : Int)))))).f0, (l0.length : Int), (rd_T34 t459 (wrap64 (Int.tmod (u64.wrap (a2)) (u64.wrap ((l0.length : Int)))))).f2, (rd_T34 t459 (wrap64 (Int.tmod (u64.wrap (a2)) (u64.wrap ((l0.length : Int)))))).f3, (⟨(rd_T34 t459 (wrap64 (Int.tmod (u64.wrap (a2)) (u64.wrap ((l0.length : Int)))))).f4.f0, (rd_T34 t459 (wrap64 (Int.tmod (u64.wrap (a2)) (u64.wrap ((l0.length : Int)))))).f4.f1, (rd_T34 t459 (wrap64 (Int.tmod (u64.wrap (a2)) (u64.wrap ((l0.length : Int)))))).f4.f2, (⟨(rd_T34 t459 (wrap64 (Int.tmod (u64.wrap (a2)) (u64.wrap ((l0.length : Int)))))).f4.f3.f0, (rd_T34 t459 (wrap64 (Int.tmod (u64.wrap (a2)) (u64.wrap ((l0.length : Int)))))).f4.f3.f1, (rd_T34 t459 (wrap64 (Int.tmod (u64.wrap (a2)) (u64.wrap ((l0.length : Int)))))).f4.f3.f2⟩ : S29)⟩ : S31), (rd_T34 t459 (wrap64 (Int.tmod (u64.wrap (a2)) (u64.wrap ((l0.length : Int)))))).f5, (rd_T34 t459 (wrap64 (Int.tmod (u64.wrap (a2)) (u64.wrap ((l0.length : Int)))))).f6, (rd_T34 t459 (wrap64 (Int.tmod (u64.wrap (a2)) (u64.wrap ((l0.length : Int)))))).f7, (rd_T34 t459 (wrap64 (Int.tmod (u64.wrap (a2)) (u64.wrap ((l0.length : Int)))))).f8⟩ : S34)))) else (none)) else (none)))))))) else (some true))) = some r := by rw [if_neg (show ¬ (false = true) by decide)] at H; exact H
   clear H
   have H := H1
   clear H1
   replace H := Option.bind_eq_some_iff.mp H
   obtain ⟨⟨t455, t456⟩, A120, H⟩ := H
   replace H : (if t456 = 0 then (if (u64.wrap ((l0.length : Int))) = 0 then (none) else ((raddlekeep_TwinNodes.f kj4 l0).bind fun t459 => (if (Int.tmod (u64.wrap (a3)) 5) = 0 then (if 0 ≤ (wrap64 (Int.tmod (u64.wrap (a2)) (u64.wrap ((l0.length : Int))))) then (if (wrap64 (Int.tmod (u64.wrap (a2)) (u64.wrap ((l0.length : Int))))) < (t459.length : Int) then (raddlelaw20_PlanBent.j1 kj4 l1 (t459.set ((wrap64 (Int.tmod (u64.wrap (a2)) (u64.wrap ((l0.length : Int))))) : Int).toNat (⟨0, (rd_T34 t459 (wrap64 (Int.tmod (u64.wrap (a2)) (u64.wrap ((l0.length : Int)))))).f1, (rd_T34 t459 (wrap64 (Int.tmod (u64.wrap (a2)) (u64.wrap ((l0.length : Int)))))).f2, (rd_T34 t459 (wrap64 (Int.tmod (u64.wrap (a2)) (u64.wrap ((l0.length : Int)))))).f3, (⟨(rd_T34 t459 (wrap64 (Int.tmod (u64.wrap (a2)) (u64.wrap ((l0.length : Int)))))).f4.f0, (rd_T34 t459 (wrap64 (Int.tmod (u64.wrap (a2)) (u64.wrap ((l0.length : Int)))))).f4.f1, (rd_T34 t459 (wrap64 (Int.tmod (u64.wrap (a2)) (u64.wrap ((l0.length : Int)))))).f4.f2, (⟨(rd_T34 t459 (wrap64 (Int.tmod (u64.wrap (a2)) (u64.wrap ((l0.length : Int)))))).f4.f3.f0, (rd_T34 t459 (wrap64 (Int.tmod (u64.wrap (a2)) (u64.wrap ((l0.length : Int)))))).f4.f3.f1, (rd_T34 t459 (wrap64 (Int.tmod (u64.wrap (a2)) (u64.wrap ((l0.length : Int)))))).f4.f3.f2⟩ : S29)⟩ : S31), (rd_T34 t459 (wrap64 (Int.tmod (u64.wrap (a2)) (u64.wrap ((l0.length : Int)))))).f5, (rd_T34 t459 (wrap64 (Int.tmod (u64.wrap (a2)) (u64.wrap ((l0.length : Int)))))).f6, (rd_T34 t459 (wrap64 (Int.tmod (u64.wrap (a2)) (u64.wrap ((l0.length : Int)))))).f7, (rd_T34 t459 (wrap64 (Int.tmod (u64.wrap (a2)) (u64.wrap ((l0.length : Int)))))).f8⟩ : S34))) else (none)) else (none)) else (if (Int.tmod (u64.wrap (a3)) 5) = 1 then (if 0 ≤ (wrap64 (Int.tmod (u64.wrap (a2)) (u64.wrap ((l0.length : Int))))) then (if (wrap64 (Int.tmod (u64.wrap (a2)) (u64.wrap ((l0.length : Int))))) < (t459.length : Int) then (raddlelaw20_PlanBent.j1 kj4 l1 (t459.set ((wrap64 (Int.tmod (u64.wrap (a2)) (u64.wrap ((l0.length : Int))))) : Int).toNat (⟨9, (rd_T34 t459 (wrap64 (Int.tmod (u64.wrap (a2)) (u64.wrap ((l0.length : Int)))))).f1, (rd_T34 t459 (wrap64 (Int.tmod (u64.wrap (a2)) (u64.wrap ((l0.length : Int)))))).f2, (rd_T34 t459 (wrap64 (Int.tmod (u64.wrap (a2)) (u64.wrap ((l0.length : Int)))))).f3, (⟨(rd_T34 t459 (wrap64 (Int.tmod (u64.wrap (a2)) (u64.wrap ((l0.length : Int)))))).f4.f0, (rd_T34 t459 (wrap64 (Int.tmod (u64.wrap (a2)) (u64.wrap ((l0.length : Int)))))).f4.f1, (rd_T34 t459 (wrap64 (Int.tmod (u64.wrap (a2)) (u64.wrap ((l0.length : Int)))))).f4.f2, (⟨(rd_T34 t459 (wrap64 (Int.tmod (u64.wrap (a2)) (u64.wrap ((l0.length : Int)))))).f4.f3.f0, (rd_T34 t459 (wrap64 (Int.tmod (u64.wrap (a2)) (u64.wrap ((l0.length : Int)))))).f4.f3.f1, (rd_T34 t459 (wrap64 (Int.tmod (u64.wrap (a2)) (u64.wrap ((l0.length : Int)))))).f4.f3.f2⟩ : S29)⟩ : S31), (rd_T34 t459 (wrap64 (Int.tmod (u64.wrap (a2)) (u64.wrap ((l0.length : Int)))))).f5, (rd_T34 t459 (wrap64 (Int.tmod (u64.wrap (a2)) (u64.wrap ((l0.length : Int)))))).f6, (rd_T34 t459 (wrap64 (Int.tmod (u64.wrap (a2)) (u64.wrap ((l0.length : Int)))))).f7, (rd_T34 t459 (wrap64 (Int.tmod (u64.wrap (a2)) (u64.wrap ((l0.length : Int)))))).f8⟩ : S34))) else (none)) else (none)) else (if (Int.tmod (u64.wrap (a3)) 5) = 2 then (if 0 ≤ (wrap64 (Int.tmod (u64.wrap (a2)) (u64.wrap ((l0.length : Int))))) then (if (wrap64 (Int.tmod (u64.wrap (a2)) (u64.wrap ((l0.length : Int))))) < (t459.length : Int) then (if ((rd_T34 t459 (wrap64 (Int.tmod (u64.wrap (a2)) (u64.wrap ((l0.length : Int)))))).f0) = 1 then (raddlelaw20_PlanBent.j1 kj4 l1 (t459.set ((wrap64 (Int.tmod (u64.wrap (a2)) (u64.wrap ((l0.length : Int))))) : Int).toNat (⟨(rd_T34 t459 (wrap64 (Int.tmod (u64.wrap (a2)) (u64.wrap ((l0.length : Int)))))).f0, (rd_T34 t459 (wrap64 (Int.tmod (u64.wrap (a2)) (u64.wrap ((l0.length : Int)))))).f1, (rd_T34 t459 (wrap64 (Int.tmod (u64.wrap (a2)) (u64.wrap ((l0.length : Int)))))).f2, (l1.length : Int), (⟨(rd_T34 t459 (wrap64 (Int.tmod (u64.wrap (a2)) (u64.wrap ((l0.length : Int)))))).f4.f0, (rd_T34 t459 (wrap64 (Int.tmod (u64.wrap (a2)) (u64.wrap ((l0.length : Int)))))).f4.f1, (rd_T34 t459 (wrap64 (Int.tmod (u64.wrap (a2)) (u64.wrap ((l0.length : Int)))))).f4.f2, (⟨(rd_T34 t459 (wrap64 (Int.tmod (u64.wrap (a2)) (u64.wrap ((l0.length : Int)))))).f4.f3.f0, (rd_T34 t459 (wrap64 (Int.tmod (u64.wrap (a2)) (u64.wrap ((l0.length : Int)))))).f4.f3.f1, (rd_T34 t459 (wrap64 (Int.tmod (u64.wrap (a2)) (u64.wrap ((l0.length : Int)))))).f4.f3.f2⟩ : S29)⟩ : S31), (rd_T34 t459 (wrap64 (Int.tmod (u64.wrap (a2)) (u64.wrap ((l0.length : Int)))))).f5, (rd_T34 t459 (wrap64 (Int.tmod (u64.wrap (a2)) (u64.wrap ((l0.length : Int)))))).f6, (rd_T34 t459 (wrap64 (Int.tmod (u64.wrap (a2)) (u64.wrap ((l0.length : Int)))))).f7, (rd_T34 t459 (wrap64 (Int.tmod (u64.wrap (a2)) (u64.wrap ((l0.length : Int)))))).f8⟩ : S34))) else (raddlelaw20_PlanBent.j1 kj4 l1 (t459.set ((wrap64 (Int.tmod (u64.wrap (a2)) (u64.wrap ((l0.length : Int))))) : Int).toNat (⟨(rd_T34 t459 (wrap64 (Int.tmod (u64.wrap (a2)) (u64.wrap ((l0.length : Int)))))).f0, wrap64 (Int.tmod (u64.wrap (a2)) (u64.wrap ((l0.length : Int)))), (rd_T34 t459 (wrap64 (Int.tmod (u64.wrap (a2)) (u64.wrap ((l0.length : Int)))))).f2, (rd_T34 t459 (wrap64 (Int.tmod (u64.wrap (a2)) (u64.wrap ((l0.length : Int)))))).f3, (⟨(rd_T34 t459 (wrap64 (Int.tmod (u64.wrap (a2)) (u64.wrap ((l0.length : Int)))))).f4.f0, (rd_T34 t459 (wrap64 (Int.tmod (u64.wrap (a2)) (u64.wrap ((l0.length : Int)))))).f4.f1, (rd_T34 t459 (wrap64 (Int.tmod (u64.wrap (a2)) (u64.wrap ((l0.length : Int)))))).f4.f2, (⟨(rd_T34 t459 (wrap64 (Int.tmod (u64.wrap (a2)) (u64.wrap ((l0.length : Int)))))).f4.f3.f0, (rd_T34 t459 (wrap64 (Int.tmod (u64.wrap (a2)) (u64.wrap ((l0.length : Int)))))).f4.f3.f1, (rd_T34 t459 (wrap64 (Int.tmod (u64.wrap (a2)) (u64.wrap ((l0.length : Int)))))).f4.f3.f2⟩ : S29)⟩ : S31), (rd_T34 t459 (wrap64 (Int.tmod (u64.wrap (a2)) (u64.wrap ((l0.length : Int)))))).f5, (rd_T34 t459 (wrap64 (Int.tmod (u64.wrap (a2)) (u64.wrap ((l0.length : Int)))))).f6, (rd_T34 t459 (wrap64 (Int.tmod (u64.wrap (a2)) (u64.wrap ((l0.length : Int)))))).f7, (rd_T34 t459 (wrap64 (Int.tmod (u64.wrap (a2)) (u64.wrap ((l0.length : Int)))))).f8⟩ : S34)))) else (none)) else (none)) else (if (Int.tmod (u64.wrap (a3)) 5) = 3 then (if 0 ≤ (wrap64 (Int.tmod (u64.wrap (a2)) (u64.wrap ((l0.length : Int))))) then (if (wrap64 (Int.tmod (u64.wrap (a2)) (u64.wrap ((l0.length : Int))))) < (t459.length : Int) then (if ((rd_T34 t459 (wrap64 (Int.tmod (u64.wrap (a2)) (u64.wrap ((l0.length : Int)))))).f0) = 1 then (raddlelaw20_PlanBent.j1 kj4 l1 (t459.set ((wrap64 (Int.tmod (u64.wrap (a2)) (u64.wrap ((l0.length : Int))))) : Int).toNat (⟨(rd_T34 t459 (wrap64 (Int.tmod (u64.wrap (a2)) (u64.wrap ((l0.length : Int)))))).f0, (rd_T34 t459 (wrap64 (Int.tmod (u64.wrap (a2)) (u64.wrap ((l0.length : Int)))))).f1, (rd_T34 t459 (wrap64 (Int.tmod (u64.wrap (a2)) (u64.wrap ((l0.length : Int)))))).f2, (-1), (⟨(rd_T34 t459 (wrap64 (Int.tmod (u64.wrap (a2)) (u64.wrap ((l0.length : Int)))))).f4.f0, (rd_T34 t459 (wrap64 (Int.tmod (u64.wrap (a2)) (u64.wrap ((l0.length : Int)))))).f4.f1, (rd_T34 t459 (wrap64 (Int.tmod (u64.wrap (a2)) (u64.wrap ((l0.length : Int)))))).f4.f2, (⟨(rd_T34 t459 (wrap64 (Int.tmod (u64.wrap (a2)) (u64.wrap ((l0.length : Int)))))).f4.f3.f0, (rd_T34 t459 (wrap64 (Int.tmod (u64.wrap (a2)) (u64.wrap ((l0.length : Int)))))).f4.f3.f1, (rd_T34 t459 (wrap64 (Int.tmod (u64.wrap (a2)) (u64.wrap ((l0.length : Int)))))).f4.f3.f2⟩ : S29)⟩ : S31), (rd_T34 t459 (wrap64 (Int.tmod (u64.wrap (a2)) (u64.wrap ((l0.length : Int)))))).f5, (rd_T34 t459 (wrap64 (Int.tmod (u64.wrap (a2)) (u64.wrap ((l0.length : Int)))))).f6, (rd_T34 t459 (wrap64 (Int.tmod (u64.wrap (a2)) (u64.wrap ((l0.length : Int)))))).f7, (rd_T34 t459 (wrap64 (Int.tmod (u64.wrap (a2)) (u64.wrap ((l0.length : Int)))))).f8⟩ : S34))) else (raddlelaw20_PlanBent.j1 kj4 l1 (t459.set ((wrap64 (Int.tmod (u64.wrap (a2)) (u64.wrap ((l0.length : Int))))) : Int).toNat (⟨(rd_T34 t459 (wrap64 (Int.tmod (u64.wrap (a2)) (u64.wrap ((l0.length : Int)))))).f0, (-1), (rd_T34 t459 (wrap64 (Int.tmod (u64.wrap (a2)) (u64.wrap ((l0.length : Int)))))).f2, (rd_T34 t459 (wrap64 (Int.tmod (u64.wrap (a2)) (u64.wrap ((l0.length : Int)))))).f3, (⟨(rd_T34 t459 (wrap64 (Int.tmod (u64.wrap (a2)) (u64.wrap ((l0.length : Int)))))).f4.f0, (rd_T34 t459 (wrap64 (Int.tmod (u64.wrap (a2)) (u64.wrap ((l0.length : Int)))))).f4.f1, (rd_T34 t459 (wrap64 (Int.tmod (u64.wrap (a2)) (u64.wrap ((l0.length : Int)))))).f4.f2, (⟨(rd_T34 t459 (wrap64 (Int.tmod (u64.wrap (a2)) (u64.wrap ((l0.length : Int)))))).f4.f3.f0, (rd_T34 t459 (wrap64 (Int.tmod (u64.wrap (a2)) (u64.wrap ((l0.length : Int)))))).f4.f3.f1, (rd_T34 t459 (wrap64 (Int.tmod (u64.wrap (a2)) (u64.wrap ((l0.length : Int)))))).f4.f3.f2⟩ : S29)⟩ : S31), (rd_T34 t459 (wrap64 (Int.tmod (u64.wrap (a2)) (u64.wrap ((l0.length : Int)))))).f5, (rd_T34 t459 (wrap64 (Int.tmod (u64.wrap (a2)) (u64.wrap ((l0.length : Int)))))).f6, (rd_T34 t459 (wrap64 (Int.tmod (u64.wrap (a2)) (u64.wrap ((l0.length : Int)))))).f7, (rd_T34 t459 (wrap64 (Int.tmod (u64.wrap (a2)) (u64.wrap ((l0.length : Int)))))).f8⟩ : S34)))) else (none)) else (none)) else (if 0 ≤ (wrap64 (Int.tmod (u64.wrap (a2)) (u64.wrap ((l0.length : Int))))) then (if (wrap64 (Int.tmod (u64.wrap (a2)) (u64.wrap ((l0.length : Int))))) < (t459.length : Int) then (if ((rd_T34 t459 (wrap64 (Int.tmod (u64.wrap (a2)) (u64.wrap ((l0.length : Int)))))).f0) = 1 then ((some (t459.set ((wrap64 (Int.tmod (u64.wrap (a2)) (u64.wrap ((l0.length : Int))))) : Int).toNat (⟨7, (rd_T34 t459 (wrap64 (Int.tmod (u64.wrap (a2)) (u64.wrap ((l0.length : Int)))))).f1, (rd_T34 t459 (wrap64 (Int.tmod (u64.wrap (a2)) (u64.wrap ((l0.length : Int)))))).f2, (rd_T34 t459 (wrap64 (Int.tmod (u64.wrap (a2)) (u64.wrap ((l0.length : Int)))))).f3, (⟨(rd_T34 t459 (wrap64 (Int.tmod (u64.wrap (a2)) (u64.wrap ((l0.length : Int)))))).f4.f0, (rd_T34 t459 (wrap64 (Int.tmod (u64.wrap (a2)) (u64.wrap ((l0.length : Int)))))).f4.f1, (rd_T34 t459 (wrap64 (Int.tmod (u64.wrap (a2)) (u64.wrap ((l0.length : Int)))))).f4.f2, (⟨(rd_T34 t459 (wrap64 (Int.tmod (u64.wrap (a2)) (u64.wrap ((l0.length : Int)))))).f4.f3.f0, (rd_T34 t459 (wrap64 (Int.tmod (u64.wrap (a2)) (u64.wrap ((l0.length : Int)))))).f4.f3.f1, (rd_T34 t459 (wrap64 (Int.tmod (u64.wrap (a2)) (u64.wrap ((l0.length : Int)))))).f4.f3.f2⟩ : S29)⟩ : S31), (rd_T34 t459 (wrap64 (Int.tmod (u64.wrap (a2)) (u64.wrap ((l0.length : Int)))))).f5, (rd_T34 t459 (wrap64 (Int.tmod (u64.wrap (a2)) (u64.wrap ((l0.length : Int)))))).f6, (rd_T34 t459 (wrap64 (Int.tmod (u64.wrap (a2)) (u64.wrap ((l0.length : Int)))))).f7, (rd_T34 t459 (wrap64 (Int.tmod (u64.wrap (a2)) (u64.wrap ((l0.length : Int)))))).f8⟩ : S34) : List (S34))).bind fun y471 => (raddlelaw20_PlanBent.j1 kj4 l1 (y471.set ((wrap64 (Int.tmod (u64.wrap (a2)) (u64.wrap ((l0.length : Int))))) : Int).toNat (⟨(rd_T34 y471 (wrap64 (Int.tmod (u64.wrap (a2)) (u64.wrap ((l0.length : Int)))))).f0, wrap64 (Int.tmod (u64.wrap (a2)) (u64.wrap ((l0.length : Int)))), (rd_T34 y471 (wrap64 (Int.tmod (u64.wrap (a2)) (u64.wrap ((l0.length : Int)))))).f2, (rd_T34 y471 (wrap64 (Int.tmod (u64.wrap (a2)) (u64.wrap ((l0.length : Int)))))).f3, (⟨(rd_T34 y471 (wrap64 (Int.tmod (u64.wrap (a2)) (u64.wrap ((l0.length : Int)))))).f4.f0, (rd_T34 y471 (wrap64 (Int.tmod (u64.wrap (a2)) (u64.wrap ((l0.length : Int)))))).f4.f1, (rd_T34 y471 (wrap64 (Int.tmod (u64.wrap (a2)) (u64.wrap ((l0.length : Int)))))).f4.f2, (⟨(rd_T34 y471 (wrap64 (Int.tmod (u64.wrap (a2)) (u64.wrap ((l0.length : Int)))))).f4.f3.f0, (rd_T34 y471 (wrap64 (Int.tmod (u64.wrap (a2)) (u64.wrap ((l0.length : Int)))))).f4.f3.f1, (rd_T34 y471 (wrap64 (Int.tmod (u64.wrap (a2)) (u64.wrap ((l0.length : Int)))))).f4.f3.f2⟩ : S29)⟩ : S31), (rd_T34 y471 (wrap64 (Int.tmod (u64.wrap (a2)) (u64.wrap ((l0.length : Int)))))).f5, (rd_T34 y471 (wrap64 (Int.tmod (u64.wrap (a2)) (u64.wrap ((l0.length : Int)))))).f6, (rd_T34 y471 (wrap64 (Int.tmod (u64.wrap (a2)) (u64.wrap ((l0.length : Int)))))).f7, (rd_T34 y471 (wrap64 (Int.tmod (u64.wrap (a2)) (u64.wrap ((l0.length : Int)))))).f8⟩ : S34)))) else (raddlelaw20_PlanBent.j1 kj4 l1 (t459.set ((wrap64 (Int.tmod (u64.wrap (a2)) (u64.wrap ((l0.length : Int))))) : Int).toNat (⟨(rd_T34 t459 (wrap64 (Int.tmod (u64.wrap (a2)) (u64.wrap ((l0.length : Int)))))).f0, (l0.length : Int), (rd_T34 t459 (wrap64 (Int.tmod (u64.wrap (a2)) (u64.wrap ((l0.length : Int)))))).f2, (rd_T34 t459 (wrap64 (Int.tmod (u64.wrap (a2)) (u64.wrap ((l0.length : Int)))))).f3, (⟨(rd_T34 t459 (wrap64 (Int.tmod (u64.wrap (a2)) (u64.wrap ((l0.length : Int)))))).f4.f0, (rd_T34 t459 (wrap64 (Int.tmod (u64.wrap (a2)) (u64.wrap ((l0.length : Int)))))).f4.f1, (rd_T34 t459 (wrap64 (Int.tmod (u64.wrap (a2)) (u64.wrap ((l0.length : Int)))))).f4.f2, (⟨(rd_T34 t459 (wrap64 (Int.tmod (u64.wrap (a2)) (u64.wrap ((l0.length : Int)))))).f4.f3.f0, (rd_T34 t459 (wrap64 (Int.tmod (u64.wrap (a2)) (u64.wrap ((l0.length : Int)))))).f4.f3.f1, (rd_T34 t459 (wrap64 (Int.tmod (u64.wrap (a2)) (u64.wrap ((l0.length : Int)))))).f4.f3.f2⟩ : S29)⟩ : S31), (rd_T34 t459 (wrap64 (Int.tmod (u64.wrap (a2)) (u64.wrap ((l0.length : Int)))))).f5, (rd_T34 t459 (wrap64 (Int.tmod (u64.wrap (a2)) (u64.wrap ((l0.length : Int)))))).f6, (rd_T34 t459 (wrap64 (Int.tmod (u64.wrap (a2)) (u64.wrap ((l0.length : Int)))))).f7, (rd_T34 t459 (wrap64 (Int.tmod (u64.wrap (a2)) (u64.wrap ((l0.length : Int)))))).f8⟩ : S34)))) else (none)) else (none)))))))) else (some true)) = some r := H
   have A12 := mk_ A120
   clear A120
   by_cases c13 : t456 = 0
   rotate_left
   ·
    rw [if_neg c13] at H
    have c13b0 : (t456 == 0) = false := beq_eq_false_iff_ne.mpr c13
    have c13b1 : (t456 != 0) = true := bne_iff_ne.mpr c13
    obtain rfl := Option.some.inj H
    go_wp2_with (first | ((with_reducible refine gate_callee (f := 11) rfl ?_); refine Short.gL (some 26) Try.func11 #[.slice A0 l0.length c0, .slice A1 l1.length c1] (h := ?_); (with_reducible refine (raddleref14_Plan.calls _ _ l0 _ _ l1 t455 t456 _ ?side1 ?side2 ?side3 ?side4 A12.out).mono ?_); (case side1 => exact cX_ (C_below HR0.out HB.out)); (case side2 => exact HC0.out); (case side3 => exact cX_ (C_below HR1.out HB.out)); (case side4 => exact HC1.out); rintro e w87 ⟨v457, rfl, ho0, hb⟩; refine ⟨_, rfl, ?_⟩; have n0_ := mk_ (S_lower ho0 (below_size (Short.hB HB))); have n1_ := mk_ (below_step (Short.hB HB) hb); clear HB; revert n0_ n1_; intro HO458 HB; (try clear hb ho0)))
    go_ret
    exact ⟨q0, Short.hB HB⟩
   rw [if_pos c13] at H
   have c13b0 : (t456 == 0) = true := beq_iff_eq.mpr c13
   have c13b1 : (t456 != 0) = false := bne_eq_false_iff_eq.mpr c13
   clear c13
   by_cases c14 : (u64.wrap ((l0.length : Int))) = 0
   ·
    rw [if_pos c14] at H
    exact absurd H (by simp)
   rw [if_neg c14] at H
   have c14b0 : ((u64.wrap ((l0.length : Int))) == 0) = false := beq_eq_false_iff_ne.mpr c14
   have c14b1 : ((u64.wrap ((l0.length : Int))) != 0) = true := bne_iff_ne.mpr c14
   replace H := Option.bind_eq_some_iff.mp H
   obtain ⟨t459, A150, H⟩ := H
   replace H : (if (Int.tmod (u64.wrap (a3)) 5) = 0 then (if 0 ≤ (wrap64 (Int.tmod (u64.wrap (a2)) (u64.wrap ((l0.length : Int))))) then (if (wrap64 (Int.tmod (u64.wrap (a2)) (u64.wrap ((l0.length : Int))))) < (t459.length : Int) then (raddlelaw20_PlanBent.j1 kj4 l1 (t459.set ((wrap64 (Int.tmod (u64.wrap (a2)) (u64.wrap ((l0.length : Int))))) : Int).toNat (⟨0, (rd_T34 t459 (wrap64 (Int.tmod (u64.wrap (a2)) (u64.wrap ((l0.length : Int)))))).f1, (rd_T34 t459 (wrap64 (Int.tmod (u64.wrap (a2)) (u64.wrap ((l0.length : Int)))))).f2, (rd_T34 t459 (wrap64 (Int.tmod (u64.wrap (a2)) (u64.wrap ((l0.length : Int)))))).f3, (⟨(rd_T34 t459 (wrap64 (Int.tmod (u64.wrap (a2)) (u64.wrap ((l0.length : Int)))))).f4.f0, (rd_T34 t459 (wrap64 (Int.tmod (u64.wrap (a2)) (u64.wrap ((l0.length : Int)))))).f4.f1, (rd_T34 t459 (wrap64 (Int.tmod (u64.wrap (a2)) (u64.wrap ((l0.length : Int)))))).f4.f2, (⟨(rd_T34 t459 (wrap64 (Int.tmod (u64.wrap (a2)) (u64.wrap ((l0.length : Int)))))).f4.f3.f0, (rd_T34 t459 (wrap64 (Int.tmod (u64.wrap (a2)) (u64.wrap ((l0.length : Int)))))).f4.f3.f1, (rd_T34 t459 (wrap64 (Int.tmod (u64.wrap (a2)) (u64.wrap ((l0.length : Int)))))).f4.f3.f2⟩ : S29)⟩ : S31), (rd_T34 t459 (wrap64 (Int.tmod (u64.wrap (a2)) (u64.wrap ((l0.length : Int)))))).f5, (rd_T34 t459 (wrap64 (Int.tmod (u64.wrap (a2)) (u64.wrap ((l0.length : Int)))))).f6, (rd_T34 t459 (wrap64 (Int.tmod (u64.wrap (a2)) (u64.wrap ((l0.length : Int)))))).f7, (rd_T34 t459 (wrap64 (Int.tmod (u64.wrap (a2)) (u64.wrap ((l0.length : Int)))))).f8⟩ : S34))) else (none)) else (none)) else (if (Int.tmod (u64.wrap (a3)) 5) = 1 then (if 0 ≤ (wrap64 (Int.tmod (u64.wrap (a2)) (u64.wrap ((l0.length : Int))))) then (if (wrap64 (Int.tmod (u64.wrap (a2)) (u64.wrap ((l0.length : Int))))) < (t459.length : Int) then (raddlelaw20_PlanBent.j1 kj4 l1 (t459.set ((wrap64 (Int.tmod (u64.wrap (a2)) (u64.wrap ((l0.length : Int))))) : Int).toNat (⟨9, (rd_T34 t459 (wrap64 (Int.tmod (u64.wrap (a2)) (u64.wrap ((l0.length : Int)))))).f1, (rd_T34 t459 (wrap64 (Int.tmod (u64.wrap (a2)) (u64.wrap ((l0.length : Int)))))).f2, (rd_T34 t459 (wrap64 (Int.tmod (u64.wrap (a2)) (u64.wrap ((l0.length : Int)))))).f3, (⟨(rd_T34 t459 (wrap64 (Int.tmod (u64.wrap (a2)) (u64.wrap ((l0.length : Int)))))).f4.f0, (rd_T34 t459 (wrap64 (Int.tmod (u64.wrap (a2)) (u64.wrap ((l0.length : Int)))))).f4.f1, (rd_T34 t459 (wrap64 (Int.tmod (u64.wrap (a2)) (u64.wrap ((l0.length : Int)))))).f4.f2, (⟨(rd_T34 t459 (wrap64 (Int.tmod (u64.wrap (a2)) (u64.wrap ((l0.length : Int)))))).f4.f3.f0, (rd_T34 t459 (wrap64 (Int.tmod (u64.wrap (a2)) (u64.wrap ((l0.length : Int)))))).f4.f3.f1, (rd_T34 t459 (wrap64 (Int.tmod (u64.wrap (a2)) (u64.wrap ((l0.length : Int)))))).f4.f3.f2⟩ : S29)⟩ : S31), (rd_T34 t459 (wrap64 (Int.tmod (u64.wrap (a2)) (u64.wrap ((l0.length : Int)))))).f5, (rd_T34 t459 (wrap64 (Int.tmod (u64.wrap (a2)) (u64.wrap ((l0.length : Int)))))).f6, (rd_T34 t459 (wrap64 (Int.tmod (u64.wrap (a2)) (u64.wrap ((l0.length : Int)))))).f7, (rd_T34 t459 (wrap64 (Int.tmod (u64.wrap (a2)) (u64.wrap ((l0.length : Int)))))).f8⟩ : S34))) else (none)) else (none)) else (if (Int.tmod (u64.wrap (a3)) 5) = 2 then (if 0 ≤ (wrap64 (Int.tmod (u64.wrap (a2)) (u64.wrap ((l0.length : Int))))) then (if (wrap64 (Int.tmod (u64.wrap (a2)) (u64.wrap ((l0.length : Int))))) < (t459.length : Int) then (if ((rd_T34 t459 (wrap64 (Int.tmod (u64.wrap (a2)) (u64.wrap ((l0.length : Int)))))).f0) = 1 then (raddlelaw20_PlanBent.j1 kj4 l1 (t459.set ((wrap64 (Int.tmod (u64.wrap (a2)) (u64.wrap ((l0.length : Int))))) : Int).toNat (⟨(rd_T34 t459 (wrap64 (Int.tmod (u64.wrap (a2)) (u64.wrap ((l0.length : Int)))))).f0, (rd_T34 t459 (wrap64 (Int.tmod (u64.wrap (a2)) (u64.wrap ((l0.length : Int)))))).f1, (rd_T34 t459 (wrap64 (Int.tmod (u64.wrap (a2)) (u64.wrap ((l0.length : Int)))))).f2, (l1.length : Int), (⟨(rd_T34 t459 (wrap64 (Int.tmod (u64.wrap (a2)) (u64.wrap ((l0.length : Int)))))).f4.f0, (rd_T34 t459 (wrap64 (Int.tmod (u64.wrap (a2)) (u64.wrap ((l0.length : Int)))))).f4.f1, (rd_T34 t459 (wrap64 (Int.tmod (u64.wrap (a2)) (u64.wrap ((l0.length : Int)))))).f4.f2, (⟨(rd_T34 t459 (wrap64 (Int.tmod (u64.wrap (a2)) (u64.wrap ((l0.length : Int)))))).f4.f3.f0, (rd_T34 t459 (wrap64 (Int.tmod (u64.wrap (a2)) (u64.wrap ((l0.length : Int)))))).f4.f3.f1, (rd_T34 t459 (wrap64 (Int.tmod (u64.wrap (a2)) (u64.wrap ((l0.length : Int)))))).f4.f3.f2⟩ : S29)⟩ : S31), (rd_T34 t459 (wrap64 (Int.tmod (u64.wrap (a2)) (u64.wrap ((l0.length : Int)))))).f5, (rd_T34 t459 (wrap64 (Int.tmod (u64.wrap (a2)) (u64.wrap ((l0.length : Int)))))).f6, (rd_T34 t459 (wrap64 (Int.tmod (u64.wrap (a2)) (u64.wrap ((l0.length : Int)))))).f7, (rd_T34 t459 (wrap64 (Int.tmod (u64.wrap (a2)) (u64.wrap ((l0.length : Int)))))).f8⟩ : S34))) else (raddlelaw20_PlanBent.j1 kj4 l1 (t459.set ((wrap64 (Int.tmod (u64.wrap (a2)) (u64.wrap ((l0.length : Int))))) : Int).toNat (⟨(rd_T34 t459 (wrap64 (Int.tmod (u64.wrap (a2)) (u64.wrap ((l0.length : Int)))))).f0, wrap64 (Int.tmod (u64.wrap (a2)) (u64.wrap ((l0.length : Int)))), (rd_T34 t459 (wrap64 (Int.tmod (u64.wrap (a2)) (u64.wrap ((l0.length : Int)))))).f2, (rd_T34 t459 (wrap64 (Int.tmod (u64.wrap (a2)) (u64.wrap ((l0.length : Int)))))).f3, (⟨(rd_T34 t459 (wrap64 (Int.tmod (u64.wrap (a2)) (u64.wrap ((l0.length : Int)))))).f4.f0, (rd_T34 t459 (wrap64 (Int.tmod (u64.wrap (a2)) (u64.wrap ((l0.length : Int)))))).f4.f1, (rd_T34 t459 (wrap64 (Int.tmod (u64.wrap (a2)) (u64.wrap ((l0.length : Int)))))).f4.f2, (⟨(rd_T34 t459 (wrap64 (Int.tmod (u64.wrap (a2)) (u64.wrap ((l0.length : Int)))))).f4.f3.f0, (rd_T34 t459 (wrap64 (Int.tmod (u64.wrap (a2)) (u64.wrap ((l0.length : Int)))))).f4.f3.f1, (rd_T34 t459 (wrap64 (Int.tmod (u64.wrap (a2)) (u64.wrap ((l0.length : Int)))))).f4.f3.f2⟩ : S29)⟩ : S31), (rd_T34 t459 (wrap64 (Int.tmod (u64.wrap (a2)) (u64.wrap ((l0.length : Int)))))).f5, (rd_T34 t459 (wrap64 (Int.tmod (u64.wrap (a2)) (u64.wrap ((l0.length : Int)))))).f6, (rd_T34 t459 (wrap64 (Int.tmod (u64.wrap (a2)) (u64.wrap ((l0.length : Int)))))).f7, (rd_T34 t459 (wrap64 (Int.tmod (u64.wrap (a2)) (u64.wrap ((l0.length : Int)))))).f8⟩ : S34)))) else (none)) else (none)) else (if (Int.tmod (u64.wrap (a3)) 5) = 3 then (if 0 ≤ (wrap64 (Int.tmod (u64.wrap (a2)) (u64.wrap ((l0.length : Int))))) then (if (wrap64 (Int.tmod (u64.wrap (a2)) (u64.wrap ((l0.length : Int))))) < (t459.length : Int) then (if ((rd_T34 t459 (wrap64 (Int.tmod (u64.wrap (a2)) (u64.wrap ((l0.length : Int)))))).f0) = 1 then (raddlelaw20_PlanBent.j1 kj4 l1 (t459.set ((wrap64 (Int.tmod (u64.wrap (a2)) (u64.wrap ((l0.length : Int))))) : Int).toNat (⟨(rd_T34 t459 (wrap64 (Int.tmod (u64.wrap (a2)) (u64.wrap ((l0.length : Int)))))).f0, (rd_T34 t459 (wrap64 (Int.tmod (u64.wrap (a2)) (u64.wrap ((l0.length : Int)))))).f1, (rd_T34 t459 (wrap64 (Int.tmod (u64.wrap (a2)) (u64.wrap ((l0.length : Int)))))).f2, (-1), (⟨(rd_T34 t459 (wrap64 (Int.tmod (u64.wrap (a2)) (u64.wrap ((l0.length : Int)))))).f4.f0, (rd_T34 t459 (wrap64 (Int.tmod (u64.wrap (a2)) (u64.wrap ((l0.length : Int)))))).f4.f1, (rd_T34 t459 (wrap64 (Int.tmod (u64.wrap (a2)) (u64.wrap ((l0.length : Int)))))).f4.f2, (⟨(rd_T34 t459 (wrap64 (Int.tmod (u64.wrap (a2)) (u64.wrap ((l0.length : Int)))))).f4.f3.f0, (rd_T34 t459 (wrap64 (Int.tmod (u64.wrap (a2)) (u64.wrap ((l0.length : Int)))))).f4.f3.f1, (rd_T34 t459 (wrap64 (Int.tmod (u64.wrap (a2)) (u64.wrap ((l0.length : Int)))))).f4.f3.f2⟩ : S29)⟩ : S31), (rd_T34 t459 (wrap64 (Int.tmod (u64.wrap (a2)) (u64.wrap ((l0.length : Int)))))).f5, (rd_T34 t459 (wrap64 (Int.tmod (u64.wrap (a2)) (u64.wrap ((l0.length : Int)))))).f6, (rd_T34 t459 (wrap64 (Int.tmod (u64.wrap (a2)) (u64.wrap ((l0.length : Int)))))).f7, (rd_T34 t459 (wrap64 (Int.tmod (u64.wrap (a2)) (u64.wrap ((l0.length : Int)))))).f8⟩ : S34))) else (raddlelaw20_PlanBent.j1 kj4 l1 (t459.set ((wrap64 (Int.tmod (u64.wrap (a2)) (u64.wrap ((l0.length : Int))))) : Int).toNat (⟨(rd_T34 t459 (wrap64 (Int.tmod (u64.wrap (a2)) (u64.wrap ((l0.length : Int)))))).f0, (-1), (rd_T34 t459 (wrap64 (Int.tmod (u64.wrap (a2)) (u64.wrap ((l0.length : Int)))))).f2, (rd_T34 t459 (wrap64 (Int.tmod (u64.wrap (a2)) (u64.wrap ((l0.length : Int)))))).f3, (⟨(rd_T34 t459 (wrap64 (Int.tmod (u64.wrap (a2)) (u64.wrap ((l0.length : Int)))))).f4.f0, (rd_T34 t459 (wrap64 (Int.tmod (u64.wrap (a2)) (u64.wrap ((l0.length : Int)))))).f4.f1, (rd_T34 t459 (wrap64 (Int.tmod (u64.wrap (a2)) (u64.wrap ((l0.length : Int)))))).f4.f2, (⟨(rd_T34 t459 (wrap64 (Int.tmod (u64.wrap (a2)) (u64.wrap ((l0.length : Int)))))).f4.f3.f0, (rd_T34 t459 (wrap64 (Int.tmod (u64.wrap (a2)) (u64.wrap ((l0.length : Int)))))).f4.f3.f1, (rd_T34 t459 (wrap64 (Int.tmod (u64.wrap (a2)) (u64.wrap ((l0.length : Int)))))).f4.f3.f2⟩ : S29)⟩ : S31), (rd_T34 t459 (wrap64 (Int.tmod (u64.wrap (a2)) (u64.wrap ((l0.length : Int)))))).f5, (rd_T34 t459 (wrap64 (Int.tmod (u64.wrap (a2)) (u64.wrap ((l0.length : Int)))))).f6, (rd_T34 t459 (wrap64 (Int.tmod (u64.wrap (a2)) (u64.wrap ((l0.length : Int)))))).f7, (rd_T34 t459 (wrap64 (Int.tmod (u64.wrap (a2)) (u64.wrap ((l0.length : Int)))))).f8⟩ : S34)))) else (none)) else (none)) else (if 0 ≤ (wrap64 (Int.tmod (u64.wrap (a2)) (u64.wrap ((l0.length : Int))))) then (if (wrap64 (Int.tmod (u64.wrap (a2)) (u64.wrap ((l0.length : Int))))) < (t459.length : Int) then (if ((rd_T34 t459 (wrap64 (Int.tmod (u64.wrap (a2)) (u64.wrap ((l0.length : Int)))))).f0) = 1 then ((some (t459.set ((wrap64 (Int.tmod (u64.wrap (a2)) (u64.wrap ((l0.length : Int))))) : Int).toNat (⟨7, (rd_T34 t459 (wrap64 (Int.tmod (u64.wrap (a2)) (u64.wrap ((l0.length : Int)))))).f1, (rd_T34 t459 (wrap64 (Int.tmod (u64.wrap (a2)) (u64.wrap ((l0.length : Int)))))).f2, (rd_T34 t459 (wrap64 (Int.tmod (u64.wrap (a2)) (u64.wrap ((l0.length : Int)))))).f3, (⟨(rd_T34 t459 (wrap64 (Int.tmod (u64.wrap (a2)) (u64.wrap ((l0.length : Int)))))).f4.f0, (rd_T34 t459 (wrap64 (Int.tmod (u64.wrap (a2)) (u64.wrap ((l0.length : Int)))))).f4.f1, (rd_T34 t459 (wrap64 (Int.tmod (u64.wrap (a2)) (u64.wrap ((l0.length : Int)))))).f4.f2, (⟨(rd_T34 t459 (wrap64 (Int.tmod (u64.wrap (a2)) (u64.wrap ((l0.length : Int)))))).f4.f3.f0, (rd_T34 t459 (wrap64 (Int.tmod (u64.wrap (a2)) (u64.wrap ((l0.length : Int)))))).f4.f3.f1, (rd_T34 t459 (wrap64 (Int.tmod (u64.wrap (a2)) (u64.wrap ((l0.length : Int)))))).f4.f3.f2⟩ : S29)⟩ : S31), (rd_T34 t459 (wrap64 (Int.tmod (u64.wrap (a2)) (u64.wrap ((l0.length : Int)))))).f5, (rd_T34 t459 (wrap64 (Int.tmod (u64.wrap (a2)) (u64.wrap ((l0.length : Int)))))).f6, (rd_T34 t459 (wrap64 (Int.tmod (u64.wrap (a2)) (u64.wrap ((l0.length : Int)))))).f7, (rd_T34 t459 (wrap64 (Int.tmod (u64.wrap (a2)) (u64.wrap ((l0.length : Int)))))).f8⟩ : S34) : List (S34))).bind fun y471 => (raddlelaw20_PlanBent.j1 kj4 l1 (y471.set ((wrap64 (Int.tmod (u64.wrap (a2)) (u64.wrap ((l0.length : Int))))) : Int).toNat (⟨(rd_T34 y471 (wrap64 (Int.tmod (u64.wrap (a2)) (u64.wrap ((l0.length : Int)))))).f0, wrap64 (Int.tmod (u64.wrap (a2)) (u64.wrap ((l0.length : Int)))), (rd_T34 y471 (wrap64 (Int.tmod (u64.wrap (a2)) (u64.wrap ((l0.length : Int)))))).f2, (rd_T34 y471 (wrap64 (Int.tmod (u64.wrap (a2)) (u64.wrap ((l0.length : Int)))))).f3, (⟨(rd_T34 y471 (wrap64 (Int.tmod (u64.wrap (a2)) (u64.wrap ((l0.length : Int)))))).f4.f0, (rd_T34 y471 (wrap64 (Int.tmod (u64.wrap (a2)) (u64.wrap ((l0.length : Int)))))).f4.f1, (rd_T34 y471 (wrap64 (Int.tmod (u64.wrap (a2)) (u64.wrap ((l0.length : Int)))))).f4.f2, (⟨(rd_T34 y471 (wrap64 (Int.tmod (u64.wrap (a2)) (u64.wrap ((l0.length : Int)))))).f4.f3.f0, (rd_T34 y471 (wrap64 (Int.tmod (u64.wrap (a2)) (u64.wrap ((l0.length : Int)))))).f4.f3.f1, (rd_T34 y471 (wrap64 (Int.tmod (u64.wrap (a2)) (u64.wrap ((l0.length : Int)))))).f4.f3.f2⟩ : S29)⟩ : S31), (rd_T34 y471 (wrap64 (Int.tmod (u64.wrap (a2)) (u64.wrap ((l0.length : Int)))))).f5, (rd_T34 y471 (wrap64 (Int.tmod (u64.wrap (a2)) (u64.wrap ((l0.length : Int)))))).f6, (rd_T34 y471 (wrap64 (Int.tmod (u64.wrap (a2)) (u64.wrap ((l0.length : Int)))))).f7, (rd_T34 y471 (wrap64 (Int.tmod (u64.wrap (a2)) (u64.wrap ((l0.length : Int)))))).f8⟩ : S34)))) else (raddlelaw20_PlanBent.j1 kj4 l1 (t459.set ((wrap64 (Int.tmod (u64.wrap (a2)) (u64.wrap ((l0.length : Int))))) : Int).toNat (⟨(rd_T34 t459 (wrap64 (Int.tmod (u64.wrap (a2)) (u64.wrap ((l0.length : Int)))))).f0, (l0.length : Int), (rd_T34 t459 (wrap64 (Int.tmod (u64.wrap (a2)) (u64.wrap ((l0.length : Int)))))).f2, (rd_T34 t459 (wrap64 (Int.tmod (u64.wrap (a2)) (u64.wrap ((l0.length : Int)))))).f3, (⟨(rd_T34 t459 (wrap64 (Int.tmod (u64.wrap (a2)) (u64.wrap ((l0.length : Int)))))).f4.f0, (rd_T34 t459 (wrap64 (Int.tmod (u64.wrap (a2)) (u64.wrap ((l0.length : Int)))))).f4.f1, (rd_T34 t459 (wrap64 (Int.tmod (u64.wrap (a2)) (u64.wrap ((l0.length : Int)))))).f4.f2, (⟨(rd_T34 t459 (wrap64 (Int.tmod (u64.wrap (a2)) (u64.wrap ((l0.length : Int)))))).f4.f3.f0, (rd_T34 t459 (wrap64 (Int.tmod (u64.wrap (a2)) (u64.wrap ((l0.length : Int)))))).f4.f3.f1, (rd_T34 t459 (wrap64 (Int.tmod (u64.wrap (a2)) (u64.wrap ((l0.length : Int)))))).f4.f3.f2⟩ : S29)⟩ : S31), (rd_T34 t459 (wrap64 (Int.tmod (u64.wrap (a2)) (u64.wrap ((l0.length : Int)))))).f5, (rd_T34 t459 (wrap64 (Int.tmod (u64.wrap (a2)) (u64.wrap ((l0.length : Int)))))).f6, (rd_T34 t459 (wrap64 (Int.tmod (u64.wrap (a2)) (u64.wrap ((l0.length : Int)))))).f7, (rd_T34 t459 (wrap64 (Int.tmod (u64.wrap (a2)) (u64.wrap ((l0.length : Int)))))).f8⟩ : S34)))) else (none)) else (none)))))) = some r := H
   have A15 := mk_ A150
   clear A150
   have HC16 := mk_ H
   clear H
   go_upto_block 0 with (first | ((with_reducible refine gate_callee (f := 11) rfl ?_); refine Short.gL (some 26) Try.func11 #[.slice A0 l0.length c0, .slice A1 l1.length c1] (h := ?_); (with_reducible refine (raddleref14_Plan.calls _ _ l0 _ _ l1 t455 t456 _ ?side1 ?side2 ?side3 ?side4 A12.out).mono ?_); (case side1 => exact cX_ (C_below HR0.out HB.out)); (case side2 => exact HC0.out); (case side3 => exact cX_ (C_below HR1.out HB.out)); (case side4 => exact HC1.out); rintro e w17 ⟨v457, rfl, ho0, hb⟩; refine ⟨_, rfl, ?_⟩; have n0_ := mk_ (S_lower ho0 (below_size (Short.hB HB))); have n1_ := mk_ (below_step (Short.hB HB) hb); clear HB; revert n0_ n1_; intro HO458 HB; (try clear hb ho0)) | ((with_reducible refine gate_callee (f := 17) rfl ?_); refine Short.gL (some 39) Try.func17 #[.slice A0 l0.length c0] (h := ?_); (with_reducible refine (raddlekeep_TwinNodes.calls kj4 _ _ l0 t459 _ ?side1 ?side2 A15.out).mono ?_); (case side1 => exact cX_ (C_below HR0.out HB.out)); (case side2 => exact HC0.out); rintro e w18 ⟨v460, rfl, ho0, hb⟩; refine ⟨_, rfl, ?_⟩; have n0_ := mk_ (S_below (by (with_reducible repeat (first | apply S_alloc | apply S_drewN | apply S_drew)); exact HO458.out) hb); have n1_ := mk_ (S_lower ho0 (below_size (Short.hB HB))); have n2_ := mk_ (below_step (Short.hB HB) hb); clear HO458 HB; revert n0_ n1_ n2_; intro HO458 HO461 HB; (try clear hb ho0)))
   (try simp only [Act.put, List.setIfInBounds_toArray, List.set_cons_zero, List.set_cons_succ])
   go_cut [] (fun wc => ∃ (kq : Nat) (x11_15 : List (S34)), Aside0 (raddlelaw20_PlanBent.j1 kq l1 x11_15 = some r) ∧ Aside0 (kq ≤ kj4) ∧ Aside0 (Kd.S k34 34 wc w.heap.size (fun _ => True) v460 x11_15) ∧ Aside0 (Below w.heap.size w wc))
   case first =>
    have H := HC16.out
    clear HC16
    by_cases c19 : (Int.tmod (u64.wrap (a3)) 5) = 0
    ·
     rw [if_pos c19] at H
     have c19b0 : ((Int.tmod (u64.wrap (a3)) 5) == 0) = true := beq_iff_eq.mpr c19
     have c19b1 : ((Int.tmod (u64.wrap (a3)) 5) != 0) = false := bne_eq_false_iff_eq.mpr c19
     clear c19
     (first | rw [c19b0] | (simp only [i64_w, i32_w]; rw [c19b0]) | skip)
     obtain ⟨ji20, hji20⟩ : ∃ j_ : Int, (wrap64 (Int.tmod (u64.wrap (a2)) (u64.wrap ((l0.length : Int))))) = j_ := ⟨_, rfl⟩
     replace H : (if 0 ≤ (ji20) then (if (ji20) < (t459.length : Int) then (raddlelaw20_PlanBent.j1 kj4 l1 (t459.set ((ji20) : Int).toNat (⟨0, (rd_T34 t459 (ji20)).f1, (rd_T34 t459 (ji20)).f2, (rd_T34 t459 (ji20)).f3, (⟨(rd_T34 t459 (ji20)).f4.f0, (rd_T34 t459 (ji20)).f4.f1, (rd_T34 t459 (ji20)).f4.f2, (⟨(rd_T34 t459 (ji20)).f4.f3.f0, (rd_T34 t459 (ji20)).f4.f3.f1, (rd_T34 t459 (ji20)).f4.f3.f2⟩ : S29)⟩ : S31), (rd_T34 t459 (ji20)).f5, (rd_T34 t459 (ji20)).f6, (rd_T34 t459 (ji20)).f7, (rd_T34 t459 (ji20)).f8⟩ : S34))) else (none)) else (none)) = some r := by first | (rw [hji20] at H; exact H) | (simp only [hji20] at H ⊢; exact H)
     have hji20w : (IntKind.i64.wrap (Int.tmod (u64.wrap (a2)) (u64.wrap ((l0.length : Int))))) = ji20 := (i64_w _).trans hji20
     by_cases c21 : 0 ≤ (ji20)
     rotate_left
     ·
      rw [if_neg c21] at H
      exact absurd H (by simp)
     rw [if_pos c21] at H
     have c21b0 : decide (0 ≤ (ji20)) = true := decide_eq_true c21
     clear c21
     by_cases c22 : (ji20) < (t459.length : Int)
     rotate_left
     ·
      rw [if_neg c22] at H
      exact absurd H (by simp)
     rw [if_pos c22] at H
     have c22b0 : decide ((ji20) < (t459.length : Int)) = true := decide_eq_true c22
     clear c22
     obtain ⟨y462, hy462⟩ : ∃ y_ : List (S34), y_ = (t459.set ((ji20) : Int).toNat (⟨0, (rd_T34 t459 (ji20)).f1, (rd_T34 t459 (ji20)).f2, (rd_T34 t459 (ji20)).f3, (⟨(rd_T34 t459 (ji20)).f4.f0, (rd_T34 t459 (ji20)).f4.f1, (rd_T34 t459 (ji20)).f4.f2, (⟨(rd_T34 t459 (ji20)).f4.f3.f0, (rd_T34 t459 (ji20)).f4.f3.f1, (rd_T34 t459 (ji20)).f4.f3.f2⟩ : S29)⟩ : S31), (rd_T34 t459 (ji20)).f5, (rd_T34 t459 (ji20)).f6, (rd_T34 t459 (ji20)).f7, (rd_T34 t459 (ji20)).f8⟩ : S34)) := ⟨_, rfl⟩
     replace H : (raddlelaw20_PlanBent.j1 kj4 l1 y462) = some r := by first | (rw [hy462]; with_reducible exact H) | (have H2_ := (Option.bind_some _ _).symm.trans H; rw [hy462]; with_reducible exact H2_) | (have H2_ := (Option.bind_some _ _).symm.trans H; with_reducible exact H2_) | with_reducible exact H | (rw [hy462]; exact H) | exact H
     have Ny462 := mk_ hy462
     clear hy462
     have H' := mk_ H
     clear H
     have p23 : 0 ≤ ((ji20) : Int) := of_decide_eq_true z2
     have q23 : ((ji20) : Int) < ((t459.length : Int) : Int) := of_decide_eq_true z2
     obtain ⟨go23, co23, eo23, gb23, gl23, cl23, HG23⟩ := S_form HO461.out z5
     (first | cases eo23 | (injection eo23 with ea_ en_ ec_; (first | subst ea_ | (injection ea_ with ea_; subst ea_)); subst ec_; clear en_))
     have GB23 := mk_ gb23
     have GG23 := mk_ HG23
     clear gb23 gl23 HG23
     obtain ⟨_, ce23, hcl23, hM23, hcc23, hfr23, _, _⟩ := S_elem HO461.out z34 ((ji20) : Int) p23 q23
     obtain ⟨ve23_10, ve23_11, rfl, ge23_10, ge23_11⟩ := k34_openM hM23
     have hx23_0 : w18.cell? ⟨go23, ((ji20) : Int).toNat * 14, none⟩ = some (.int .i64 ((rd_T34 t459 (ji20)).f0)) := hcc23 0 _ rfl
     have hx23_1 : w18.cell? ⟨go23, ((ji20) : Int).toNat * 14 + 1, none⟩ = some (.int .i64 ((rd_T34 t459 (ji20)).f1)) := hcc23 1 _ rfl
     have hx23_2 : w18.cell? ⟨go23, ((ji20) : Int).toNat * 14 + 2, none⟩ = some (.int .i64 ((rd_T34 t459 (ji20)).f2)) := hcc23 2 _ rfl
     have hx23_3 : w18.cell? ⟨go23, ((ji20) : Int).toNat * 14 + 3, none⟩ = some (.int .i64 ((rd_T34 t459 (ji20)).f3)) := hcc23 3 _ rfl
     have hx23_4 : w18.cell? ⟨go23, ((ji20) : Int).toNat * 14 + 4, none⟩ = some (.int .i64 ((rd_T34 t459 (ji20)).f4.f0)) := hcc23 4 _ rfl
     have hx23_5 : w18.cell? ⟨go23, ((ji20) : Int).toNat * 14 + 5, none⟩ = some (.int .i64 ((rd_T34 t459 (ji20)).f4.f1)) := hcc23 5 _ rfl
     have hx23_6 : w18.cell? ⟨go23, ((ji20) : Int).toNat * 14 + 6, none⟩ = some (.int .i64 ((rd_T34 t459 (ji20)).f4.f2)) := hcc23 6 _ rfl
     have hx23_7 : w18.cell? ⟨go23, ((ji20) : Int).toNat * 14 + 7, none⟩ = some (.int .i64 ((rd_T34 t459 (ji20)).f4.f3.f0)) := hcc23 7 _ rfl
     have hx23_8 : w18.cell? ⟨go23, ((ji20) : Int).toNat * 14 + 8, none⟩ = some (.int .i64 ((rd_T34 t459 (ji20)).f4.f3.f1)) := hcc23 8 _ rfl
     have hx23_9 : w18.cell? ⟨go23, ((ji20) : Int).toNat * 14 + 9, none⟩ = some (.string ((rd_T34 t459 (ji20)).f4.f3.f2)) := hcc23 9 _ rfl
     have hx23_10 : w18.cell? ⟨go23, ((ji20) : Int).toNat * 14 + 10, none⟩ = some (ve23_10) := hcc23 10 _ rfl
     have hx23_11 : w18.cell? ⟨go23, ((ji20) : Int).toNat * 14 + 11, none⟩ = some (ve23_11) := hcc23 11 _ rfl
     have hx23_12 : w18.cell? ⟨go23, ((ji20) : Int).toNat * 14 + 12, none⟩ = some (.int .i64 ((rd_T34 t459 (ji20)).f7)) := hcc23 12 _ rfl
     have hx23_13 : w18.cell? ⟨go23, ((ji20) : Int).toNat * 14 + 13, none⟩ = some (.int .i64 ((rd_T34 t459 (ji20)).f8)) := hcc23 13 _ rfl
     have hf23_0 : w18.frozen? ⟨go23, ((ji20) : Int).toNat * 14, none⟩ = false := hfr23 0
     have hf23_1 : w18.frozen? ⟨go23, ((ji20) : Int).toNat * 14 + 1, none⟩ = false := hfr23 1
     have hf23_2 : w18.frozen? ⟨go23, ((ji20) : Int).toNat * 14 + 2, none⟩ = false := hfr23 2
     have hf23_3 : w18.frozen? ⟨go23, ((ji20) : Int).toNat * 14 + 3, none⟩ = false := hfr23 3
     have hf23_4 : w18.frozen? ⟨go23, ((ji20) : Int).toNat * 14 + 4, none⟩ = false := hfr23 4
     have hf23_5 : w18.frozen? ⟨go23, ((ji20) : Int).toNat * 14 + 5, none⟩ = false := hfr23 5
     have hf23_6 : w18.frozen? ⟨go23, ((ji20) : Int).toNat * 14 + 6, none⟩ = false := hfr23 6
     have hf23_7 : w18.frozen? ⟨go23, ((ji20) : Int).toNat * 14 + 7, none⟩ = false := hfr23 7
     have hf23_8 : w18.frozen? ⟨go23, ((ji20) : Int).toNat * 14 + 8, none⟩ = false := hfr23 8
     have hf23_9 : w18.frozen? ⟨go23, ((ji20) : Int).toNat * 14 + 9, none⟩ = false := hfr23 9
     have hf23_10 : w18.frozen? ⟨go23, ((ji20) : Int).toNat * 14 + 10, none⟩ = false := hfr23 10
     have hf23_11 : w18.frozen? ⟨go23, ((ji20) : Int).toNat * 14 + 11, none⟩ = false := hfr23 11
     have hf23_12 : w18.frozen? ⟨go23, ((ji20) : Int).toNat * 14 + 12, none⟩ = false := hfr23 12
     have hf23_13 : w18.frozen? ⟨go23, ((ji20) : Int).toNat * 14 + 13, none⟩ = false := hfr23 13
     clear hcl23 hcc23 hfr23 hM23
     replace p23 := eq_true p23
     replace q23 := eq_true q23
     have HX24 := mk_ (show Kd.S k34 34 w18 w.heap.size (fun k_ => ((fun _ => True)) k_ ∧ ¬ ((fun _ => False)) k_) (.slice (some ⟨go23, 0, none⟩) t459.length co23) t459 from (by (with_reducible repeat (first | apply S_alloc | apply S_drewN | apply S_drew)); exact S_mono HO461.out (fun k_ hk => ⟨trivial, fun e_ => e_⟩)))
     obtain ⟨oki24, ce24, hcl24, hM24, hcc24, hfr24, hoki24, hH24⟩ := S_elem HX24.out z34 ((ji20) : Int) (of_decide_eq_true z2) (by have h_ : ((ji20) : Int) < ((t459.length : Int) : Int) := of_decide_eq_true z2; first | exact h_ | (have e_ := (S_reads' HO461.out).1; omega) | simpa using h_)
     obtain ⟨ve24_10, ve24_11, rfl, ge24_10, ge24_11⟩ := k34_openM hM24
     have HP24 := S_seg hH24 (of_decide_eq_true z2) (by have h_ : ((ji20) : Int) < ((t459.length : Int) : Int) := of_decide_eq_true z2; first | exact h_ | (have e_ := (S_reads' HO461.out).1; omega) | simpa using h_) (seg := [.int .i64 0]) (j := 0) (show 1 ≤ 14 from by decide) (x' := (⟨0, (rd_T34 t459 (ji20)).f1, (rd_T34 t459 (ji20)).f2, (rd_T34 t459 (ji20)).f3, (⟨(rd_T34 t459 (ji20)).f4.f0, (rd_T34 t459 (ji20)).f4.f1, (rd_T34 t459 (ji20)).f4.f2, (⟨(rd_T34 t459 (ji20)).f4.f3.f0, (rd_T34 t459 (ji20)).f4.f3.f1, (rd_T34 t459 (ji20)).f4.f3.f2⟩ : S29)⟩ : S31), (rd_T34 t459 (ji20)).f5, (rd_T34 t459 (ji20)).f6, (rd_T34 t459 (ji20)).f7, (rd_T34 t459 (ji20)).f8⟩ : S34)) (k34_mkM _ _ _ (⟨0, (rd_T34 t459 (ji20)).f1, (rd_T34 t459 (ji20)).f2, (rd_T34 t459 (ji20)).f3, (⟨(rd_T34 t459 (ji20)).f4.f0, (rd_T34 t459 (ji20)).f4.f1, (rd_T34 t459 (ji20)).f4.f2, (⟨(rd_T34 t459 (ji20)).f4.f3.f0, (rd_T34 t459 (ji20)).f4.f3.f1, (rd_T34 t459 (ji20)).f4.f3.f2⟩ : S29)⟩ : S31), (rd_T34 t459 (ji20)).f5, (rd_T34 t459 (ji20)).f6, (rd_T34 t459 (ji20)).f7, (rd_T34 t459 (ji20)).f8⟩ : S34) (R_mono ge24_10 (fun _ h_ => Or.inl h_)) (R_mono ge24_11 (fun _ h_ => Or.inl h_))) (fun _ hk => hk) (fun k_ hk_ => hk_.elim)
     have hx24_0 := hcc24 0 _ rfl
     (try simp only [show (k34).sz = 14 from rfl, Nat.mul_one, Nat.add_zero] at hx24_0)
     have hf24_0 := hfr24 0
     (try simp only [show (k34).sz = 14 from rfl, Nat.mul_one, Nat.add_zero] at hf24_0)
     clear hcl24 hcc24 hfr24 hM24 hoki24 hH24
     go_wp2_with (first | ((with_reducible refine gate_store (t := 3) (p := 69) rfl ?_); refine store_event (t := 3) (p := 69) (v := ?vo_w25) (w1 := (w18.setCell ⟨go23, ((ji20) : Int).toNat * 14, none⟩ (.int .i64 0))) ?hg ?ho ?hn ?hr ?_; (case ho => rfl); (case hg => rfl); (case hn => rfl); (case hr => first | (go_simp; done) | (go_simp; rfl)); intro w25 hw; have hg : w18.grownBy w25 (some go23) := (by rw [hw]; exact HP24.2); have hp_ : Kd.S k34 34 w25 w.heap.size (fun _ => True) (.slice (some ⟨go23, 0, none⟩) t459.length co23) y462 := (by rw [hw, Ny462.out]; exact HP24.1); clear HP24; have n0_ := mk_ (S_over' (v := (.slice (some ⟨go23, 0, none⟩) t459.length co23)) (by (with_reducible repeat (first | apply S_alloc | apply S_drewN | apply S_drew)); exact HO458.out) (S_typed HO461.out) z11 hg); have n1_ := mk_ (hp_); have n2_ := mk_ ((by rw [hw]; exact below_set (HB.out) GB23.out : Below w.heap.size w w25)); clear HO458 HO461 HB; revert n0_ n1_ n2_; intro HO458 HO461 HB; clear hg hw hp_))
     (try subst hji20)
     (try subst hji27)
     (try subst hji34)
     (try subst hji47)
     (try subst hji59)
     go_meet
     case rel => exact ⟨_, (y462), H', ⟨by have := HJ4.out; first | omega | exact Nat.le_refl _⟩, ⟨by (with_reducible repeat (first | apply S_alloc | apply S_drewN | apply S_drew)); exact HO461.out⟩, ⟨Short.hB HB⟩⟩
    rw [if_neg c19] at H
    have c19b0 : ((Int.tmod (u64.wrap (a3)) 5) == 0) = false := beq_eq_false_iff_ne.mpr c19
    have c19b1 : ((Int.tmod (u64.wrap (a3)) 5) != 0) = true := bne_iff_ne.mpr c19
    (first | rw [c19b0] | (simp only [i64_w, i32_w]; rw [c19b0]) | skip)
    by_cases c26 : (Int.tmod (u64.wrap (a3)) 5) = 1
    ·
     rw [if_pos c26] at H
     have c26b0 : ((Int.tmod (u64.wrap (a3)) 5) == 1) = true := beq_iff_eq.mpr c26
     have c26b1 : ((Int.tmod (u64.wrap (a3)) 5) != 1) = false := bne_eq_false_iff_eq.mpr c26
     clear c26
     obtain ⟨ji27, hji27⟩ : ∃ j_ : Int, (wrap64 (Int.tmod (u64.wrap (a2)) (u64.wrap ((l0.length : Int))))) = j_ := ⟨_, rfl⟩
     replace H : (if 0 ≤ (ji27) then (if (ji27) < (t459.length : Int) then (raddlelaw20_PlanBent.j1 kj4 l1 (t459.set ((ji27) : Int).toNat (⟨9, (rd_T34 t459 (ji27)).f1, (rd_T34 t459 (ji27)).f2, (rd_T34 t459 (ji27)).f3, (⟨(rd_T34 t459 (ji27)).f4.f0, (rd_T34 t459 (ji27)).f4.f1, (rd_T34 t459 (ji27)).f4.f2, (⟨(rd_T34 t459 (ji27)).f4.f3.f0, (rd_T34 t459 (ji27)).f4.f3.f1, (rd_T34 t459 (ji27)).f4.f3.f2⟩ : S29)⟩ : S31), (rd_T34 t459 (ji27)).f5, (rd_T34 t459 (ji27)).f6, (rd_T34 t459 (ji27)).f7, (rd_T34 t459 (ji27)).f8⟩ : S34))) else (none)) else (none)) = some r := by first | (rw [hji27] at H; exact H) | (simp only [hji27] at H ⊢; exact H)
     have hji27w : (IntKind.i64.wrap (Int.tmod (u64.wrap (a2)) (u64.wrap ((l0.length : Int))))) = ji27 := (i64_w _).trans hji27
     by_cases c28 : 0 ≤ (ji27)
     rotate_left
     ·
      rw [if_neg c28] at H
      exact absurd H (by simp)
     rw [if_pos c28] at H
     have c28b0 : decide (0 ≤ (ji27)) = true := decide_eq_true c28
     clear c28
     by_cases c29 : (ji27) < (t459.length : Int)
     rotate_left
     ·
      rw [if_neg c29] at H
      exact absurd H (by simp)
     rw [if_pos c29] at H
     have c29b0 : decide ((ji27) < (t459.length : Int)) = true := decide_eq_true c29
     clear c29
     obtain ⟨y463, hy463⟩ : ∃ y_ : List (S34), y_ = (t459.set ((ji27) : Int).toNat (⟨9, (rd_T34 t459 (ji27)).f1, (rd_T34 t459 (ji27)).f2, (rd_T34 t459 (ji27)).f3, (⟨(rd_T34 t459 (ji27)).f4.f0, (rd_T34 t459 (ji27)).f4.f1, (rd_T34 t459 (ji27)).f4.f2, (⟨(rd_T34 t459 (ji27)).f4.f3.f0, (rd_T34 t459 (ji27)).f4.f3.f1, (rd_T34 t459 (ji27)).f4.f3.f2⟩ : S29)⟩ : S31), (rd_T34 t459 (ji27)).f5, (rd_T34 t459 (ji27)).f6, (rd_T34 t459 (ji27)).f7, (rd_T34 t459 (ji27)).f8⟩ : S34)) := ⟨_, rfl⟩
     replace H : (raddlelaw20_PlanBent.j1 kj4 l1 y463) = some r := by first | (rw [hy463]; with_reducible exact H) | (have H2_ := (Option.bind_some _ _).symm.trans H; rw [hy463]; with_reducible exact H2_) | (have H2_ := (Option.bind_some _ _).symm.trans H; with_reducible exact H2_) | with_reducible exact H | (rw [hy463]; exact H) | exact H
     have Ny463 := mk_ hy463
     clear hy463
     have H' := mk_ H
     clear H
     have p30 : 0 ≤ ((ji27) : Int) := of_decide_eq_true z2
     have q30 : ((ji27) : Int) < ((t459.length : Int) : Int) := of_decide_eq_true z2
     obtain ⟨go30, co30, eo30, gb30, gl30, cl30, HG30⟩ := S_form HO461.out z5
     (first | cases eo30 | (injection eo30 with ea_ en_ ec_; (first | subst ea_ | (injection ea_ with ea_; subst ea_)); subst ec_; clear en_))
     have GB30 := mk_ gb30
     have GG30 := mk_ HG30
     clear gb30 gl30 HG30
     obtain ⟨_, ce30, hcl30, hM30, hcc30, hfr30, _, _⟩ := S_elem HO461.out z34 ((ji27) : Int) p30 q30
     obtain ⟨ve30_10, ve30_11, rfl, ge30_10, ge30_11⟩ := k34_openM hM30
     have hx30_0 : w18.cell? ⟨go30, ((ji27) : Int).toNat * 14, none⟩ = some (.int .i64 ((rd_T34 t459 (ji27)).f0)) := hcc30 0 _ rfl
     have hx30_1 : w18.cell? ⟨go30, ((ji27) : Int).toNat * 14 + 1, none⟩ = some (.int .i64 ((rd_T34 t459 (ji27)).f1)) := hcc30 1 _ rfl
     have hx30_2 : w18.cell? ⟨go30, ((ji27) : Int).toNat * 14 + 2, none⟩ = some (.int .i64 ((rd_T34 t459 (ji27)).f2)) := hcc30 2 _ rfl
     have hx30_3 : w18.cell? ⟨go30, ((ji27) : Int).toNat * 14 + 3, none⟩ = some (.int .i64 ((rd_T34 t459 (ji27)).f3)) := hcc30 3 _ rfl
     have hx30_4 : w18.cell? ⟨go30, ((ji27) : Int).toNat * 14 + 4, none⟩ = some (.int .i64 ((rd_T34 t459 (ji27)).f4.f0)) := hcc30 4 _ rfl
     have hx30_5 : w18.cell? ⟨go30, ((ji27) : Int).toNat * 14 + 5, none⟩ = some (.int .i64 ((rd_T34 t459 (ji27)).f4.f1)) := hcc30 5 _ rfl
     have hx30_6 : w18.cell? ⟨go30, ((ji27) : Int).toNat * 14 + 6, none⟩ = some (.int .i64 ((rd_T34 t459 (ji27)).f4.f2)) := hcc30 6 _ rfl
     have hx30_7 : w18.cell? ⟨go30, ((ji27) : Int).toNat * 14 + 7, none⟩ = some (.int .i64 ((rd_T34 t459 (ji27)).f4.f3.f0)) := hcc30 7 _ rfl
     have hx30_8 : w18.cell? ⟨go30, ((ji27) : Int).toNat * 14 + 8, none⟩ = some (.int .i64 ((rd_T34 t459 (ji27)).f4.f3.f1)) := hcc30 8 _ rfl
     have hx30_9 : w18.cell? ⟨go30, ((ji27) : Int).toNat * 14 + 9, none⟩ = some (.string ((rd_T34 t459 (ji27)).f4.f3.f2)) := hcc30 9 _ rfl
     have hx30_10 : w18.cell? ⟨go30, ((ji27) : Int).toNat * 14 + 10, none⟩ = some (ve30_10) := hcc30 10 _ rfl
     have hx30_11 : w18.cell? ⟨go30, ((ji27) : Int).toNat * 14 + 11, none⟩ = some (ve30_11) := hcc30 11 _ rfl
     have hx30_12 : w18.cell? ⟨go30, ((ji27) : Int).toNat * 14 + 12, none⟩ = some (.int .i64 ((rd_T34 t459 (ji27)).f7)) := hcc30 12 _ rfl
     have hx30_13 : w18.cell? ⟨go30, ((ji27) : Int).toNat * 14 + 13, none⟩ = some (.int .i64 ((rd_T34 t459 (ji27)).f8)) := hcc30 13 _ rfl
     have hf30_0 : w18.frozen? ⟨go30, ((ji27) : Int).toNat * 14, none⟩ = false := hfr30 0
     have hf30_1 : w18.frozen? ⟨go30, ((ji27) : Int).toNat * 14 + 1, none⟩ = false := hfr30 1
     have hf30_2 : w18.frozen? ⟨go30, ((ji27) : Int).toNat * 14 + 2, none⟩ = false := hfr30 2
     have hf30_3 : w18.frozen? ⟨go30, ((ji27) : Int).toNat * 14 + 3, none⟩ = false := hfr30 3
     have hf30_4 : w18.frozen? ⟨go30, ((ji27) : Int).toNat * 14 + 4, none⟩ = false := hfr30 4
     have hf30_5 : w18.frozen? ⟨go30, ((ji27) : Int).toNat * 14 + 5, none⟩ = false := hfr30 5
     have hf30_6 : w18.frozen? ⟨go30, ((ji27) : Int).toNat * 14 + 6, none⟩ = false := hfr30 6
     have hf30_7 : w18.frozen? ⟨go30, ((ji27) : Int).toNat * 14 + 7, none⟩ = false := hfr30 7
     have hf30_8 : w18.frozen? ⟨go30, ((ji27) : Int).toNat * 14 + 8, none⟩ = false := hfr30 8
     have hf30_9 : w18.frozen? ⟨go30, ((ji27) : Int).toNat * 14 + 9, none⟩ = false := hfr30 9
     have hf30_10 : w18.frozen? ⟨go30, ((ji27) : Int).toNat * 14 + 10, none⟩ = false := hfr30 10
     have hf30_11 : w18.frozen? ⟨go30, ((ji27) : Int).toNat * 14 + 11, none⟩ = false := hfr30 11
     have hf30_12 : w18.frozen? ⟨go30, ((ji27) : Int).toNat * 14 + 12, none⟩ = false := hfr30 12
     have hf30_13 : w18.frozen? ⟨go30, ((ji27) : Int).toNat * 14 + 13, none⟩ = false := hfr30 13
     clear hcl30 hcc30 hfr30 hM30
     replace p30 := eq_true p30
     replace q30 := eq_true q30
     have HX31 := mk_ (show Kd.S k34 34 w18 w.heap.size (fun k_ => ((fun _ => True)) k_ ∧ ¬ ((fun _ => False)) k_) (.slice (some ⟨go30, 0, none⟩) t459.length co30) t459 from (by (with_reducible repeat (first | apply S_alloc | apply S_drewN | apply S_drew)); exact S_mono HO461.out (fun k_ hk => ⟨trivial, fun e_ => e_⟩)))
     obtain ⟨oki31, ce31, hcl31, hM31, hcc31, hfr31, hoki31, hH31⟩ := S_elem HX31.out z34 ((ji27) : Int) (of_decide_eq_true z2) (by have h_ : ((ji27) : Int) < ((t459.length : Int) : Int) := of_decide_eq_true z2; first | exact h_ | (have e_ := (S_reads' HO461.out).1; omega) | simpa using h_)
     obtain ⟨ve31_10, ve31_11, rfl, ge31_10, ge31_11⟩ := k34_openM hM31
     have HP31 := S_seg hH31 (of_decide_eq_true z2) (by have h_ : ((ji27) : Int) < ((t459.length : Int) : Int) := of_decide_eq_true z2; first | exact h_ | (have e_ := (S_reads' HO461.out).1; omega) | simpa using h_) (seg := [.int .i64 9]) (j := 0) (show 1 ≤ 14 from by decide) (x' := (⟨9, (rd_T34 t459 (ji27)).f1, (rd_T34 t459 (ji27)).f2, (rd_T34 t459 (ji27)).f3, (⟨(rd_T34 t459 (ji27)).f4.f0, (rd_T34 t459 (ji27)).f4.f1, (rd_T34 t459 (ji27)).f4.f2, (⟨(rd_T34 t459 (ji27)).f4.f3.f0, (rd_T34 t459 (ji27)).f4.f3.f1, (rd_T34 t459 (ji27)).f4.f3.f2⟩ : S29)⟩ : S31), (rd_T34 t459 (ji27)).f5, (rd_T34 t459 (ji27)).f6, (rd_T34 t459 (ji27)).f7, (rd_T34 t459 (ji27)).f8⟩ : S34)) (k34_mkM _ _ _ (⟨9, (rd_T34 t459 (ji27)).f1, (rd_T34 t459 (ji27)).f2, (rd_T34 t459 (ji27)).f3, (⟨(rd_T34 t459 (ji27)).f4.f0, (rd_T34 t459 (ji27)).f4.f1, (rd_T34 t459 (ji27)).f4.f2, (⟨(rd_T34 t459 (ji27)).f4.f3.f0, (rd_T34 t459 (ji27)).f4.f3.f1, (rd_T34 t459 (ji27)).f4.f3.f2⟩ : S29)⟩ : S31), (rd_T34 t459 (ji27)).f5, (rd_T34 t459 (ji27)).f6, (rd_T34 t459 (ji27)).f7, (rd_T34 t459 (ji27)).f8⟩ : S34) (R_mono ge31_10 (fun _ h_ => Or.inl h_)) (R_mono ge31_11 (fun _ h_ => Or.inl h_))) (fun _ hk => hk) (fun k_ hk_ => hk_.elim)
     have hx31_0 := hcc31 0 _ rfl
     (try simp only [show (k34).sz = 14 from rfl, Nat.mul_one, Nat.add_zero] at hx31_0)
     have hf31_0 := hfr31 0
     (try simp only [show (k34).sz = 14 from rfl, Nat.mul_one, Nat.add_zero] at hf31_0)
     clear hcl31 hcc31 hfr31 hM31 hoki31 hH31
     go_wp2_with (first | ((with_reducible refine gate_store (t := 3) (p := 75) rfl ?_); refine store_event (t := 3) (p := 75) (v := ?vo_w32) (w1 := (w18.setCell ⟨go30, ((ji27) : Int).toNat * 14, none⟩ (.int .i64 9))) ?hg ?ho ?hn ?hr ?_; (case ho => rfl); (case hg => rfl); (case hn => rfl); (case hr => first | (go_simp; done) | (go_simp; rfl)); intro w32 hw; have hg : w18.grownBy w32 (some go30) := (by rw [hw]; exact HP31.2); have hp_ : Kd.S k34 34 w32 w.heap.size (fun _ => True) (.slice (some ⟨go30, 0, none⟩) t459.length co30) y463 := (by rw [hw, Ny463.out]; exact HP31.1); clear HP31; have n0_ := mk_ (S_over' (v := (.slice (some ⟨go30, 0, none⟩) t459.length co30)) (by (with_reducible repeat (first | apply S_alloc | apply S_drewN | apply S_drew)); exact HO458.out) (S_typed HO461.out) z11 hg); have n1_ := mk_ (hp_); have n2_ := mk_ ((by rw [hw]; exact below_set (HB.out) GB30.out : Below w.heap.size w w32)); clear HO458 HO461 HB; revert n0_ n1_ n2_; intro HO458 HO461 HB; clear hg hw hp_))
     (try subst hji20)
     (try subst hji27)
     (try subst hji34)
     (try subst hji47)
     (try subst hji59)
     go_meet
     case rel => exact ⟨_, (y463), H', ⟨by have := HJ4.out; first | omega | exact Nat.le_refl _⟩, ⟨by (with_reducible repeat (first | apply S_alloc | apply S_drewN | apply S_drew)); exact HO461.out⟩, ⟨Short.hB HB⟩⟩
    rw [if_neg c26] at H
    have c26b0 : ((Int.tmod (u64.wrap (a3)) 5) == 1) = false := beq_eq_false_iff_ne.mpr c26
    have c26b1 : ((Int.tmod (u64.wrap (a3)) 5) != 1) = true := bne_iff_ne.mpr c26
    by_cases c33 : (Int.tmod (u64.wrap (a3)) 5) = 2
    ·
     rw [if_pos c33] at H
     have c33b0 : ((Int.tmod (u64.wrap (a3)) 5) == 2) = true := beq_iff_eq.mpr c33
     have c33b1 : ((Int.tmod (u64.wrap (a3)) 5) != 2) = false := bne_eq_false_iff_eq.mpr c33
     clear c33
     obtain ⟨ji34, hji34⟩ : ∃ j_ : Int, (wrap64 (Int.tmod (u64.wrap (a2)) (u64.wrap ((l0.length : Int))))) = j_ := ⟨_, rfl⟩
     replace H : (if 0 ≤ (ji34) then (if (ji34) < (t459.length : Int) then (if ((rd_T34 t459 (ji34)).f0) = 1 then (raddlelaw20_PlanBent.j1 kj4 l1 (t459.set ((ji34) : Int).toNat (⟨(rd_T34 t459 (ji34)).f0, (rd_T34 t459 (ji34)).f1, (rd_T34 t459 (ji34)).f2, (l1.length : Int), (⟨(rd_T34 t459 (ji34)).f4.f0, (rd_T34 t459 (ji34)).f4.f1, (rd_T34 t459 (ji34)).f4.f2, (⟨(rd_T34 t459 (ji34)).f4.f3.f0, (rd_T34 t459 (ji34)).f4.f3.f1, (rd_T34 t459 (ji34)).f4.f3.f2⟩ : S29)⟩ : S31), (rd_T34 t459 (ji34)).f5, (rd_T34 t459 (ji34)).f6, (rd_T34 t459 (ji34)).f7, (rd_T34 t459 (ji34)).f8⟩ : S34))) else (raddlelaw20_PlanBent.j1 kj4 l1 (t459.set ((ji34) : Int).toNat (⟨(rd_T34 t459 (ji34)).f0, ji34, (rd_T34 t459 (ji34)).f2, (rd_T34 t459 (ji34)).f3, (⟨(rd_T34 t459 (ji34)).f4.f0, (rd_T34 t459 (ji34)).f4.f1, (rd_T34 t459 (ji34)).f4.f2, (⟨(rd_T34 t459 (ji34)).f4.f3.f0, (rd_T34 t459 (ji34)).f4.f3.f1, (rd_T34 t459 (ji34)).f4.f3.f2⟩ : S29)⟩ : S31), (rd_T34 t459 (ji34)).f5, (rd_T34 t459 (ji34)).f6, (rd_T34 t459 (ji34)).f7, (rd_T34 t459 (ji34)).f8⟩ : S34)))) else (none)) else (none)) = some r := by first | (rw [hji34] at H; exact H) | (simp only [hji34] at H ⊢; exact H)
     have hji34w : (IntKind.i64.wrap (Int.tmod (u64.wrap (a2)) (u64.wrap ((l0.length : Int))))) = ji34 := (i64_w _).trans hji34
     by_cases c35 : 0 ≤ (ji34)
     rotate_left
     ·
      rw [if_neg c35] at H
      exact absurd H (by simp)
     rw [if_pos c35] at H
     have c35b0 : decide (0 ≤ (ji34)) = true := decide_eq_true c35
     clear c35
     by_cases c36 : (ji34) < (t459.length : Int)
     rotate_left
     ·
      rw [if_neg c36] at H
      exact absurd H (by simp)
     rw [if_pos c36] at H
     have c36b0 : decide ((ji34) < (t459.length : Int)) = true := decide_eq_true c36
     clear c36
     by_cases c37 : ((rd_T34 t459 (ji34)).f0) = 1
     rotate_left
     ·
      rw [if_neg c37] at H
      have c37b0 : (((rd_T34 t459 (ji34)).f0) == 1) = false := beq_eq_false_iff_ne.mpr c37
      have c37b1 : (((rd_T34 t459 (ji34)).f0) != 1) = true := bne_iff_ne.mpr c37
      obtain ⟨y466, hy466⟩ : ∃ y_ : List (S34), y_ = (t459.set ((ji34) : Int).toNat (⟨(rd_T34 t459 (ji34)).f0, ji34, (rd_T34 t459 (ji34)).f2, (rd_T34 t459 (ji34)).f3, (⟨(rd_T34 t459 (ji34)).f4.f0, (rd_T34 t459 (ji34)).f4.f1, (rd_T34 t459 (ji34)).f4.f2, (⟨(rd_T34 t459 (ji34)).f4.f3.f0, (rd_T34 t459 (ji34)).f4.f3.f1, (rd_T34 t459 (ji34)).f4.f3.f2⟩ : S29)⟩ : S31), (rd_T34 t459 (ji34)).f5, (rd_T34 t459 (ji34)).f6, (rd_T34 t459 (ji34)).f7, (rd_T34 t459 (ji34)).f8⟩ : S34)) := ⟨_, rfl⟩
      replace H : (raddlelaw20_PlanBent.j1 kj4 l1 y466) = some r := by first | (rw [hy466]; with_reducible exact H) | (have H2_ := (Option.bind_some _ _).symm.trans H; rw [hy466]; with_reducible exact H2_) | (have H2_ := (Option.bind_some _ _).symm.trans H; with_reducible exact H2_) | with_reducible exact H | (rw [hy466]; exact H) | exact H
      have Ny466 := mk_ hy466
      clear hy466
      have H' := mk_ H
      clear H
      obtain ⟨Ao43, co43, eo43⟩ := S_slice HO461.out
      subst eo43
      have p464 : 0 ≤ ((ji34) : Int) := of_decide_eq_true z2
      have q464 : (ji34) < (t459.length : Int) := of_decide_eq_true z2
      obtain ⟨ad464, A464_10, c464_10, A464_11, c464_11, e464, hx464_0, hx464_1, hx464_2, hx464_3, hx464_4, hx464_5, hx464_6, hx464_7, hx464_8, hx464_9, hx464_10, hx464_11, hx464_12, hx464_13, hl464_10, hi464_10, hl464_11, hi464_11⟩ := at_T34 (S_reads' HO461.out).2.2 (ji34) p464 q464
      cases e464
      obtain ⟨ce464, hce464, hMe464, hcc464⟩ := S_get HO461.out z34 (ji34) p464 (by first | exact q464 | exact of_decide_eq_true z2 | (have e_ := (S_reads' HO461.out).1; omega))
      obtain ⟨ve464_10, ve464_11, rfl, ge464_10, ge464_11⟩ := k34_openM hMe464
      have hv464_10 := hcc464 10 _ rfl
      rw [add_field _ _ 10 z5] at hv464_10
      replace hv464_10 := Option.some.inj (hv464_10.symm.trans hx464_10)
      rw [hv464_10] at ge464_10
      have HL464_10 := mk_ (show Kd.R (Kd.int .i64) 3 _ _ _ _ ((rd_T34 t459 (ji34)).f5) from ge464_10)
      clear hv464_10 ge464_10
      have hv464_11 := hcc464 11 _ rfl
      rw [add_field _ _ 11 z5] at hv464_11
      replace hv464_11 := Option.some.inj (hv464_11.symm.trans hx464_11)
      rw [hv464_11] at ge464_11
      have HL464_11 := mk_ (show Kd.R (Kd.int .i64) 3 _ _ _ _ ((rd_T34 t459 (ji34)).f6) from ge464_11)
      clear hv464_11 ge464_11
      clear hcc464 hce464
      have HR464_10 := mk_ hi464_10
      have HC464_10 := mk_ hl464_10
      clear hi464_10 hl464_10
      have HR464_11 := mk_ hi464_11
      have HC464_11 := mk_ hl464_11
      clear hi464_11 hl464_11
      replace p464 := eq_true p464
      replace q464 := eq_true q464
      have p42 : 0 ≤ ((ji34) : Int) := of_decide_eq_true z2
      have q42 : ((ji34) : Int) < ((t459.length : Int) : Int) := of_decide_eq_true z2
      obtain ⟨go42, co42, eo42, gb42, gl42, cl42, HG42⟩ := S_form HO461.out z5
      (first | cases eo42 | (injection eo42 with ea_ en_ ec_; (first | subst ea_ | (injection ea_ with ea_; subst ea_)); subst ec_; clear en_))
      have GB42 := mk_ gb42
      have GG42 := mk_ HG42
      clear gb42 gl42 HG42
      (first | simp only [add_plain] at hx464_0 | skip)
      (first | simp only [add_plain] at hx464_1 | skip)
      (first | simp only [add_plain] at hx464_2 | skip)
      (first | simp only [add_plain] at hx464_3 | skip)
      (first | simp only [add_plain] at hx464_4 | skip)
      (first | simp only [add_plain] at hx464_5 | skip)
      (first | simp only [add_plain] at hx464_6 | skip)
      (first | simp only [add_plain] at hx464_7 | skip)
      (first | simp only [add_plain] at hx464_8 | skip)
      (first | simp only [add_plain] at hx464_9 | skip)
      (first | simp only [add_plain] at hx464_10 | skip)
      (first | simp only [add_plain] at hx464_11 | skip)
      (first | simp only [add_plain] at hx464_12 | skip)
      (first | simp only [add_plain] at hx464_13 | skip)
      obtain ⟨_, ce42, hcl42, hM42, hcc42, hfr42, _, _⟩ := S_elem HO461.out z34 ((ji34) : Int) p42 q42
      obtain ⟨ve42_10, ve42_11, rfl, ge42_10, ge42_11⟩ := k34_openM hM42
      have hx42_0 : w18.cell? ⟨go42, ((ji34) : Int).toNat * 14, none⟩ = some (.int .i64 ((rd_T34 t459 (ji34)).f0)) := hcc42 0 _ rfl
      have hx42_1 : w18.cell? ⟨go42, ((ji34) : Int).toNat * 14 + 1, none⟩ = some (.int .i64 ((rd_T34 t459 (ji34)).f1)) := hcc42 1 _ rfl
      have hx42_2 : w18.cell? ⟨go42, ((ji34) : Int).toNat * 14 + 2, none⟩ = some (.int .i64 ((rd_T34 t459 (ji34)).f2)) := hcc42 2 _ rfl
      have hx42_3 : w18.cell? ⟨go42, ((ji34) : Int).toNat * 14 + 3, none⟩ = some (.int .i64 ((rd_T34 t459 (ji34)).f3)) := hcc42 3 _ rfl
      have hx42_4 : w18.cell? ⟨go42, ((ji34) : Int).toNat * 14 + 4, none⟩ = some (.int .i64 ((rd_T34 t459 (ji34)).f4.f0)) := hcc42 4 _ rfl
      have hx42_5 : w18.cell? ⟨go42, ((ji34) : Int).toNat * 14 + 5, none⟩ = some (.int .i64 ((rd_T34 t459 (ji34)).f4.f1)) := hcc42 5 _ rfl
      have hx42_6 : w18.cell? ⟨go42, ((ji34) : Int).toNat * 14 + 6, none⟩ = some (.int .i64 ((rd_T34 t459 (ji34)).f4.f2)) := hcc42 6 _ rfl
      have hx42_7 : w18.cell? ⟨go42, ((ji34) : Int).toNat * 14 + 7, none⟩ = some (.int .i64 ((rd_T34 t459 (ji34)).f4.f3.f0)) := hcc42 7 _ rfl
      have hx42_8 : w18.cell? ⟨go42, ((ji34) : Int).toNat * 14 + 8, none⟩ = some (.int .i64 ((rd_T34 t459 (ji34)).f4.f3.f1)) := hcc42 8 _ rfl
      have hx42_9 : w18.cell? ⟨go42, ((ji34) : Int).toNat * 14 + 9, none⟩ = some (.string ((rd_T34 t459 (ji34)).f4.f3.f2)) := hcc42 9 _ rfl
      have hx42_10 : w18.cell? ⟨go42, ((ji34) : Int).toNat * 14 + 10, none⟩ = some (ve42_10) := hcc42 10 _ rfl
      have hx42_11 : w18.cell? ⟨go42, ((ji34) : Int).toNat * 14 + 11, none⟩ = some (ve42_11) := hcc42 11 _ rfl
      have hx42_12 : w18.cell? ⟨go42, ((ji34) : Int).toNat * 14 + 12, none⟩ = some (.int .i64 ((rd_T34 t459 (ji34)).f7)) := hcc42 12 _ rfl
      have hx42_13 : w18.cell? ⟨go42, ((ji34) : Int).toNat * 14 + 13, none⟩ = some (.int .i64 ((rd_T34 t459 (ji34)).f8)) := hcc42 13 _ rfl
      have hf42_0 : w18.frozen? ⟨go42, ((ji34) : Int).toNat * 14, none⟩ = false := hfr42 0
      have hf42_1 : w18.frozen? ⟨go42, ((ji34) : Int).toNat * 14 + 1, none⟩ = false := hfr42 1
      have hf42_2 : w18.frozen? ⟨go42, ((ji34) : Int).toNat * 14 + 2, none⟩ = false := hfr42 2
      have hf42_3 : w18.frozen? ⟨go42, ((ji34) : Int).toNat * 14 + 3, none⟩ = false := hfr42 3
      have hf42_4 : w18.frozen? ⟨go42, ((ji34) : Int).toNat * 14 + 4, none⟩ = false := hfr42 4
      have hf42_5 : w18.frozen? ⟨go42, ((ji34) : Int).toNat * 14 + 5, none⟩ = false := hfr42 5
      have hf42_6 : w18.frozen? ⟨go42, ((ji34) : Int).toNat * 14 + 6, none⟩ = false := hfr42 6
      have hf42_7 : w18.frozen? ⟨go42, ((ji34) : Int).toNat * 14 + 7, none⟩ = false := hfr42 7
      have hf42_8 : w18.frozen? ⟨go42, ((ji34) : Int).toNat * 14 + 8, none⟩ = false := hfr42 8
      have hf42_9 : w18.frozen? ⟨go42, ((ji34) : Int).toNat * 14 + 9, none⟩ = false := hfr42 9
      have hf42_10 : w18.frozen? ⟨go42, ((ji34) : Int).toNat * 14 + 10, none⟩ = false := hfr42 10
      have hf42_11 : w18.frozen? ⟨go42, ((ji34) : Int).toNat * 14 + 11, none⟩ = false := hfr42 11
      have hf42_12 : w18.frozen? ⟨go42, ((ji34) : Int).toNat * 14 + 12, none⟩ = false := hfr42 12
      have hf42_13 : w18.frozen? ⟨go42, ((ji34) : Int).toNat * 14 + 13, none⟩ = false := hfr42 13
      clear hcl42 hcc42 hfr42 hM42
      replace p42 := eq_true p42
      replace q42 := eq_true q42
      have HX44 := mk_ (show Kd.S k34 34 w18 w.heap.size (fun k_ => ((fun _ => True)) k_ ∧ ¬ ((fun _ => False)) k_) (.slice (some ⟨go42, 0, none⟩) t459.length co43) t459 from (by (with_reducible repeat (first | apply S_alloc | apply S_drewN | apply S_drew)); exact S_mono HO461.out (fun k_ hk => ⟨trivial, fun e_ => e_⟩)))
      obtain ⟨oki44, ce44, hcl44, hM44, hcc44, hfr44, hoki44, hH44⟩ := S_elem HX44.out z34 ((ji34) : Int) (of_decide_eq_true z2) (by have h_ : ((ji34) : Int) < ((t459.length : Int) : Int) := of_decide_eq_true z2; first | exact h_ | (have e_ := (S_reads' HO461.out).1; omega) | simpa using h_)
      obtain ⟨ve44_10, ve44_11, rfl, ge44_10, ge44_11⟩ := k34_openM hM44
      have HP44 := S_seg hH44 (of_decide_eq_true z2) (by have h_ : ((ji34) : Int) < ((t459.length : Int) : Int) := of_decide_eq_true z2; first | exact h_ | (have e_ := (S_reads' HO461.out).1; omega) | simpa using h_) (seg := [.int .i64 ji34]) (j := 1) (show 2 ≤ 14 from by decide) (x' := (⟨(rd_T34 t459 (ji34)).f0, ji34, (rd_T34 t459 (ji34)).f2, (rd_T34 t459 (ji34)).f3, (⟨(rd_T34 t459 (ji34)).f4.f0, (rd_T34 t459 (ji34)).f4.f1, (rd_T34 t459 (ji34)).f4.f2, (⟨(rd_T34 t459 (ji34)).f4.f3.f0, (rd_T34 t459 (ji34)).f4.f3.f1, (rd_T34 t459 (ji34)).f4.f3.f2⟩ : S29)⟩ : S31), (rd_T34 t459 (ji34)).f5, (rd_T34 t459 (ji34)).f6, (rd_T34 t459 (ji34)).f7, (rd_T34 t459 (ji34)).f8⟩ : S34)) (k34_mkM _ _ _ (⟨(rd_T34 t459 (ji34)).f0, ji34, (rd_T34 t459 (ji34)).f2, (rd_T34 t459 (ji34)).f3, (⟨(rd_T34 t459 (ji34)).f4.f0, (rd_T34 t459 (ji34)).f4.f1, (rd_T34 t459 (ji34)).f4.f2, (⟨(rd_T34 t459 (ji34)).f4.f3.f0, (rd_T34 t459 (ji34)).f4.f3.f1, (rd_T34 t459 (ji34)).f4.f3.f2⟩ : S29)⟩ : S31), (rd_T34 t459 (ji34)).f5, (rd_T34 t459 (ji34)).f6, (rd_T34 t459 (ji34)).f7, (rd_T34 t459 (ji34)).f8⟩ : S34) (R_mono ge44_10 (fun _ h_ => Or.inl h_)) (R_mono ge44_11 (fun _ h_ => Or.inl h_))) (fun _ hk => hk) (fun k_ hk_ => hk_.elim)
      have hx44_1 := hcc44 1 _ rfl
      (try simp only [show (k34).sz = 14 from rfl, Nat.mul_one, Nat.add_zero] at hx44_1)
      have hf44_1 := hfr44 1
      (try simp only [show (k34).sz = 14 from rfl, Nat.mul_one, Nat.add_zero] at hf44_1)
      clear hcl44 hcc44 hfr44 hM44 hoki44 hH44
      go_wp2_with (first | ((with_reducible refine gate_store (t := 3) (p := 94) rfl ?_); refine store_event (t := 3) (p := 94) (v := ?vo_w45) (w1 := (w18.setCell ⟨go42, ((ji34) : Int).toNat * 14 + 1, none⟩ (.int .i64 ji34))) ?hg ?ho ?hn ?hr ?_; (case ho => rfl); (case hg => rfl); (case hn => rfl); (case hr => first | (go_simp; done) | (go_simp; rfl)); intro w45 hw; have hg : w18.grownBy w45 (some go42) := (by rw [hw]; exact HP44.2); have hp_ : Kd.S k34 34 w45 w.heap.size (fun _ => True) (.slice (some ⟨go42, 0, none⟩) t459.length co43) y466 := (by rw [hw, Ny466.out]; exact HP44.1); clear HP44; have n0_ := mk_ (S_over' (v := (.slice (some ⟨go42, 0, none⟩) t459.length co43)) (by (with_reducible repeat (first | apply S_alloc | apply S_drewN | apply S_drew)); exact HO458.out) (S_typed HO461.out) z11 hg); have n1_ := mk_ (hp_); have n2_ := mk_ (R_after (v := (.slice (some ⟨go42, 0, none⟩) t459.length co43)) (v1 := (.slice (some ⟨go42, 0, none⟩) t459.length co43)) (ok := (fun _ => True)) (ZKR HL464_10) hg (.inl rfl)); have n3_ := mk_ (R_after (v := (.slice (some ⟨go42, 0, none⟩) t459.length co43)) (v1 := (.slice (some ⟨go42, 0, none⟩) t459.length co43)) (ok := (fun _ => True)) (ZKR HL464_11) hg (.inl rfl)); have n4_ := mk_ ((by rw [hw]; exact below_set (HB.out) GB42.out : Below w.heap.size w w45)); clear HO458 HO461 HL464_10 HL464_11 HB; revert n0_ n1_ n2_ n3_ n4_; intro HO458 HO461 HL464_10 HL464_11 HB; clear hg hw hp_))
      (try subst hji20)
      (try subst hji27)
      (try subst hji34)
      (try subst hji47)
      (try subst hji59)
      go_meet
      case rel => exact ⟨_, (y466), H', ⟨by have := HJ4.out; first | omega | exact Nat.le_refl _⟩, ⟨by (with_reducible repeat (first | apply S_alloc | apply S_drewN | apply S_drew)); exact HO461.out⟩, ⟨Short.hB HB⟩⟩
     rw [if_pos c37] at H
     have c37b0 : (((rd_T34 t459 (ji34)).f0) == 1) = true := beq_iff_eq.mpr c37
     have c37b1 : (((rd_T34 t459 (ji34)).f0) != 1) = false := bne_eq_false_iff_eq.mpr c37
     clear c37
     obtain ⟨y465, hy465⟩ : ∃ y_ : List (S34), y_ = (t459.set ((ji34) : Int).toNat (⟨(rd_T34 t459 (ji34)).f0, (rd_T34 t459 (ji34)).f1, (rd_T34 t459 (ji34)).f2, (l1.length : Int), (⟨(rd_T34 t459 (ji34)).f4.f0, (rd_T34 t459 (ji34)).f4.f1, (rd_T34 t459 (ji34)).f4.f2, (⟨(rd_T34 t459 (ji34)).f4.f3.f0, (rd_T34 t459 (ji34)).f4.f3.f1, (rd_T34 t459 (ji34)).f4.f3.f2⟩ : S29)⟩ : S31), (rd_T34 t459 (ji34)).f5, (rd_T34 t459 (ji34)).f6, (rd_T34 t459 (ji34)).f7, (rd_T34 t459 (ji34)).f8⟩ : S34)) := ⟨_, rfl⟩
     replace H : (raddlelaw20_PlanBent.j1 kj4 l1 y465) = some r := by first | (rw [hy465]; with_reducible exact H) | (have H2_ := (Option.bind_some _ _).symm.trans H; rw [hy465]; with_reducible exact H2_) | (have H2_ := (Option.bind_some _ _).symm.trans H; with_reducible exact H2_) | with_reducible exact H | (rw [hy465]; exact H) | exact H
     have Ny465 := mk_ hy465
     clear hy465
     have H' := mk_ H
     clear H
     obtain ⟨Ao39, co39, eo39⟩ := S_slice HO461.out
     subst eo39
     have p464 : 0 ≤ ((ji34) : Int) := of_decide_eq_true z2
     have q464 : (ji34) < (t459.length : Int) := of_decide_eq_true z2
     obtain ⟨ad464, A464_10, c464_10, A464_11, c464_11, e464, hx464_0, hx464_1, hx464_2, hx464_3, hx464_4, hx464_5, hx464_6, hx464_7, hx464_8, hx464_9, hx464_10, hx464_11, hx464_12, hx464_13, hl464_10, hi464_10, hl464_11, hi464_11⟩ := at_T34 (S_reads' HO461.out).2.2 (ji34) p464 q464
     cases e464
     obtain ⟨ce464, hce464, hMe464, hcc464⟩ := S_get HO461.out z34 (ji34) p464 (by first | exact q464 | exact of_decide_eq_true z2 | (have e_ := (S_reads' HO461.out).1; omega))
     obtain ⟨ve464_10, ve464_11, rfl, ge464_10, ge464_11⟩ := k34_openM hMe464
     have hv464_10 := hcc464 10 _ rfl
     rw [add_field _ _ 10 z5] at hv464_10
     replace hv464_10 := Option.some.inj (hv464_10.symm.trans hx464_10)
     rw [hv464_10] at ge464_10
     have HL464_10 := mk_ (show Kd.R (Kd.int .i64) 3 _ _ _ _ ((rd_T34 t459 (ji34)).f5) from ge464_10)
     clear hv464_10 ge464_10
     have hv464_11 := hcc464 11 _ rfl
     rw [add_field _ _ 11 z5] at hv464_11
     replace hv464_11 := Option.some.inj (hv464_11.symm.trans hx464_11)
     rw [hv464_11] at ge464_11
     have HL464_11 := mk_ (show Kd.R (Kd.int .i64) 3 _ _ _ _ ((rd_T34 t459 (ji34)).f6) from ge464_11)
     clear hv464_11 ge464_11
     clear hcc464 hce464
     have HR464_10 := mk_ hi464_10
     have HC464_10 := mk_ hl464_10
     clear hi464_10 hl464_10
     have HR464_11 := mk_ hi464_11
     have HC464_11 := mk_ hl464_11
     clear hi464_11 hl464_11
     replace p464 := eq_true p464
     replace q464 := eq_true q464
     have p38 : 0 ≤ ((ji34) : Int) := of_decide_eq_true z2
     have q38 : ((ji34) : Int) < ((t459.length : Int) : Int) := of_decide_eq_true z2
     obtain ⟨go38, co38, eo38, gb38, gl38, cl38, HG38⟩ := S_form HO461.out z5
     (first | cases eo38 | (injection eo38 with ea_ en_ ec_; (first | subst ea_ | (injection ea_ with ea_; subst ea_)); subst ec_; clear en_))
     have GB38 := mk_ gb38
     have GG38 := mk_ HG38
     clear gb38 gl38 HG38
     (first | simp only [add_plain] at hx464_0 | skip)
     (first | simp only [add_plain] at hx464_1 | skip)
     (first | simp only [add_plain] at hx464_2 | skip)
     (first | simp only [add_plain] at hx464_3 | skip)
     (first | simp only [add_plain] at hx464_4 | skip)
     (first | simp only [add_plain] at hx464_5 | skip)
     (first | simp only [add_plain] at hx464_6 | skip)
     (first | simp only [add_plain] at hx464_7 | skip)
     (first | simp only [add_plain] at hx464_8 | skip)
     (first | simp only [add_plain] at hx464_9 | skip)
     (first | simp only [add_plain] at hx464_10 | skip)
     (first | simp only [add_plain] at hx464_11 | skip)
     (first | simp only [add_plain] at hx464_12 | skip)
     (first | simp only [add_plain] at hx464_13 | skip)
     obtain ⟨_, ce38, hcl38, hM38, hcc38, hfr38, _, _⟩ := S_elem HO461.out z34 ((ji34) : Int) p38 q38
     obtain ⟨ve38_10, ve38_11, rfl, ge38_10, ge38_11⟩ := k34_openM hM38
     have hx38_0 : w18.cell? ⟨go38, ((ji34) : Int).toNat * 14, none⟩ = some (.int .i64 ((rd_T34 t459 (ji34)).f0)) := hcc38 0 _ rfl
     have hx38_1 : w18.cell? ⟨go38, ((ji34) : Int).toNat * 14 + 1, none⟩ = some (.int .i64 ((rd_T34 t459 (ji34)).f1)) := hcc38 1 _ rfl
     have hx38_2 : w18.cell? ⟨go38, ((ji34) : Int).toNat * 14 + 2, none⟩ = some (.int .i64 ((rd_T34 t459 (ji34)).f2)) := hcc38 2 _ rfl
     have hx38_3 : w18.cell? ⟨go38, ((ji34) : Int).toNat * 14 + 3, none⟩ = some (.int .i64 ((rd_T34 t459 (ji34)).f3)) := hcc38 3 _ rfl
     have hx38_4 : w18.cell? ⟨go38, ((ji34) : Int).toNat * 14 + 4, none⟩ = some (.int .i64 ((rd_T34 t459 (ji34)).f4.f0)) := hcc38 4 _ rfl
     have hx38_5 : w18.cell? ⟨go38, ((ji34) : Int).toNat * 14 + 5, none⟩ = some (.int .i64 ((rd_T34 t459 (ji34)).f4.f1)) := hcc38 5 _ rfl
     have hx38_6 : w18.cell? ⟨go38, ((ji34) : Int).toNat * 14 + 6, none⟩ = some (.int .i64 ((rd_T34 t459 (ji34)).f4.f2)) := hcc38 6 _ rfl
     have hx38_7 : w18.cell? ⟨go38, ((ji34) : Int).toNat * 14 + 7, none⟩ = some (.int .i64 ((rd_T34 t459 (ji34)).f4.f3.f0)) := hcc38 7 _ rfl
     have hx38_8 : w18.cell? ⟨go38, ((ji34) : Int).toNat * 14 + 8, none⟩ = some (.int .i64 ((rd_T34 t459 (ji34)).f4.f3.f1)) := hcc38 8 _ rfl
     have hx38_9 : w18.cell? ⟨go38, ((ji34) : Int).toNat * 14 + 9, none⟩ = some (.string ((rd_T34 t459 (ji34)).f4.f3.f2)) := hcc38 9 _ rfl
     have hx38_10 : w18.cell? ⟨go38, ((ji34) : Int).toNat * 14 + 10, none⟩ = some (ve38_10) := hcc38 10 _ rfl
     have hx38_11 : w18.cell? ⟨go38, ((ji34) : Int).toNat * 14 + 11, none⟩ = some (ve38_11) := hcc38 11 _ rfl
     have hx38_12 : w18.cell? ⟨go38, ((ji34) : Int).toNat * 14 + 12, none⟩ = some (.int .i64 ((rd_T34 t459 (ji34)).f7)) := hcc38 12 _ rfl
     have hx38_13 : w18.cell? ⟨go38, ((ji34) : Int).toNat * 14 + 13, none⟩ = some (.int .i64 ((rd_T34 t459 (ji34)).f8)) := hcc38 13 _ rfl
     have hf38_0 : w18.frozen? ⟨go38, ((ji34) : Int).toNat * 14, none⟩ = false := hfr38 0
     have hf38_1 : w18.frozen? ⟨go38, ((ji34) : Int).toNat * 14 + 1, none⟩ = false := hfr38 1
     have hf38_2 : w18.frozen? ⟨go38, ((ji34) : Int).toNat * 14 + 2, none⟩ = false := hfr38 2
     have hf38_3 : w18.frozen? ⟨go38, ((ji34) : Int).toNat * 14 + 3, none⟩ = false := hfr38 3
     have hf38_4 : w18.frozen? ⟨go38, ((ji34) : Int).toNat * 14 + 4, none⟩ = false := hfr38 4
     have hf38_5 : w18.frozen? ⟨go38, ((ji34) : Int).toNat * 14 + 5, none⟩ = false := hfr38 5
     have hf38_6 : w18.frozen? ⟨go38, ((ji34) : Int).toNat * 14 + 6, none⟩ = false := hfr38 6
     have hf38_7 : w18.frozen? ⟨go38, ((ji34) : Int).toNat * 14 + 7, none⟩ = false := hfr38 7
     have hf38_8 : w18.frozen? ⟨go38, ((ji34) : Int).toNat * 14 + 8, none⟩ = false := hfr38 8
     have hf38_9 : w18.frozen? ⟨go38, ((ji34) : Int).toNat * 14 + 9, none⟩ = false := hfr38 9
     have hf38_10 : w18.frozen? ⟨go38, ((ji34) : Int).toNat * 14 + 10, none⟩ = false := hfr38 10
     have hf38_11 : w18.frozen? ⟨go38, ((ji34) : Int).toNat * 14 + 11, none⟩ = false := hfr38 11
     have hf38_12 : w18.frozen? ⟨go38, ((ji34) : Int).toNat * 14 + 12, none⟩ = false := hfr38 12
     have hf38_13 : w18.frozen? ⟨go38, ((ji34) : Int).toNat * 14 + 13, none⟩ = false := hfr38 13
     clear hcl38 hcc38 hfr38 hM38
     replace p38 := eq_true p38
     replace q38 := eq_true q38
     have HX40 := mk_ (show Kd.S k34 34 w18 w.heap.size (fun k_ => ((fun _ => True)) k_ ∧ ¬ ((fun _ => False)) k_) (.slice (some ⟨go38, 0, none⟩) t459.length co39) t459 from (by (with_reducible repeat (first | apply S_alloc | apply S_drewN | apply S_drew)); exact S_mono HO461.out (fun k_ hk => ⟨trivial, fun e_ => e_⟩)))
     obtain ⟨oki40, ce40, hcl40, hM40, hcc40, hfr40, hoki40, hH40⟩ := S_elem HX40.out z34 ((ji34) : Int) (of_decide_eq_true z2) (by have h_ : ((ji34) : Int) < ((t459.length : Int) : Int) := of_decide_eq_true z2; first | exact h_ | (have e_ := (S_reads' HO461.out).1; omega) | simpa using h_)
     obtain ⟨ve40_10, ve40_11, rfl, ge40_10, ge40_11⟩ := k34_openM hM40
     have HP40 := S_seg hH40 (of_decide_eq_true z2) (by have h_ : ((ji34) : Int) < ((t459.length : Int) : Int) := of_decide_eq_true z2; first | exact h_ | (have e_ := (S_reads' HO461.out).1; omega) | simpa using h_) (seg := [.int .i64 (l1.length : Int)]) (j := 3) (show 4 ≤ 14 from by decide) (x' := (⟨(rd_T34 t459 (ji34)).f0, (rd_T34 t459 (ji34)).f1, (rd_T34 t459 (ji34)).f2, (l1.length : Int), (⟨(rd_T34 t459 (ji34)).f4.f0, (rd_T34 t459 (ji34)).f4.f1, (rd_T34 t459 (ji34)).f4.f2, (⟨(rd_T34 t459 (ji34)).f4.f3.f0, (rd_T34 t459 (ji34)).f4.f3.f1, (rd_T34 t459 (ji34)).f4.f3.f2⟩ : S29)⟩ : S31), (rd_T34 t459 (ji34)).f5, (rd_T34 t459 (ji34)).f6, (rd_T34 t459 (ji34)).f7, (rd_T34 t459 (ji34)).f8⟩ : S34)) (k34_mkM _ _ _ (⟨(rd_T34 t459 (ji34)).f0, (rd_T34 t459 (ji34)).f1, (rd_T34 t459 (ji34)).f2, (l1.length : Int), (⟨(rd_T34 t459 (ji34)).f4.f0, (rd_T34 t459 (ji34)).f4.f1, (rd_T34 t459 (ji34)).f4.f2, (⟨(rd_T34 t459 (ji34)).f4.f3.f0, (rd_T34 t459 (ji34)).f4.f3.f1, (rd_T34 t459 (ji34)).f4.f3.f2⟩ : S29)⟩ : S31), (rd_T34 t459 (ji34)).f5, (rd_T34 t459 (ji34)).f6, (rd_T34 t459 (ji34)).f7, (rd_T34 t459 (ji34)).f8⟩ : S34) (R_mono ge40_10 (fun _ h_ => Or.inl h_)) (R_mono ge40_11 (fun _ h_ => Or.inl h_))) (fun _ hk => hk) (fun k_ hk_ => hk_.elim)
     have hx40_3 := hcc40 3 _ rfl
     (try simp only [show (k34).sz = 14 from rfl, Nat.mul_one, Nat.add_zero] at hx40_3)
     have hf40_3 := hfr40 3
     (try simp only [show (k34).sz = 14 from rfl, Nat.mul_one, Nat.add_zero] at hf40_3)
     clear hcl40 hcc40 hfr40 hM40 hoki40 hH40
     go_wp2_with (first | ((with_reducible refine gate_store (t := 3) (p := 89) rfl ?_); refine store_event (t := 3) (p := 89) (v := ?vo_w41) (w1 := (w18.setCell ⟨go38, ((ji34) : Int).toNat * 14 + 3, none⟩ (.int .i64 (l1.length : Int)))) ?hg ?ho ?hn ?hr ?_; (case ho => rfl); (case hg => rfl); (case hn => rfl); (case hr => first | (go_simp; done) | (go_simp; rfl)); intro w41 hw; have hg : w18.grownBy w41 (some go38) := (by rw [hw]; exact HP40.2); have hp_ : Kd.S k34 34 w41 w.heap.size (fun _ => True) (.slice (some ⟨go38, 0, none⟩) t459.length co39) y465 := (by rw [hw, Ny465.out]; exact HP40.1); clear HP40; have n0_ := mk_ (S_over' (v := (.slice (some ⟨go38, 0, none⟩) t459.length co39)) (by (with_reducible repeat (first | apply S_alloc | apply S_drewN | apply S_drew)); exact HO458.out) (S_typed HO461.out) z11 hg); have n1_ := mk_ (hp_); have n2_ := mk_ (R_after (v := (.slice (some ⟨go38, 0, none⟩) t459.length co39)) (v1 := (.slice (some ⟨go38, 0, none⟩) t459.length co39)) (ok := (fun _ => True)) (ZKR HL464_10) hg (.inl rfl)); have n3_ := mk_ (R_after (v := (.slice (some ⟨go38, 0, none⟩) t459.length co39)) (v1 := (.slice (some ⟨go38, 0, none⟩) t459.length co39)) (ok := (fun _ => True)) (ZKR HL464_11) hg (.inl rfl)); have n4_ := mk_ ((by rw [hw]; exact below_set (HB.out) GB38.out : Below w.heap.size w w41)); clear HO458 HO461 HL464_10 HL464_11 HB; revert n0_ n1_ n2_ n3_ n4_; intro HO458 HO461 HL464_10 HL464_11 HB; clear hg hw hp_))
     (try subst hji20)
     (try subst hji27)
     (try subst hji34)
     (try subst hji47)
     (try subst hji59)
     go_meet
     case rel => exact ⟨_, (y465), H', ⟨by have := HJ4.out; first | omega | exact Nat.le_refl _⟩, ⟨by (with_reducible repeat (first | apply S_alloc | apply S_drewN | apply S_drew)); exact HO461.out⟩, ⟨Short.hB HB⟩⟩
    rw [if_neg c33] at H
    have c33b0 : ((Int.tmod (u64.wrap (a3)) 5) == 2) = false := beq_eq_false_iff_ne.mpr c33
    have c33b1 : ((Int.tmod (u64.wrap (a3)) 5) != 2) = true := bne_iff_ne.mpr c33
    by_cases c46 : (Int.tmod (u64.wrap (a3)) 5) = 3
    ·
     rw [if_pos c46] at H
     have c46b0 : ((Int.tmod (u64.wrap (a3)) 5) == 3) = true := beq_iff_eq.mpr c46
     have c46b1 : ((Int.tmod (u64.wrap (a3)) 5) != 3) = false := bne_eq_false_iff_eq.mpr c46
     clear c46
     obtain ⟨ji47, hji47⟩ : ∃ j_ : Int, (wrap64 (Int.tmod (u64.wrap (a2)) (u64.wrap ((l0.length : Int))))) = j_ := ⟨_, rfl⟩
     replace H : (if 0 ≤ (ji47) then (if (ji47) < (t459.length : Int) then (if ((rd_T34 t459 (ji47)).f0) = 1 then (raddlelaw20_PlanBent.j1 kj4 l1 (t459.set ((ji47) : Int).toNat (⟨(rd_T34 t459 (ji47)).f0, (rd_T34 t459 (ji47)).f1, (rd_T34 t459 (ji47)).f2, (-1), (⟨(rd_T34 t459 (ji47)).f4.f0, (rd_T34 t459 (ji47)).f4.f1, (rd_T34 t459 (ji47)).f4.f2, (⟨(rd_T34 t459 (ji47)).f4.f3.f0, (rd_T34 t459 (ji47)).f4.f3.f1, (rd_T34 t459 (ji47)).f4.f3.f2⟩ : S29)⟩ : S31), (rd_T34 t459 (ji47)).f5, (rd_T34 t459 (ji47)).f6, (rd_T34 t459 (ji47)).f7, (rd_T34 t459 (ji47)).f8⟩ : S34))) else (raddlelaw20_PlanBent.j1 kj4 l1 (t459.set ((ji47) : Int).toNat (⟨(rd_T34 t459 (ji47)).f0, (-1), (rd_T34 t459 (ji47)).f2, (rd_T34 t459 (ji47)).f3, (⟨(rd_T34 t459 (ji47)).f4.f0, (rd_T34 t459 (ji47)).f4.f1, (rd_T34 t459 (ji47)).f4.f2, (⟨(rd_T34 t459 (ji47)).f4.f3.f0, (rd_T34 t459 (ji47)).f4.f3.f1, (rd_T34 t459 (ji47)).f4.f3.f2⟩ : S29)⟩ : S31), (rd_T34 t459 (ji47)).f5, (rd_T34 t459 (ji47)).f6, (rd_T34 t459 (ji47)).f7, (rd_T34 t459 (ji47)).f8⟩ : S34)))) else (none)) else (none)) = some r := by first | (rw [hji47] at H; exact H) | (simp only [hji47] at H ⊢; exact H)
     have hji47w : (IntKind.i64.wrap (Int.tmod (u64.wrap (a2)) (u64.wrap ((l0.length : Int))))) = ji47 := (i64_w _).trans hji47
     by_cases c48 : 0 ≤ (ji47)
     rotate_left
     ·
      rw [if_neg c48] at H
      exact absurd H (by simp)
     rw [if_pos c48] at H
     have c48b0 : decide (0 ≤ (ji47)) = true := decide_eq_true c48
     clear c48
     by_cases c49 : (ji47) < (t459.length : Int)
     rotate_left
     ·
      rw [if_neg c49] at H
      exact absurd H (by simp)
     rw [if_pos c49] at H
     have c49b0 : decide ((ji47) < (t459.length : Int)) = true := decide_eq_true c49
     clear c49
     by_cases c50 : ((rd_T34 t459 (ji47)).f0) = 1
     rotate_left
     ·
      rw [if_neg c50] at H
      have c50b0 : (((rd_T34 t459 (ji47)).f0) == 1) = false := beq_eq_false_iff_ne.mpr c50
      have c50b1 : (((rd_T34 t459 (ji47)).f0) != 1) = true := bne_iff_ne.mpr c50
      obtain ⟨y469, hy469⟩ : ∃ y_ : List (S34), y_ = (t459.set ((ji47) : Int).toNat (⟨(rd_T34 t459 (ji47)).f0, (-1), (rd_T34 t459 (ji47)).f2, (rd_T34 t459 (ji47)).f3, (⟨(rd_T34 t459 (ji47)).f4.f0, (rd_T34 t459 (ji47)).f4.f1, (rd_T34 t459 (ji47)).f4.f2, (⟨(rd_T34 t459 (ji47)).f4.f3.f0, (rd_T34 t459 (ji47)).f4.f3.f1, (rd_T34 t459 (ji47)).f4.f3.f2⟩ : S29)⟩ : S31), (rd_T34 t459 (ji47)).f5, (rd_T34 t459 (ji47)).f6, (rd_T34 t459 (ji47)).f7, (rd_T34 t459 (ji47)).f8⟩ : S34)) := ⟨_, rfl⟩
      replace H : (raddlelaw20_PlanBent.j1 kj4 l1 y469) = some r := by first | (rw [hy469]; with_reducible exact H) | (have H2_ := (Option.bind_some _ _).symm.trans H; rw [hy469]; with_reducible exact H2_) | (have H2_ := (Option.bind_some _ _).symm.trans H; with_reducible exact H2_) | with_reducible exact H | (rw [hy469]; exact H) | exact H
      have Ny469 := mk_ hy469
      clear hy469
      have H' := mk_ H
      clear H
      obtain ⟨Ao56, co56, eo56⟩ := S_slice HO461.out
      subst eo56
      have p467 : 0 ≤ ((ji47) : Int) := of_decide_eq_true z2
      have q467 : (ji47) < (t459.length : Int) := of_decide_eq_true z2
      obtain ⟨ad467, A467_10, c467_10, A467_11, c467_11, e467, hx467_0, hx467_1, hx467_2, hx467_3, hx467_4, hx467_5, hx467_6, hx467_7, hx467_8, hx467_9, hx467_10, hx467_11, hx467_12, hx467_13, hl467_10, hi467_10, hl467_11, hi467_11⟩ := at_T34 (S_reads' HO461.out).2.2 (ji47) p467 q467
      cases e467
      obtain ⟨ce467, hce467, hMe467, hcc467⟩ := S_get HO461.out z34 (ji47) p467 (by first | exact q467 | exact of_decide_eq_true z2 | (have e_ := (S_reads' HO461.out).1; omega))
      obtain ⟨ve467_10, ve467_11, rfl, ge467_10, ge467_11⟩ := k34_openM hMe467
      have hv467_10 := hcc467 10 _ rfl
      rw [add_field _ _ 10 z5] at hv467_10
      replace hv467_10 := Option.some.inj (hv467_10.symm.trans hx467_10)
      rw [hv467_10] at ge467_10
      have HL467_10 := mk_ (show Kd.R (Kd.int .i64) 3 _ _ _ _ ((rd_T34 t459 (ji47)).f5) from ge467_10)
      clear hv467_10 ge467_10
      have hv467_11 := hcc467 11 _ rfl
      rw [add_field _ _ 11 z5] at hv467_11
      replace hv467_11 := Option.some.inj (hv467_11.symm.trans hx467_11)
      rw [hv467_11] at ge467_11
      have HL467_11 := mk_ (show Kd.R (Kd.int .i64) 3 _ _ _ _ ((rd_T34 t459 (ji47)).f6) from ge467_11)
      clear hv467_11 ge467_11
      clear hcc467 hce467
      have HR467_10 := mk_ hi467_10
      have HC467_10 := mk_ hl467_10
      clear hi467_10 hl467_10
      have HR467_11 := mk_ hi467_11
      have HC467_11 := mk_ hl467_11
      clear hi467_11 hl467_11
      replace p467 := eq_true p467
      replace q467 := eq_true q467
      have p55 : 0 ≤ ((ji47) : Int) := of_decide_eq_true z2
      have q55 : ((ji47) : Int) < ((t459.length : Int) : Int) := of_decide_eq_true z2
      obtain ⟨go55, co55, eo55, gb55, gl55, cl55, HG55⟩ := S_form HO461.out z5
      (first | cases eo55 | (injection eo55 with ea_ en_ ec_; (first | subst ea_ | (injection ea_ with ea_; subst ea_)); subst ec_; clear en_))
      have GB55 := mk_ gb55
      have GG55 := mk_ HG55
      clear gb55 gl55 HG55
      (first | simp only [add_plain] at hx467_0 | skip)
      (first | simp only [add_plain] at hx467_1 | skip)
      (first | simp only [add_plain] at hx467_2 | skip)
      (first | simp only [add_plain] at hx467_3 | skip)
      (first | simp only [add_plain] at hx467_4 | skip)
      (first | simp only [add_plain] at hx467_5 | skip)
      (first | simp only [add_plain] at hx467_6 | skip)
      (first | simp only [add_plain] at hx467_7 | skip)
      (first | simp only [add_plain] at hx467_8 | skip)
      (first | simp only [add_plain] at hx467_9 | skip)
      (first | simp only [add_plain] at hx467_10 | skip)
      (first | simp only [add_plain] at hx467_11 | skip)
      (first | simp only [add_plain] at hx467_12 | skip)
      (first | simp only [add_plain] at hx467_13 | skip)
      obtain ⟨_, ce55, hcl55, hM55, hcc55, hfr55, _, _⟩ := S_elem HO461.out z34 ((ji47) : Int) p55 q55
      obtain ⟨ve55_10, ve55_11, rfl, ge55_10, ge55_11⟩ := k34_openM hM55
      have hx55_0 : w18.cell? ⟨go55, ((ji47) : Int).toNat * 14, none⟩ = some (.int .i64 ((rd_T34 t459 (ji47)).f0)) := hcc55 0 _ rfl
      have hx55_1 : w18.cell? ⟨go55, ((ji47) : Int).toNat * 14 + 1, none⟩ = some (.int .i64 ((rd_T34 t459 (ji47)).f1)) := hcc55 1 _ rfl
      have hx55_2 : w18.cell? ⟨go55, ((ji47) : Int).toNat * 14 + 2, none⟩ = some (.int .i64 ((rd_T34 t459 (ji47)).f2)) := hcc55 2 _ rfl
      have hx55_3 : w18.cell? ⟨go55, ((ji47) : Int).toNat * 14 + 3, none⟩ = some (.int .i64 ((rd_T34 t459 (ji47)).f3)) := hcc55 3 _ rfl
      have hx55_4 : w18.cell? ⟨go55, ((ji47) : Int).toNat * 14 + 4, none⟩ = some (.int .i64 ((rd_T34 t459 (ji47)).f4.f0)) := hcc55 4 _ rfl
      have hx55_5 : w18.cell? ⟨go55, ((ji47) : Int).toNat * 14 + 5, none⟩ = some (.int .i64 ((rd_T34 t459 (ji47)).f4.f1)) := hcc55 5 _ rfl
      have hx55_6 : w18.cell? ⟨go55, ((ji47) : Int).toNat * 14 + 6, none⟩ = some (.int .i64 ((rd_T34 t459 (ji47)).f4.f2)) := hcc55 6 _ rfl
      have hx55_7 : w18.cell? ⟨go55, ((ji47) : Int).toNat * 14 + 7, none⟩ = some (.int .i64 ((rd_T34 t459 (ji47)).f4.f3.f0)) := hcc55 7 _ rfl
      have hx55_8 : w18.cell? ⟨go55, ((ji47) : Int).toNat * 14 + 8, none⟩ = some (.int .i64 ((rd_T34 t459 (ji47)).f4.f3.f1)) := hcc55 8 _ rfl
      have hx55_9 : w18.cell? ⟨go55, ((ji47) : Int).toNat * 14 + 9, none⟩ = some (.string ((rd_T34 t459 (ji47)).f4.f3.f2)) := hcc55 9 _ rfl
      have hx55_10 : w18.cell? ⟨go55, ((ji47) : Int).toNat * 14 + 10, none⟩ = some (ve55_10) := hcc55 10 _ rfl
      have hx55_11 : w18.cell? ⟨go55, ((ji47) : Int).toNat * 14 + 11, none⟩ = some (ve55_11) := hcc55 11 _ rfl
      have hx55_12 : w18.cell? ⟨go55, ((ji47) : Int).toNat * 14 + 12, none⟩ = some (.int .i64 ((rd_T34 t459 (ji47)).f7)) := hcc55 12 _ rfl
      have hx55_13 : w18.cell? ⟨go55, ((ji47) : Int).toNat * 14 + 13, none⟩ = some (.int .i64 ((rd_T34 t459 (ji47)).f8)) := hcc55 13 _ rfl
      have hf55_0 : w18.frozen? ⟨go55, ((ji47) : Int).toNat * 14, none⟩ = false := hfr55 0
      have hf55_1 : w18.frozen? ⟨go55, ((ji47) : Int).toNat * 14 + 1, none⟩ = false := hfr55 1
      have hf55_2 : w18.frozen? ⟨go55, ((ji47) : Int).toNat * 14 + 2, none⟩ = false := hfr55 2
      have hf55_3 : w18.frozen? ⟨go55, ((ji47) : Int).toNat * 14 + 3, none⟩ = false := hfr55 3
      have hf55_4 : w18.frozen? ⟨go55, ((ji47) : Int).toNat * 14 + 4, none⟩ = false := hfr55 4
      have hf55_5 : w18.frozen? ⟨go55, ((ji47) : Int).toNat * 14 + 5, none⟩ = false := hfr55 5
      have hf55_6 : w18.frozen? ⟨go55, ((ji47) : Int).toNat * 14 + 6, none⟩ = false := hfr55 6
      have hf55_7 : w18.frozen? ⟨go55, ((ji47) : Int).toNat * 14 + 7, none⟩ = false := hfr55 7
      have hf55_8 : w18.frozen? ⟨go55, ((ji47) : Int).toNat * 14 + 8, none⟩ = false := hfr55 8
      have hf55_9 : w18.frozen? ⟨go55, ((ji47) : Int).toNat * 14 + 9, none⟩ = false := hfr55 9
      have hf55_10 : w18.frozen? ⟨go55, ((ji47) : Int).toNat * 14 + 10, none⟩ = false := hfr55 10
      have hf55_11 : w18.frozen? ⟨go55, ((ji47) : Int).toNat * 14 + 11, none⟩ = false := hfr55 11
      have hf55_12 : w18.frozen? ⟨go55, ((ji47) : Int).toNat * 14 + 12, none⟩ = false := hfr55 12
      have hf55_13 : w18.frozen? ⟨go55, ((ji47) : Int).toNat * 14 + 13, none⟩ = false := hfr55 13
      clear hcl55 hcc55 hfr55 hM55
      replace p55 := eq_true p55
      replace q55 := eq_true q55
      have HX57 := mk_ (show Kd.S k34 34 w18 w.heap.size (fun k_ => ((fun _ => True)) k_ ∧ ¬ ((fun _ => False)) k_) (.slice (some ⟨go55, 0, none⟩) t459.length co56) t459 from (by (with_reducible repeat (first | apply S_alloc | apply S_drewN | apply S_drew)); exact S_mono HO461.out (fun k_ hk => ⟨trivial, fun e_ => e_⟩)))
      obtain ⟨oki57, ce57, hcl57, hM57, hcc57, hfr57, hoki57, hH57⟩ := S_elem HX57.out z34 ((ji47) : Int) (of_decide_eq_true z2) (by have h_ : ((ji47) : Int) < ((t459.length : Int) : Int) := of_decide_eq_true z2; first | exact h_ | (have e_ := (S_reads' HO461.out).1; omega) | simpa using h_)
      obtain ⟨ve57_10, ve57_11, rfl, ge57_10, ge57_11⟩ := k34_openM hM57
      have HP57 := S_seg hH57 (of_decide_eq_true z2) (by have h_ : ((ji47) : Int) < ((t459.length : Int) : Int) := of_decide_eq_true z2; first | exact h_ | (have e_ := (S_reads' HO461.out).1; omega) | simpa using h_) (seg := [.int .i64 (-1)]) (j := 1) (show 2 ≤ 14 from by decide) (x' := (⟨(rd_T34 t459 (ji47)).f0, (-1), (rd_T34 t459 (ji47)).f2, (rd_T34 t459 (ji47)).f3, (⟨(rd_T34 t459 (ji47)).f4.f0, (rd_T34 t459 (ji47)).f4.f1, (rd_T34 t459 (ji47)).f4.f2, (⟨(rd_T34 t459 (ji47)).f4.f3.f0, (rd_T34 t459 (ji47)).f4.f3.f1, (rd_T34 t459 (ji47)).f4.f3.f2⟩ : S29)⟩ : S31), (rd_T34 t459 (ji47)).f5, (rd_T34 t459 (ji47)).f6, (rd_T34 t459 (ji47)).f7, (rd_T34 t459 (ji47)).f8⟩ : S34)) (k34_mkM _ _ _ (⟨(rd_T34 t459 (ji47)).f0, (-1), (rd_T34 t459 (ji47)).f2, (rd_T34 t459 (ji47)).f3, (⟨(rd_T34 t459 (ji47)).f4.f0, (rd_T34 t459 (ji47)).f4.f1, (rd_T34 t459 (ji47)).f4.f2, (⟨(rd_T34 t459 (ji47)).f4.f3.f0, (rd_T34 t459 (ji47)).f4.f3.f1, (rd_T34 t459 (ji47)).f4.f3.f2⟩ : S29)⟩ : S31), (rd_T34 t459 (ji47)).f5, (rd_T34 t459 (ji47)).f6, (rd_T34 t459 (ji47)).f7, (rd_T34 t459 (ji47)).f8⟩ : S34) (R_mono ge57_10 (fun _ h_ => Or.inl h_)) (R_mono ge57_11 (fun _ h_ => Or.inl h_))) (fun _ hk => hk) (fun k_ hk_ => hk_.elim)
      have hx57_1 := hcc57 1 _ rfl
      (try simp only [show (k34).sz = 14 from rfl, Nat.mul_one, Nat.add_zero] at hx57_1)
      have hf57_1 := hfr57 1
      (try simp only [show (k34).sz = 14 from rfl, Nat.mul_one, Nat.add_zero] at hf57_1)
      clear hcl57 hcc57 hfr57 hM57 hoki57 hH57
      go_wp2_with (first | ((with_reducible refine gate_store (t := 3) (p := 110) rfl ?_); refine store_event (t := 3) (p := 110) (v := ?vo_w58) (w1 := (w18.setCell ⟨go55, ((ji47) : Int).toNat * 14 + 1, none⟩ (.int .i64 (-1)))) ?hg ?ho ?hn ?hr ?_; (case ho => rfl); (case hg => rfl); (case hn => rfl); (case hr => first | (go_simp; done) | (go_simp; rfl)); intro w58 hw; have hg : w18.grownBy w58 (some go55) := (by rw [hw]; exact HP57.2); have hp_ : Kd.S k34 34 w58 w.heap.size (fun _ => True) (.slice (some ⟨go55, 0, none⟩) t459.length co56) y469 := (by rw [hw, Ny469.out]; exact HP57.1); clear HP57; have n0_ := mk_ (S_over' (v := (.slice (some ⟨go55, 0, none⟩) t459.length co56)) (by (with_reducible repeat (first | apply S_alloc | apply S_drewN | apply S_drew)); exact HO458.out) (S_typed HO461.out) z11 hg); have n1_ := mk_ (hp_); have n2_ := mk_ (R_after (v := (.slice (some ⟨go55, 0, none⟩) t459.length co56)) (v1 := (.slice (some ⟨go55, 0, none⟩) t459.length co56)) (ok := (fun _ => True)) (ZKR HL467_10) hg (.inl rfl)); have n3_ := mk_ (R_after (v := (.slice (some ⟨go55, 0, none⟩) t459.length co56)) (v1 := (.slice (some ⟨go55, 0, none⟩) t459.length co56)) (ok := (fun _ => True)) (ZKR HL467_11) hg (.inl rfl)); have n4_ := mk_ ((by rw [hw]; exact below_set (HB.out) GB55.out : Below w.heap.size w w58)); clear HO458 HO461 HL467_10 HL467_11 HB; revert n0_ n1_ n2_ n3_ n4_; intro HO458 HO461 HL467_10 HL467_11 HB; clear hg hw hp_))
      (try subst hji20)
      (try subst hji27)
      (try subst hji34)
      (try subst hji47)
      (try subst hji59)
      go_meet
      case rel => exact ⟨_, (y469), H', ⟨by have := HJ4.out; first | omega | exact Nat.le_refl _⟩, ⟨by (with_reducible repeat (first | apply S_alloc | apply S_drewN | apply S_drew)); exact HO461.out⟩, ⟨Short.hB HB⟩⟩
     rw [if_pos c50] at H
     have c50b0 : (((rd_T34 t459 (ji47)).f0) == 1) = true := beq_iff_eq.mpr c50
     have c50b1 : (((rd_T34 t459 (ji47)).f0) != 1) = false := bne_eq_false_iff_eq.mpr c50
     clear c50
     obtain ⟨y468, hy468⟩ : ∃ y_ : List (S34), y_ = (t459.set ((ji47) : Int).toNat (⟨(rd_T34 t459 (ji47)).f0, (rd_T34 t459 (ji47)).f1, (rd_T34 t459 (ji47)).f2, (-1), (⟨(rd_T34 t459 (ji47)).f4.f0, (rd_T34 t459 (ji47)).f4.f1, (rd_T34 t459 (ji47)).f4.f2, (⟨(rd_T34 t459 (ji47)).f4.f3.f0, (rd_T34 t459 (ji47)).f4.f3.f1, (rd_T34 t459 (ji47)).f4.f3.f2⟩ : S29)⟩ : S31), (rd_T34 t459 (ji47)).f5, (rd_T34 t459 (ji47)).f6, (rd_T34 t459 (ji47)).f7, (rd_T34 t459 (ji47)).f8⟩ : S34)) := ⟨_, rfl⟩
     replace H : (raddlelaw20_PlanBent.j1 kj4 l1 y468) = some r := by first | (rw [hy468]; with_reducible exact H) | (have H2_ := (Option.bind_some _ _).symm.trans H; rw [hy468]; with_reducible exact H2_) | (have H2_ := (Option.bind_some _ _).symm.trans H; with_reducible exact H2_) | with_reducible exact H | (rw [hy468]; exact H) | exact H
     have Ny468 := mk_ hy468
     clear hy468
     have H' := mk_ H
     clear H
     obtain ⟨Ao52, co52, eo52⟩ := S_slice HO461.out
     subst eo52
     have p467 : 0 ≤ ((ji47) : Int) := of_decide_eq_true z2
     have q467 : (ji47) < (t459.length : Int) := of_decide_eq_true z2
     obtain ⟨ad467, A467_10, c467_10, A467_11, c467_11, e467, hx467_0, hx467_1, hx467_2, hx467_3, hx467_4, hx467_5, hx467_6, hx467_7, hx467_8, hx467_9, hx467_10, hx467_11, hx467_12, hx467_13, hl467_10, hi467_10, hl467_11, hi467_11⟩ := at_T34 (S_reads' HO461.out).2.2 (ji47) p467 q467
     cases e467
     obtain ⟨ce467, hce467, hMe467, hcc467⟩ := S_get HO461.out z34 (ji47) p467 (by first | exact q467 | exact of_decide_eq_true z2 | (have e_ := (S_reads' HO461.out).1; omega))
     obtain ⟨ve467_10, ve467_11, rfl, ge467_10, ge467_11⟩ := k34_openM hMe467
     have hv467_10 := hcc467 10 _ rfl
     rw [add_field _ _ 10 z5] at hv467_10
     replace hv467_10 := Option.some.inj (hv467_10.symm.trans hx467_10)
     rw [hv467_10] at ge467_10
     have HL467_10 := mk_ (show Kd.R (Kd.int .i64) 3 _ _ _ _ ((rd_T34 t459 (ji47)).f5) from ge467_10)
     clear hv467_10 ge467_10
     have hv467_11 := hcc467 11 _ rfl
     rw [add_field _ _ 11 z5] at hv467_11
     replace hv467_11 := Option.some.inj (hv467_11.symm.trans hx467_11)
     rw [hv467_11] at ge467_11
     have HL467_11 := mk_ (show Kd.R (Kd.int .i64) 3 _ _ _ _ ((rd_T34 t459 (ji47)).f6) from ge467_11)
     clear hv467_11 ge467_11
     clear hcc467 hce467
     have HR467_10 := mk_ hi467_10
     have HC467_10 := mk_ hl467_10
     clear hi467_10 hl467_10
     have HR467_11 := mk_ hi467_11
     have HC467_11 := mk_ hl467_11
     clear hi467_11 hl467_11
     replace p467 := eq_true p467
     replace q467 := eq_true q467
     have p51 : 0 ≤ ((ji47) : Int) := of_decide_eq_true z2
     have q51 : ((ji47) : Int) < ((t459.length : Int) : Int) := of_decide_eq_true z2
     obtain ⟨go51, co51, eo51, gb51, gl51, cl51, HG51⟩ := S_form HO461.out z5
     (first | cases eo51 | (injection eo51 with ea_ en_ ec_; (first | subst ea_ | (injection ea_ with ea_; subst ea_)); subst ec_; clear en_))
     have GB51 := mk_ gb51
     have GG51 := mk_ HG51
     clear gb51 gl51 HG51
     (first | simp only [add_plain] at hx467_0 | skip)
     (first | simp only [add_plain] at hx467_1 | skip)
     (first | simp only [add_plain] at hx467_2 | skip)
     (first | simp only [add_plain] at hx467_3 | skip)
     (first | simp only [add_plain] at hx467_4 | skip)
     (first | simp only [add_plain] at hx467_5 | skip)
     (first | simp only [add_plain] at hx467_6 | skip)
     (first | simp only [add_plain] at hx467_7 | skip)
     (first | simp only [add_plain] at hx467_8 | skip)
     (first | simp only [add_plain] at hx467_9 | skip)
     (first | simp only [add_plain] at hx467_10 | skip)
     (first | simp only [add_plain] at hx467_11 | skip)
     (first | simp only [add_plain] at hx467_12 | skip)
     (first | simp only [add_plain] at hx467_13 | skip)
     obtain ⟨_, ce51, hcl51, hM51, hcc51, hfr51, _, _⟩ := S_elem HO461.out z34 ((ji47) : Int) p51 q51
     obtain ⟨ve51_10, ve51_11, rfl, ge51_10, ge51_11⟩ := k34_openM hM51
     have hx51_0 : w18.cell? ⟨go51, ((ji47) : Int).toNat * 14, none⟩ = some (.int .i64 ((rd_T34 t459 (ji47)).f0)) := hcc51 0 _ rfl
     have hx51_1 : w18.cell? ⟨go51, ((ji47) : Int).toNat * 14 + 1, none⟩ = some (.int .i64 ((rd_T34 t459 (ji47)).f1)) := hcc51 1 _ rfl
     have hx51_2 : w18.cell? ⟨go51, ((ji47) : Int).toNat * 14 + 2, none⟩ = some (.int .i64 ((rd_T34 t459 (ji47)).f2)) := hcc51 2 _ rfl
     have hx51_3 : w18.cell? ⟨go51, ((ji47) : Int).toNat * 14 + 3, none⟩ = some (.int .i64 ((rd_T34 t459 (ji47)).f3)) := hcc51 3 _ rfl
     have hx51_4 : w18.cell? ⟨go51, ((ji47) : Int).toNat * 14 + 4, none⟩ = some (.int .i64 ((rd_T34 t459 (ji47)).f4.f0)) := hcc51 4 _ rfl
     have hx51_5 : w18.cell? ⟨go51, ((ji47) : Int).toNat * 14 + 5, none⟩ = some (.int .i64 ((rd_T34 t459 (ji47)).f4.f1)) := hcc51 5 _ rfl
     have hx51_6 : w18.cell? ⟨go51, ((ji47) : Int).toNat * 14 + 6, none⟩ = some (.int .i64 ((rd_T34 t459 (ji47)).f4.f2)) := hcc51 6 _ rfl
     have hx51_7 : w18.cell? ⟨go51, ((ji47) : Int).toNat * 14 + 7, none⟩ = some (.int .i64 ((rd_T34 t459 (ji47)).f4.f3.f0)) := hcc51 7 _ rfl
     have hx51_8 : w18.cell? ⟨go51, ((ji47) : Int).toNat * 14 + 8, none⟩ = some (.int .i64 ((rd_T34 t459 (ji47)).f4.f3.f1)) := hcc51 8 _ rfl
     have hx51_9 : w18.cell? ⟨go51, ((ji47) : Int).toNat * 14 + 9, none⟩ = some (.string ((rd_T34 t459 (ji47)).f4.f3.f2)) := hcc51 9 _ rfl
     have hx51_10 : w18.cell? ⟨go51, ((ji47) : Int).toNat * 14 + 10, none⟩ = some (ve51_10) := hcc51 10 _ rfl
     have hx51_11 : w18.cell? ⟨go51, ((ji47) : Int).toNat * 14 + 11, none⟩ = some (ve51_11) := hcc51 11 _ rfl
     have hx51_12 : w18.cell? ⟨go51, ((ji47) : Int).toNat * 14 + 12, none⟩ = some (.int .i64 ((rd_T34 t459 (ji47)).f7)) := hcc51 12 _ rfl
     have hx51_13 : w18.cell? ⟨go51, ((ji47) : Int).toNat * 14 + 13, none⟩ = some (.int .i64 ((rd_T34 t459 (ji47)).f8)) := hcc51 13 _ rfl
     have hf51_0 : w18.frozen? ⟨go51, ((ji47) : Int).toNat * 14, none⟩ = false := hfr51 0
     have hf51_1 : w18.frozen? ⟨go51, ((ji47) : Int).toNat * 14 + 1, none⟩ = false := hfr51 1
     have hf51_2 : w18.frozen? ⟨go51, ((ji47) : Int).toNat * 14 + 2, none⟩ = false := hfr51 2
     have hf51_3 : w18.frozen? ⟨go51, ((ji47) : Int).toNat * 14 + 3, none⟩ = false := hfr51 3
     have hf51_4 : w18.frozen? ⟨go51, ((ji47) : Int).toNat * 14 + 4, none⟩ = false := hfr51 4
     have hf51_5 : w18.frozen? ⟨go51, ((ji47) : Int).toNat * 14 + 5, none⟩ = false := hfr51 5
     have hf51_6 : w18.frozen? ⟨go51, ((ji47) : Int).toNat * 14 + 6, none⟩ = false := hfr51 6
     have hf51_7 : w18.frozen? ⟨go51, ((ji47) : Int).toNat * 14 + 7, none⟩ = false := hfr51 7
     have hf51_8 : w18.frozen? ⟨go51, ((ji47) : Int).toNat * 14 + 8, none⟩ = false := hfr51 8
     have hf51_9 : w18.frozen? ⟨go51, ((ji47) : Int).toNat * 14 + 9, none⟩ = false := hfr51 9
     have hf51_10 : w18.frozen? ⟨go51, ((ji47) : Int).toNat * 14 + 10, none⟩ = false := hfr51 10
     have hf51_11 : w18.frozen? ⟨go51, ((ji47) : Int).toNat * 14 + 11, none⟩ = false := hfr51 11
     have hf51_12 : w18.frozen? ⟨go51, ((ji47) : Int).toNat * 14 + 12, none⟩ = false := hfr51 12
     have hf51_13 : w18.frozen? ⟨go51, ((ji47) : Int).toNat * 14 + 13, none⟩ = false := hfr51 13
     clear hcl51 hcc51 hfr51 hM51
     replace p51 := eq_true p51
     replace q51 := eq_true q51
     have HX53 := mk_ (show Kd.S k34 34 w18 w.heap.size (fun k_ => ((fun _ => True)) k_ ∧ ¬ ((fun _ => False)) k_) (.slice (some ⟨go51, 0, none⟩) t459.length co52) t459 from (by (with_reducible repeat (first | apply S_alloc | apply S_drewN | apply S_drew)); exact S_mono HO461.out (fun k_ hk => ⟨trivial, fun e_ => e_⟩)))
     obtain ⟨oki53, ce53, hcl53, hM53, hcc53, hfr53, hoki53, hH53⟩ := S_elem HX53.out z34 ((ji47) : Int) (of_decide_eq_true z2) (by have h_ : ((ji47) : Int) < ((t459.length : Int) : Int) := of_decide_eq_true z2; first | exact h_ | (have e_ := (S_reads' HO461.out).1; omega) | simpa using h_)
     obtain ⟨ve53_10, ve53_11, rfl, ge53_10, ge53_11⟩ := k34_openM hM53
     have HP53 := S_seg hH53 (of_decide_eq_true z2) (by have h_ : ((ji47) : Int) < ((t459.length : Int) : Int) := of_decide_eq_true z2; first | exact h_ | (have e_ := (S_reads' HO461.out).1; omega) | simpa using h_) (seg := [.int .i64 (-1)]) (j := 3) (show 4 ≤ 14 from by decide) (x' := (⟨(rd_T34 t459 (ji47)).f0, (rd_T34 t459 (ji47)).f1, (rd_T34 t459 (ji47)).f2, (-1), (⟨(rd_T34 t459 (ji47)).f4.f0, (rd_T34 t459 (ji47)).f4.f1, (rd_T34 t459 (ji47)).f4.f2, (⟨(rd_T34 t459 (ji47)).f4.f3.f0, (rd_T34 t459 (ji47)).f4.f3.f1, (rd_T34 t459 (ji47)).f4.f3.f2⟩ : S29)⟩ : S31), (rd_T34 t459 (ji47)).f5, (rd_T34 t459 (ji47)).f6, (rd_T34 t459 (ji47)).f7, (rd_T34 t459 (ji47)).f8⟩ : S34)) (k34_mkM _ _ _ (⟨(rd_T34 t459 (ji47)).f0, (rd_T34 t459 (ji47)).f1, (rd_T34 t459 (ji47)).f2, (-1), (⟨(rd_T34 t459 (ji47)).f4.f0, (rd_T34 t459 (ji47)).f4.f1, (rd_T34 t459 (ji47)).f4.f2, (⟨(rd_T34 t459 (ji47)).f4.f3.f0, (rd_T34 t459 (ji47)).f4.f3.f1, (rd_T34 t459 (ji47)).f4.f3.f2⟩ : S29)⟩ : S31), (rd_T34 t459 (ji47)).f5, (rd_T34 t459 (ji47)).f6, (rd_T34 t459 (ji47)).f7, (rd_T34 t459 (ji47)).f8⟩ : S34) (R_mono ge53_10 (fun _ h_ => Or.inl h_)) (R_mono ge53_11 (fun _ h_ => Or.inl h_))) (fun _ hk => hk) (fun k_ hk_ => hk_.elim)
     have hx53_3 := hcc53 3 _ rfl
     (try simp only [show (k34).sz = 14 from rfl, Nat.mul_one, Nat.add_zero] at hx53_3)
     have hf53_3 := hfr53 3
     (try simp only [show (k34).sz = 14 from rfl, Nat.mul_one, Nat.add_zero] at hf53_3)
     clear hcl53 hcc53 hfr53 hM53 hoki53 hH53
     go_wp2_with (first | ((with_reducible refine gate_store (t := 3) (p := 106) rfl ?_); refine store_event (t := 3) (p := 106) (v := ?vo_w54) (w1 := (w18.setCell ⟨go51, ((ji47) : Int).toNat * 14 + 3, none⟩ (.int .i64 (-1)))) ?hg ?ho ?hn ?hr ?_; (case ho => rfl); (case hg => rfl); (case hn => rfl); (case hr => first | (go_simp; done) | (go_simp; rfl)); intro w54 hw; have hg : w18.grownBy w54 (some go51) := (by rw [hw]; exact HP53.2); have hp_ : Kd.S k34 34 w54 w.heap.size (fun _ => True) (.slice (some ⟨go51, 0, none⟩) t459.length co52) y468 := (by rw [hw, Ny468.out]; exact HP53.1); clear HP53; have n0_ := mk_ (S_over' (v := (.slice (some ⟨go51, 0, none⟩) t459.length co52)) (by (with_reducible repeat (first | apply S_alloc | apply S_drewN | apply S_drew)); exact HO458.out) (S_typed HO461.out) z11 hg); have n1_ := mk_ (hp_); have n2_ := mk_ (R_after (v := (.slice (some ⟨go51, 0, none⟩) t459.length co52)) (v1 := (.slice (some ⟨go51, 0, none⟩) t459.length co52)) (ok := (fun _ => True)) (ZKR HL467_10) hg (.inl rfl)); have n3_ := mk_ (R_after (v := (.slice (some ⟨go51, 0, none⟩) t459.length co52)) (v1 := (.slice (some ⟨go51, 0, none⟩) t459.length co52)) (ok := (fun _ => True)) (ZKR HL467_11) hg (.inl rfl)); have n4_ := mk_ ((by rw [hw]; exact below_set (HB.out) GB51.out : Below w.heap.size w w54)); clear HO458 HO461 HL467_10 HL467_11 HB; revert n0_ n1_ n2_ n3_ n4_; intro HO458 HO461 HL467_10 HL467_11 HB; clear hg hw hp_))
     (try subst hji20)
     (try subst hji27)
     (try subst hji34)
     (try subst hji47)
     (try subst hji59)
     go_meet
     case rel => exact ⟨_, (y468), H', ⟨by have := HJ4.out; first | omega | exact Nat.le_refl _⟩, ⟨by (with_reducible repeat (first | apply S_alloc | apply S_drewN | apply S_drew)); exact HO461.out⟩, ⟨Short.hB HB⟩⟩
    rw [if_neg c46] at H
    have c46b0 : ((Int.tmod (u64.wrap (a3)) 5) == 3) = false := beq_eq_false_iff_ne.mpr c46
    have c46b1 : ((Int.tmod (u64.wrap (a3)) 5) != 3) = true := bne_iff_ne.mpr c46
    obtain ⟨ji59, hji59⟩ : ∃ j_ : Int, (wrap64 (Int.tmod (u64.wrap (a2)) (u64.wrap ((l0.length : Int))))) = j_ := ⟨_, rfl⟩
    replace H : (if 0 ≤ (ji59) then (if (ji59) < (t459.length : Int) then (if ((rd_T34 t459 (ji59)).f0) = 1 then ((some (t459.set ((ji59) : Int).toNat (⟨7, (rd_T34 t459 (ji59)).f1, (rd_T34 t459 (ji59)).f2, (rd_T34 t459 (ji59)).f3, (⟨(rd_T34 t459 (ji59)).f4.f0, (rd_T34 t459 (ji59)).f4.f1, (rd_T34 t459 (ji59)).f4.f2, (⟨(rd_T34 t459 (ji59)).f4.f3.f0, (rd_T34 t459 (ji59)).f4.f3.f1, (rd_T34 t459 (ji59)).f4.f3.f2⟩ : S29)⟩ : S31), (rd_T34 t459 (ji59)).f5, (rd_T34 t459 (ji59)).f6, (rd_T34 t459 (ji59)).f7, (rd_T34 t459 (ji59)).f8⟩ : S34) : List (S34))).bind fun y471 => (raddlelaw20_PlanBent.j1 kj4 l1 (y471.set ((ji59) : Int).toNat (⟨(rd_T34 y471 (ji59)).f0, ji59, (rd_T34 y471 (ji59)).f2, (rd_T34 y471 (ji59)).f3, (⟨(rd_T34 y471 (ji59)).f4.f0, (rd_T34 y471 (ji59)).f4.f1, (rd_T34 y471 (ji59)).f4.f2, (⟨(rd_T34 y471 (ji59)).f4.f3.f0, (rd_T34 y471 (ji59)).f4.f3.f1, (rd_T34 y471 (ji59)).f4.f3.f2⟩ : S29)⟩ : S31), (rd_T34 y471 (ji59)).f5, (rd_T34 y471 (ji59)).f6, (rd_T34 y471 (ji59)).f7, (rd_T34 y471 (ji59)).f8⟩ : S34)))) else (raddlelaw20_PlanBent.j1 kj4 l1 (t459.set ((ji59) : Int).toNat (⟨(rd_T34 t459 (ji59)).f0, (l0.length : Int), (rd_T34 t459 (ji59)).f2, (rd_T34 t459 (ji59)).f3, (⟨(rd_T34 t459 (ji59)).f4.f0, (rd_T34 t459 (ji59)).f4.f1, (rd_T34 t459 (ji59)).f4.f2, (⟨(rd_T34 t459 (ji59)).f4.f3.f0, (rd_T34 t459 (ji59)).f4.f3.f1, (rd_T34 t459 (ji59)).f4.f3.f2⟩ : S29)⟩ : S31), (rd_T34 t459 (ji59)).f5, (rd_T34 t459 (ji59)).f6, (rd_T34 t459 (ji59)).f7, (rd_T34 t459 (ji59)).f8⟩ : S34)))) else (none)) else (none)) = some r := by first | (rw [hji59] at H; exact H) | (simp only [hji59] at H ⊢; exact H)
    have hji59w : (IntKind.i64.wrap (Int.tmod (u64.wrap (a2)) (u64.wrap ((l0.length : Int))))) = ji59 := (i64_w _).trans hji59
    by_cases c60 : 0 ≤ (ji59)
    rotate_left
    ·
     rw [if_neg c60] at H
     exact absurd H (by simp)
    rw [if_pos c60] at H
    have c60b0 : decide (0 ≤ (ji59)) = true := decide_eq_true c60
    clear c60
    by_cases c61 : (ji59) < (t459.length : Int)
    rotate_left
    ·
     rw [if_neg c61] at H
     exact absurd H (by simp)
    rw [if_pos c61] at H
    have c61b0 : decide ((ji59) < (t459.length : Int)) = true := decide_eq_true c61
    clear c61
    by_cases c62 : ((rd_T34 t459 (ji59)).f0) = 1
    rotate_left
    ·
     rw [if_neg c62] at H
     have c62b0 : (((rd_T34 t459 (ji59)).f0) == 1) = false := beq_eq_false_iff_ne.mpr c62
     have c62b1 : (((rd_T34 t459 (ji59)).f0) != 1) = true := bne_iff_ne.mpr c62
     obtain ⟨y473, hy473⟩ : ∃ y_ : List (S34), y_ = (t459.set ((ji59) : Int).toNat (⟨(rd_T34 t459 (ji59)).f0, (l0.length : Int), (rd_T34 t459 (ji59)).f2, (rd_T34 t459 (ji59)).f3, (⟨(rd_T34 t459 (ji59)).f4.f0, (rd_T34 t459 (ji59)).f4.f1, (rd_T34 t459 (ji59)).f4.f2, (⟨(rd_T34 t459 (ji59)).f4.f3.f0, (rd_T34 t459 (ji59)).f4.f3.f1, (rd_T34 t459 (ji59)).f4.f3.f2⟩ : S29)⟩ : S31), (rd_T34 t459 (ji59)).f5, (rd_T34 t459 (ji59)).f6, (rd_T34 t459 (ji59)).f7, (rd_T34 t459 (ji59)).f8⟩ : S34)) := ⟨_, rfl⟩
     replace H : (raddlelaw20_PlanBent.j1 kj4 l1 y473) = some r := by first | (rw [hy473]; with_reducible exact H) | (have H2_ := (Option.bind_some _ _).symm.trans H; rw [hy473]; with_reducible exact H2_) | (have H2_ := (Option.bind_some _ _).symm.trans H; with_reducible exact H2_) | with_reducible exact H | (rw [hy473]; exact H) | exact H
     have Ny473 := mk_ hy473
     clear hy473
     have H' := mk_ H
     clear H
     obtain ⟨Ao71, co71, eo71⟩ := S_slice HO461.out
     subst eo71
     have p470 : 0 ≤ ((ji59) : Int) := of_decide_eq_true z2
     have q470 : (ji59) < (t459.length : Int) := of_decide_eq_true z2
     obtain ⟨ad470, A470_10, c470_10, A470_11, c470_11, e470, hx470_0, hx470_1, hx470_2, hx470_3, hx470_4, hx470_5, hx470_6, hx470_7, hx470_8, hx470_9, hx470_10, hx470_11, hx470_12, hx470_13, hl470_10, hi470_10, hl470_11, hi470_11⟩ := at_T34 (S_reads' HO461.out).2.2 (ji59) p470 q470
     cases e470
     obtain ⟨ce470, hce470, hMe470, hcc470⟩ := S_get HO461.out z34 (ji59) p470 (by first | exact q470 | exact of_decide_eq_true z2 | (have e_ := (S_reads' HO461.out).1; omega))
     obtain ⟨ve470_10, ve470_11, rfl, ge470_10, ge470_11⟩ := k34_openM hMe470
     have hv470_10 := hcc470 10 _ rfl
     rw [add_field _ _ 10 z5] at hv470_10
     replace hv470_10 := Option.some.inj (hv470_10.symm.trans hx470_10)
     rw [hv470_10] at ge470_10
     have HL470_10 := mk_ (show Kd.R (Kd.int .i64) 3 _ _ _ _ ((rd_T34 t459 (ji59)).f5) from ge470_10)
     clear hv470_10 ge470_10
     have hv470_11 := hcc470 11 _ rfl
     rw [add_field _ _ 11 z5] at hv470_11
     replace hv470_11 := Option.some.inj (hv470_11.symm.trans hx470_11)
     rw [hv470_11] at ge470_11
     have HL470_11 := mk_ (show Kd.R (Kd.int .i64) 3 _ _ _ _ ((rd_T34 t459 (ji59)).f6) from ge470_11)
     clear hv470_11 ge470_11
     clear hcc470 hce470
     have HR470_10 := mk_ hi470_10
     have HC470_10 := mk_ hl470_10
     clear hi470_10 hl470_10
     have HR470_11 := mk_ hi470_11
     have HC470_11 := mk_ hl470_11
     clear hi470_11 hl470_11
     replace p470 := eq_true p470
     replace q470 := eq_true q470
     have p70 : 0 ≤ ((ji59) : Int) := of_decide_eq_true z2
     have q70 : ((ji59) : Int) < ((t459.length : Int) : Int) := of_decide_eq_true z2
     obtain ⟨go70, co70, eo70, gb70, gl70, cl70, HG70⟩ := S_form HO461.out z5
     (first | cases eo70 | (injection eo70 with ea_ en_ ec_; (first | subst ea_ | (injection ea_ with ea_; subst ea_)); subst ec_; clear en_))
     have GB70 := mk_ gb70
     have GG70 := mk_ HG70
     clear gb70 gl70 HG70
     (first | simp only [add_plain] at hx470_0 | skip)
     (first | simp only [add_plain] at hx470_1 | skip)
     (first | simp only [add_plain] at hx470_2 | skip)
     (first | simp only [add_plain] at hx470_3 | skip)
     (first | simp only [add_plain] at hx470_4 | skip)
     (first | simp only [add_plain] at hx470_5 | skip)
     (first | simp only [add_plain] at hx470_6 | skip)
     (first | simp only [add_plain] at hx470_7 | skip)
     (first | simp only [add_plain] at hx470_8 | skip)
     (first | simp only [add_plain] at hx470_9 | skip)
     (first | simp only [add_plain] at hx470_10 | skip)
     (first | simp only [add_plain] at hx470_11 | skip)
     (first | simp only [add_plain] at hx470_12 | skip)
     (first | simp only [add_plain] at hx470_13 | skip)
     obtain ⟨_, ce70, hcl70, hM70, hcc70, hfr70, _, _⟩ := S_elem HO461.out z34 ((ji59) : Int) p70 q70
     obtain ⟨ve70_10, ve70_11, rfl, ge70_10, ge70_11⟩ := k34_openM hM70
     have hx70_0 : w18.cell? ⟨go70, ((ji59) : Int).toNat * 14, none⟩ = some (.int .i64 ((rd_T34 t459 (ji59)).f0)) := hcc70 0 _ rfl
     have hx70_1 : w18.cell? ⟨go70, ((ji59) : Int).toNat * 14 + 1, none⟩ = some (.int .i64 ((rd_T34 t459 (ji59)).f1)) := hcc70 1 _ rfl
     have hx70_2 : w18.cell? ⟨go70, ((ji59) : Int).toNat * 14 + 2, none⟩ = some (.int .i64 ((rd_T34 t459 (ji59)).f2)) := hcc70 2 _ rfl
     have hx70_3 : w18.cell? ⟨go70, ((ji59) : Int).toNat * 14 + 3, none⟩ = some (.int .i64 ((rd_T34 t459 (ji59)).f3)) := hcc70 3 _ rfl
     have hx70_4 : w18.cell? ⟨go70, ((ji59) : Int).toNat * 14 + 4, none⟩ = some (.int .i64 ((rd_T34 t459 (ji59)).f4.f0)) := hcc70 4 _ rfl
     have hx70_5 : w18.cell? ⟨go70, ((ji59) : Int).toNat * 14 + 5, none⟩ = some (.int .i64 ((rd_T34 t459 (ji59)).f4.f1)) := hcc70 5 _ rfl
     have hx70_6 : w18.cell? ⟨go70, ((ji59) : Int).toNat * 14 + 6, none⟩ = some (.int .i64 ((rd_T34 t459 (ji59)).f4.f2)) := hcc70 6 _ rfl
     have hx70_7 : w18.cell? ⟨go70, ((ji59) : Int).toNat * 14 + 7, none⟩ = some (.int .i64 ((rd_T34 t459 (ji59)).f4.f3.f0)) := hcc70 7 _ rfl
     have hx70_8 : w18.cell? ⟨go70, ((ji59) : Int).toNat * 14 + 8, none⟩ = some (.int .i64 ((rd_T34 t459 (ji59)).f4.f3.f1)) := hcc70 8 _ rfl
     have hx70_9 : w18.cell? ⟨go70, ((ji59) : Int).toNat * 14 + 9, none⟩ = some (.string ((rd_T34 t459 (ji59)).f4.f3.f2)) := hcc70 9 _ rfl
     have hx70_10 : w18.cell? ⟨go70, ((ji59) : Int).toNat * 14 + 10, none⟩ = some (ve70_10) := hcc70 10 _ rfl
     have hx70_11 : w18.cell? ⟨go70, ((ji59) : Int).toNat * 14 + 11, none⟩ = some (ve70_11) := hcc70 11 _ rfl
     have hx70_12 : w18.cell? ⟨go70, ((ji59) : Int).toNat * 14 + 12, none⟩ = some (.int .i64 ((rd_T34 t459 (ji59)).f7)) := hcc70 12 _ rfl
     have hx70_13 : w18.cell? ⟨go70, ((ji59) : Int).toNat * 14 + 13, none⟩ = some (.int .i64 ((rd_T34 t459 (ji59)).f8)) := hcc70 13 _ rfl
     have hf70_0 : w18.frozen? ⟨go70, ((ji59) : Int).toNat * 14, none⟩ = false := hfr70 0
     have hf70_1 : w18.frozen? ⟨go70, ((ji59) : Int).toNat * 14 + 1, none⟩ = false := hfr70 1
     have hf70_2 : w18.frozen? ⟨go70, ((ji59) : Int).toNat * 14 + 2, none⟩ = false := hfr70 2
     have hf70_3 : w18.frozen? ⟨go70, ((ji59) : Int).toNat * 14 + 3, none⟩ = false := hfr70 3
     have hf70_4 : w18.frozen? ⟨go70, ((ji59) : Int).toNat * 14 + 4, none⟩ = false := hfr70 4
     have hf70_5 : w18.frozen? ⟨go70, ((ji59) : Int).toNat * 14 + 5, none⟩ = false := hfr70 5
     have hf70_6 : w18.frozen? ⟨go70, ((ji59) : Int).toNat * 14 + 6, none⟩ = false := hfr70 6
     have hf70_7 : w18.frozen? ⟨go70, ((ji59) : Int).toNat * 14 + 7, none⟩ = false := hfr70 7
     have hf70_8 : w18.frozen? ⟨go70, ((ji59) : Int).toNat * 14 + 8, none⟩ = false := hfr70 8
     have hf70_9 : w18.frozen? ⟨go70, ((ji59) : Int).toNat * 14 + 9, none⟩ = false := hfr70 9
     have hf70_10 : w18.frozen? ⟨go70, ((ji59) : Int).toNat * 14 + 10, none⟩ = false := hfr70 10
     have hf70_11 : w18.frozen? ⟨go70, ((ji59) : Int).toNat * 14 + 11, none⟩ = false := hfr70 11
     have hf70_12 : w18.frozen? ⟨go70, ((ji59) : Int).toNat * 14 + 12, none⟩ = false := hfr70 12
     have hf70_13 : w18.frozen? ⟨go70, ((ji59) : Int).toNat * 14 + 13, none⟩ = false := hfr70 13
     clear hcl70 hcc70 hfr70 hM70
     replace p70 := eq_true p70
     replace q70 := eq_true q70
     have HX72 := mk_ (show Kd.S k34 34 w18 w.heap.size (fun k_ => ((fun _ => True)) k_ ∧ ¬ ((fun _ => False)) k_) (.slice (some ⟨go70, 0, none⟩) t459.length co71) t459 from (by (with_reducible repeat (first | apply S_alloc | apply S_drewN | apply S_drew)); exact S_mono HO461.out (fun k_ hk => ⟨trivial, fun e_ => e_⟩)))
     obtain ⟨oki72, ce72, hcl72, hM72, hcc72, hfr72, hoki72, hH72⟩ := S_elem HX72.out z34 ((ji59) : Int) (of_decide_eq_true z2) (by have h_ : ((ji59) : Int) < ((t459.length : Int) : Int) := of_decide_eq_true z2; first | exact h_ | (have e_ := (S_reads' HO461.out).1; omega) | simpa using h_)
     obtain ⟨ve72_10, ve72_11, rfl, ge72_10, ge72_11⟩ := k34_openM hM72
     have HP72 := S_seg hH72 (of_decide_eq_true z2) (by have h_ : ((ji59) : Int) < ((t459.length : Int) : Int) := of_decide_eq_true z2; first | exact h_ | (have e_ := (S_reads' HO461.out).1; omega) | simpa using h_) (seg := [.int .i64 (l0.length : Int)]) (j := 1) (show 2 ≤ 14 from by decide) (x' := (⟨(rd_T34 t459 (ji59)).f0, (l0.length : Int), (rd_T34 t459 (ji59)).f2, (rd_T34 t459 (ji59)).f3, (⟨(rd_T34 t459 (ji59)).f4.f0, (rd_T34 t459 (ji59)).f4.f1, (rd_T34 t459 (ji59)).f4.f2, (⟨(rd_T34 t459 (ji59)).f4.f3.f0, (rd_T34 t459 (ji59)).f4.f3.f1, (rd_T34 t459 (ji59)).f4.f3.f2⟩ : S29)⟩ : S31), (rd_T34 t459 (ji59)).f5, (rd_T34 t459 (ji59)).f6, (rd_T34 t459 (ji59)).f7, (rd_T34 t459 (ji59)).f8⟩ : S34)) (k34_mkM _ _ _ (⟨(rd_T34 t459 (ji59)).f0, (l0.length : Int), (rd_T34 t459 (ji59)).f2, (rd_T34 t459 (ji59)).f3, (⟨(rd_T34 t459 (ji59)).f4.f0, (rd_T34 t459 (ji59)).f4.f1, (rd_T34 t459 (ji59)).f4.f2, (⟨(rd_T34 t459 (ji59)).f4.f3.f0, (rd_T34 t459 (ji59)).f4.f3.f1, (rd_T34 t459 (ji59)).f4.f3.f2⟩ : S29)⟩ : S31), (rd_T34 t459 (ji59)).f5, (rd_T34 t459 (ji59)).f6, (rd_T34 t459 (ji59)).f7, (rd_T34 t459 (ji59)).f8⟩ : S34) (R_mono ge72_10 (fun _ h_ => Or.inl h_)) (R_mono ge72_11 (fun _ h_ => Or.inl h_))) (fun _ hk => hk) (fun k_ hk_ => hk_.elim)
     have hx72_1 := hcc72 1 _ rfl
     (try simp only [show (k34).sz = 14 from rfl, Nat.mul_one, Nat.add_zero] at hx72_1)
     have hf72_1 := hfr72 1
     (try simp only [show (k34).sz = 14 from rfl, Nat.mul_one, Nat.add_zero] at hf72_1)
     clear hcl72 hcc72 hfr72 hM72 hoki72 hH72
     go_wp2_with (first | ((with_reducible refine gate_store (t := 3) (p := 63) rfl ?_); refine store_event (t := 3) (p := 63) (v := ?vo_w73) (w1 := (w18.setCell ⟨go70, ((ji59) : Int).toNat * 14 + 1, none⟩ (.int .i64 (l0.length : Int)))) ?hg ?ho ?hn ?hr ?_; (case ho => rfl); (case hg => rfl); (case hn => rfl); (case hr => first | (go_simp; done) | (go_simp; rfl)); intro w73 hw; have hg : w18.grownBy w73 (some go70) := (by rw [hw]; exact HP72.2); have hp_ : Kd.S k34 34 w73 w.heap.size (fun _ => True) (.slice (some ⟨go70, 0, none⟩) t459.length co71) y473 := (by rw [hw, Ny473.out]; exact HP72.1); clear HP72; have n0_ := mk_ (S_over' (v := (.slice (some ⟨go70, 0, none⟩) t459.length co71)) (by (with_reducible repeat (first | apply S_alloc | apply S_drewN | apply S_drew)); exact HO458.out) (S_typed HO461.out) z11 hg); have n1_ := mk_ (hp_); have n2_ := mk_ (R_after (v := (.slice (some ⟨go70, 0, none⟩) t459.length co71)) (v1 := (.slice (some ⟨go70, 0, none⟩) t459.length co71)) (ok := (fun _ => True)) (ZKR HL470_10) hg (.inl rfl)); have n3_ := mk_ (R_after (v := (.slice (some ⟨go70, 0, none⟩) t459.length co71)) (v1 := (.slice (some ⟨go70, 0, none⟩) t459.length co71)) (ok := (fun _ => True)) (ZKR HL470_11) hg (.inl rfl)); have n4_ := mk_ ((by rw [hw]; exact below_set (HB.out) GB70.out : Below w.heap.size w w73)); clear HO458 HO461 HL470_10 HL470_11 HB; revert n0_ n1_ n2_ n3_ n4_; intro HO458 HO461 HL470_10 HL470_11 HB; clear hg hw hp_))
     (try subst hji20)
     (try subst hji27)
     (try subst hji34)
     (try subst hji47)
     (try subst hji59)
     go_meet
     case rel => exact ⟨_, (y473), H', ⟨by have := HJ4.out; first | omega | exact Nat.le_refl _⟩, ⟨by (with_reducible repeat (first | apply S_alloc | apply S_drewN | apply S_drew)); exact HO461.out⟩, ⟨Short.hB HB⟩⟩
    rw [if_pos c62] at H
    have c62b0 : (((rd_T34 t459 (ji59)).f0) == 1) = true := beq_iff_eq.mpr c62
    have c62b1 : (((rd_T34 t459 (ji59)).f0) != 1) = false := bne_eq_false_iff_eq.mpr c62
    clear c62
    obtain ⟨y471, hy471⟩ : ∃ y_ : List (S34), y_ = (t459.set ((ji59) : Int).toNat (⟨7, (rd_T34 t459 (ji59)).f1, (rd_T34 t459 (ji59)).f2, (rd_T34 t459 (ji59)).f3, (⟨(rd_T34 t459 (ji59)).f4.f0, (rd_T34 t459 (ji59)).f4.f1, (rd_T34 t459 (ji59)).f4.f2, (⟨(rd_T34 t459 (ji59)).f4.f3.f0, (rd_T34 t459 (ji59)).f4.f3.f1, (rd_T34 t459 (ji59)).f4.f3.f2⟩ : S29)⟩ : S31), (rd_T34 t459 (ji59)).f5, (rd_T34 t459 (ji59)).f6, (rd_T34 t459 (ji59)).f7, (rd_T34 t459 (ji59)).f8⟩ : S34)) := ⟨_, rfl⟩
    replace H : (raddlelaw20_PlanBent.j1 kj4 l1 (y471.set ((ji59) : Int).toNat (⟨(rd_T34 y471 (ji59)).f0, ji59, (rd_T34 y471 (ji59)).f2, (rd_T34 y471 (ji59)).f3, (⟨(rd_T34 y471 (ji59)).f4.f0, (rd_T34 y471 (ji59)).f4.f1, (rd_T34 y471 (ji59)).f4.f2, (⟨(rd_T34 y471 (ji59)).f4.f3.f0, (rd_T34 y471 (ji59)).f4.f3.f1, (rd_T34 y471 (ji59)).f4.f3.f2⟩ : S29)⟩ : S31), (rd_T34 y471 (ji59)).f5, (rd_T34 y471 (ji59)).f6, (rd_T34 y471 (ji59)).f7, (rd_T34 y471 (ji59)).f8⟩ : S34))) = some r := by first | (rw [hy471]; with_reducible exact H) | (have H2_ := (Option.bind_some _ _).symm.trans H; rw [hy471]; with_reducible exact H2_) | (have H2_ := (Option.bind_some _ _).symm.trans H; with_reducible exact H2_) | with_reducible exact H | (rw [hy471]; exact H) | exact H
    have Ny471 := mk_ hy471
    clear hy471
    obtain ⟨y472, hy472⟩ : ∃ y_ : List (S34), y_ = (y471.set ((ji59) : Int).toNat (⟨(rd_T34 y471 (ji59)).f0, ji59, (rd_T34 y471 (ji59)).f2, (rd_T34 y471 (ji59)).f3, (⟨(rd_T34 y471 (ji59)).f4.f0, (rd_T34 y471 (ji59)).f4.f1, (rd_T34 y471 (ji59)).f4.f2, (⟨(rd_T34 y471 (ji59)).f4.f3.f0, (rd_T34 y471 (ji59)).f4.f3.f1, (rd_T34 y471 (ji59)).f4.f3.f2⟩ : S29)⟩ : S31), (rd_T34 y471 (ji59)).f5, (rd_T34 y471 (ji59)).f6, (rd_T34 y471 (ji59)).f7, (rd_T34 y471 (ji59)).f8⟩ : S34)) := ⟨_, rfl⟩
    replace H : (raddlelaw20_PlanBent.j1 kj4 l1 y472) = some r := by first | (rw [hy472]; with_reducible exact H) | (have H2_ := (Option.bind_some _ _).symm.trans H; rw [hy472]; with_reducible exact H2_) | (have H2_ := (Option.bind_some _ _).symm.trans H; with_reducible exact H2_) | with_reducible exact H | (rw [hy472]; exact H) | exact H
    have Ny472 := mk_ hy472
    clear hy472
    have H' := mk_ H
    clear H
    obtain ⟨Ao65, co65, eo65⟩ := S_slice HO461.out
    subst eo65
    have p470 : 0 ≤ ((ji59) : Int) := of_decide_eq_true z2
    have q470 : (ji59) < (t459.length : Int) := of_decide_eq_true z2
    obtain ⟨ad470, A470_10, c470_10, A470_11, c470_11, e470, hx470_0, hx470_1, hx470_2, hx470_3, hx470_4, hx470_5, hx470_6, hx470_7, hx470_8, hx470_9, hx470_10, hx470_11, hx470_12, hx470_13, hl470_10, hi470_10, hl470_11, hi470_11⟩ := at_T34 (S_reads' HO461.out).2.2 (ji59) p470 q470
    cases e470
    obtain ⟨ce470, hce470, hMe470, hcc470⟩ := S_get HO461.out z34 (ji59) p470 (by first | exact q470 | exact of_decide_eq_true z2 | (have e_ := (S_reads' HO461.out).1; omega))
    obtain ⟨ve470_10, ve470_11, rfl, ge470_10, ge470_11⟩ := k34_openM hMe470
    have hv470_10 := hcc470 10 _ rfl
    rw [add_field _ _ 10 z5] at hv470_10
    replace hv470_10 := Option.some.inj (hv470_10.symm.trans hx470_10)
    rw [hv470_10] at ge470_10
    have HL470_10 := mk_ (show Kd.R (Kd.int .i64) 3 _ _ _ _ ((rd_T34 t459 (ji59)).f5) from ge470_10)
    clear hv470_10 ge470_10
    have hv470_11 := hcc470 11 _ rfl
    rw [add_field _ _ 11 z5] at hv470_11
    replace hv470_11 := Option.some.inj (hv470_11.symm.trans hx470_11)
    rw [hv470_11] at ge470_11
    have HL470_11 := mk_ (show Kd.R (Kd.int .i64) 3 _ _ _ _ ((rd_T34 t459 (ji59)).f6) from ge470_11)
    clear hv470_11 ge470_11
    clear hcc470 hce470
    have HR470_10 := mk_ hi470_10
    have HC470_10 := mk_ hl470_10
    clear hi470_10 hl470_10
    have HR470_11 := mk_ hi470_11
    have HC470_11 := mk_ hl470_11
    clear hi470_11 hl470_11
    replace p470 := eq_true p470
    replace q470 := eq_true q470
    have p63 : 0 ≤ ((ji59) : Int) := of_decide_eq_true z2
    have q63 : ((ji59) : Int) < ((t459.length : Int) : Int) := of_decide_eq_true z2
    obtain ⟨go63, co63, eo63, gb63, gl63, cl63, HG63⟩ := S_form HO461.out z5
    (first | cases eo63 | (injection eo63 with ea_ en_ ec_; (first | subst ea_ | (injection ea_ with ea_; subst ea_)); subst ec_; clear en_))
    have GB63 := mk_ gb63
    have GG63 := mk_ HG63
    clear gb63 gl63 HG63
    (first | simp only [add_plain] at hx470_0 | skip)
    (first | simp only [add_plain] at hx470_1 | skip)
    (first | simp only [add_plain] at hx470_2 | skip)
    (first | simp only [add_plain] at hx470_3 | skip)
    (first | simp only [add_plain] at hx470_4 | skip)
    (first | simp only [add_plain] at hx470_5 | skip)
    (first | simp only [add_plain] at hx470_6 | skip)
    (first | simp only [add_plain] at hx470_7 | skip)
    (first | simp only [add_plain] at hx470_8 | skip)
    (first | simp only [add_plain] at hx470_9 | skip)
    (first | simp only [add_plain] at hx470_10 | skip)
    (first | simp only [add_plain] at hx470_11 | skip)
    (first | simp only [add_plain] at hx470_12 | skip)
    (first | simp only [add_plain] at hx470_13 | skip)
    obtain ⟨_, ce63, hcl63, hM63, hcc63, hfr63, _, _⟩ := S_elem HO461.out z34 ((ji59) : Int) p63 q63
    obtain ⟨ve63_10, ve63_11, rfl, ge63_10, ge63_11⟩ := k34_openM hM63
    have hx63_0 : w18.cell? ⟨go63, ((ji59) : Int).toNat * 14, none⟩ = some (.int .i64 ((rd_T34 t459 (ji59)).f0)) := hcc63 0 _ rfl
    have hx63_1 : w18.cell? ⟨go63, ((ji59) : Int).toNat * 14 + 1, none⟩ = some (.int .i64 ((rd_T34 t459 (ji59)).f1)) := hcc63 1 _ rfl
    have hx63_2 : w18.cell? ⟨go63, ((ji59) : Int).toNat * 14 + 2, none⟩ = some (.int .i64 ((rd_T34 t459 (ji59)).f2)) := hcc63 2 _ rfl
    have hx63_3 : w18.cell? ⟨go63, ((ji59) : Int).toNat * 14 + 3, none⟩ = some (.int .i64 ((rd_T34 t459 (ji59)).f3)) := hcc63 3 _ rfl
    have hx63_4 : w18.cell? ⟨go63, ((ji59) : Int).toNat * 14 + 4, none⟩ = some (.int .i64 ((rd_T34 t459 (ji59)).f4.f0)) := hcc63 4 _ rfl
    have hx63_5 : w18.cell? ⟨go63, ((ji59) : Int).toNat * 14 + 5, none⟩ = some (.int .i64 ((rd_T34 t459 (ji59)).f4.f1)) := hcc63 5 _ rfl
    have hx63_6 : w18.cell? ⟨go63, ((ji59) : Int).toNat * 14 + 6, none⟩ = some (.int .i64 ((rd_T34 t459 (ji59)).f4.f2)) := hcc63 6 _ rfl
    have hx63_7 : w18.cell? ⟨go63, ((ji59) : Int).toNat * 14 + 7, none⟩ = some (.int .i64 ((rd_T34 t459 (ji59)).f4.f3.f0)) := hcc63 7 _ rfl
    have hx63_8 : w18.cell? ⟨go63, ((ji59) : Int).toNat * 14 + 8, none⟩ = some (.int .i64 ((rd_T34 t459 (ji59)).f4.f3.f1)) := hcc63 8 _ rfl
    have hx63_9 : w18.cell? ⟨go63, ((ji59) : Int).toNat * 14 + 9, none⟩ = some (.string ((rd_T34 t459 (ji59)).f4.f3.f2)) := hcc63 9 _ rfl
    have hx63_10 : w18.cell? ⟨go63, ((ji59) : Int).toNat * 14 + 10, none⟩ = some (ve63_10) := hcc63 10 _ rfl
    have hx63_11 : w18.cell? ⟨go63, ((ji59) : Int).toNat * 14 + 11, none⟩ = some (ve63_11) := hcc63 11 _ rfl
    have hx63_12 : w18.cell? ⟨go63, ((ji59) : Int).toNat * 14 + 12, none⟩ = some (.int .i64 ((rd_T34 t459 (ji59)).f7)) := hcc63 12 _ rfl
    have hx63_13 : w18.cell? ⟨go63, ((ji59) : Int).toNat * 14 + 13, none⟩ = some (.int .i64 ((rd_T34 t459 (ji59)).f8)) := hcc63 13 _ rfl
    have hf63_0 : w18.frozen? ⟨go63, ((ji59) : Int).toNat * 14, none⟩ = false := hfr63 0
    have hf63_1 : w18.frozen? ⟨go63, ((ji59) : Int).toNat * 14 + 1, none⟩ = false := hfr63 1
    have hf63_2 : w18.frozen? ⟨go63, ((ji59) : Int).toNat * 14 + 2, none⟩ = false := hfr63 2
    have hf63_3 : w18.frozen? ⟨go63, ((ji59) : Int).toNat * 14 + 3, none⟩ = false := hfr63 3
    have hf63_4 : w18.frozen? ⟨go63, ((ji59) : Int).toNat * 14 + 4, none⟩ = false := hfr63 4
    have hf63_5 : w18.frozen? ⟨go63, ((ji59) : Int).toNat * 14 + 5, none⟩ = false := hfr63 5
    have hf63_6 : w18.frozen? ⟨go63, ((ji59) : Int).toNat * 14 + 6, none⟩ = false := hfr63 6
    have hf63_7 : w18.frozen? ⟨go63, ((ji59) : Int).toNat * 14 + 7, none⟩ = false := hfr63 7
    have hf63_8 : w18.frozen? ⟨go63, ((ji59) : Int).toNat * 14 + 8, none⟩ = false := hfr63 8
    have hf63_9 : w18.frozen? ⟨go63, ((ji59) : Int).toNat * 14 + 9, none⟩ = false := hfr63 9
    have hf63_10 : w18.frozen? ⟨go63, ((ji59) : Int).toNat * 14 + 10, none⟩ = false := hfr63 10
    have hf63_11 : w18.frozen? ⟨go63, ((ji59) : Int).toNat * 14 + 11, none⟩ = false := hfr63 11
    have hf63_12 : w18.frozen? ⟨go63, ((ji59) : Int).toNat * 14 + 12, none⟩ = false := hfr63 12
    have hf63_13 : w18.frozen? ⟨go63, ((ji59) : Int).toNat * 14 + 13, none⟩ = false := hfr63 13
    clear hcl63 hcc63 hfr63 hM63
    replace p63 := eq_true p63
    replace q63 := eq_true q63
    have HX66 := mk_ (show Kd.S k34 34 w18 w.heap.size (fun k_ => ((fun _ => True)) k_ ∧ ¬ ((fun _ => False)) k_) (.slice (some ⟨go63, 0, none⟩) t459.length co65) t459 from (by (with_reducible repeat (first | apply S_alloc | apply S_drewN | apply S_drew)); exact S_mono HO461.out (fun k_ hk => ⟨trivial, fun e_ => e_⟩)))
    obtain ⟨oki66, ce66, hcl66, hM66, hcc66, hfr66, hoki66, hH66⟩ := S_elem HX66.out z34 ((ji59) : Int) (of_decide_eq_true z2) (by have h_ : ((ji59) : Int) < ((t459.length : Int) : Int) := of_decide_eq_true z2; first | exact h_ | (have e_ := (S_reads' HO461.out).1; omega) | simpa using h_)
    obtain ⟨ve66_10, ve66_11, rfl, ge66_10, ge66_11⟩ := k34_openM hM66
    have HP66 := S_seg hH66 (of_decide_eq_true z2) (by have h_ : ((ji59) : Int) < ((t459.length : Int) : Int) := of_decide_eq_true z2; first | exact h_ | (have e_ := (S_reads' HO461.out).1; omega) | simpa using h_) (seg := [.int .i64 7]) (j := 0) (show 1 ≤ 14 from by decide) (x' := (⟨7, (rd_T34 t459 (ji59)).f1, (rd_T34 t459 (ji59)).f2, (rd_T34 t459 (ji59)).f3, (⟨(rd_T34 t459 (ji59)).f4.f0, (rd_T34 t459 (ji59)).f4.f1, (rd_T34 t459 (ji59)).f4.f2, (⟨(rd_T34 t459 (ji59)).f4.f3.f0, (rd_T34 t459 (ji59)).f4.f3.f1, (rd_T34 t459 (ji59)).f4.f3.f2⟩ : S29)⟩ : S31), (rd_T34 t459 (ji59)).f5, (rd_T34 t459 (ji59)).f6, (rd_T34 t459 (ji59)).f7, (rd_T34 t459 (ji59)).f8⟩ : S34)) (k34_mkM _ _ _ (⟨7, (rd_T34 t459 (ji59)).f1, (rd_T34 t459 (ji59)).f2, (rd_T34 t459 (ji59)).f3, (⟨(rd_T34 t459 (ji59)).f4.f0, (rd_T34 t459 (ji59)).f4.f1, (rd_T34 t459 (ji59)).f4.f2, (⟨(rd_T34 t459 (ji59)).f4.f3.f0, (rd_T34 t459 (ji59)).f4.f3.f1, (rd_T34 t459 (ji59)).f4.f3.f2⟩ : S29)⟩ : S31), (rd_T34 t459 (ji59)).f5, (rd_T34 t459 (ji59)).f6, (rd_T34 t459 (ji59)).f7, (rd_T34 t459 (ji59)).f8⟩ : S34) (R_mono ge66_10 (fun _ h_ => Or.inl h_)) (R_mono ge66_11 (fun _ h_ => Or.inl h_))) (fun _ hk => hk) (fun k_ hk_ => hk_.elim)
    have hx66_0 := hcc66 0 _ rfl
    (try simp only [show (k34).sz = 14 from rfl, Nat.mul_one, Nat.add_zero] at hx66_0)
    have hf66_0 := hfr66 0
    (try simp only [show (k34).sz = 14 from rfl, Nat.mul_one, Nat.add_zero] at hf66_0)
    clear hcl66 hcc66 hfr66 hM66 hoki66 hH66
    go_wp2_with (first | ((with_reducible refine gate_store (t := 3) (p := 52) rfl ?_); refine store_event (t := 3) (p := 52) (v := ?vo_w67) (w1 := (w18.setCell ⟨go63, ((ji59) : Int).toNat * 14, none⟩ (.int .i64 7))) ?hg ?ho ?hn ?hr ?_; (case ho => rfl); (case hg => rfl); (case hn => rfl); (case hr => first | (go_simp; done) | (go_simp; rfl)); intro w67 hw; have hg : w18.grownBy w67 (some go63) := (by rw [hw]; exact HP66.2); have hp_ : Kd.S k34 34 w67 w.heap.size (fun _ => True) (.slice (some ⟨go63, 0, none⟩) t459.length co65) y471 := (by rw [hw, Ny471.out]; exact HP66.1); clear HP66; have n0_ := mk_ (S_over' (v := (.slice (some ⟨go63, 0, none⟩) t459.length co65)) (by (with_reducible repeat (first | apply S_alloc | apply S_drewN | apply S_drew)); exact HO458.out) (S_typed HO461.out) z11 hg); have n1_ := mk_ (hp_); have n2_ := mk_ (R_after (v := (.slice (some ⟨go63, 0, none⟩) t459.length co65)) (v1 := (.slice (some ⟨go63, 0, none⟩) t459.length co65)) (ok := (fun _ => True)) (ZKR HL470_10) hg (.inl rfl)); have n3_ := mk_ (R_after (v := (.slice (some ⟨go63, 0, none⟩) t459.length co65)) (v1 := (.slice (some ⟨go63, 0, none⟩) t459.length co65)) (ok := (fun _ => True)) (ZKR HL470_11) hg (.inl rfl)); have n4_ := mk_ ((by rw [hw]; exact below_set (HB.out) GB63.out : Below w.heap.size w w67)); clear HO458 HO461 HL470_10 HL470_11 HB; revert n0_ n1_ n2_ n3_ n4_; intro HO458 HO461 HL470_10 HL470_11 HB; clear hg hw hp_; have p64 : 0 ≤ ((ji59) : Int) := of_decide_eq_true z2; have q64 : ((ji59) : Int) < ((t459.length : Int) : Int) := of_decide_eq_true z2; obtain ⟨_, ce64, hcl64, hM64, hcc64, hfr64, _, _⟩ := S_elem HO461.out z34 ((ji59) : Int) p64 q64; obtain ⟨ve64_10, ve64_11, rfl, ge64_10, ge64_11⟩ := k34_openM hM64; have hx64_0 : w67.cell? ⟨go63, ((ji59) : Int).toNat * 14, none⟩ = some (.int .i64 ((rd_T34 y471 (ji59)).f0)) := hcc64 0 _ rfl; have hx64_1 : w67.cell? ⟨go63, ((ji59) : Int).toNat * 14 + 1, none⟩ = some (.int .i64 ((rd_T34 y471 (ji59)).f1)) := hcc64 1 _ rfl; have hx64_2 : w67.cell? ⟨go63, ((ji59) : Int).toNat * 14 + 2, none⟩ = some (.int .i64 ((rd_T34 y471 (ji59)).f2)) := hcc64 2 _ rfl; have hx64_3 : w67.cell? ⟨go63, ((ji59) : Int).toNat * 14 + 3, none⟩ = some (.int .i64 ((rd_T34 y471 (ji59)).f3)) := hcc64 3 _ rfl; have hx64_4 : w67.cell? ⟨go63, ((ji59) : Int).toNat * 14 + 4, none⟩ = some (.int .i64 ((rd_T34 y471 (ji59)).f4.f0)) := hcc64 4 _ rfl; have hx64_5 : w67.cell? ⟨go63, ((ji59) : Int).toNat * 14 + 5, none⟩ = some (.int .i64 ((rd_T34 y471 (ji59)).f4.f1)) := hcc64 5 _ rfl; have hx64_6 : w67.cell? ⟨go63, ((ji59) : Int).toNat * 14 + 6, none⟩ = some (.int .i64 ((rd_T34 y471 (ji59)).f4.f2)) := hcc64 6 _ rfl; have hx64_7 : w67.cell? ⟨go63, ((ji59) : Int).toNat * 14 + 7, none⟩ = some (.int .i64 ((rd_T34 y471 (ji59)).f4.f3.f0)) := hcc64 7 _ rfl; have hx64_8 : w67.cell? ⟨go63, ((ji59) : Int).toNat * 14 + 8, none⟩ = some (.int .i64 ((rd_T34 y471 (ji59)).f4.f3.f1)) := hcc64 8 _ rfl; have hx64_9 : w67.cell? ⟨go63, ((ji59) : Int).toNat * 14 + 9, none⟩ = some (.string ((rd_T34 y471 (ji59)).f4.f3.f2)) := hcc64 9 _ rfl; have hx64_10 : w67.cell? ⟨go63, ((ji59) : Int).toNat * 14 + 10, none⟩ = some (ve64_10) := hcc64 10 _ rfl; have hx64_11 : w67.cell? ⟨go63, ((ji59) : Int).toNat * 14 + 11, none⟩ = some (ve64_11) := hcc64 11 _ rfl; have hx64_12 : w67.cell? ⟨go63, ((ji59) : Int).toNat * 14 + 12, none⟩ = some (.int .i64 ((rd_T34 y471 (ji59)).f7)) := hcc64 12 _ rfl; have hx64_13 : w67.cell? ⟨go63, ((ji59) : Int).toNat * 14 + 13, none⟩ = some (.int .i64 ((rd_T34 y471 (ji59)).f8)) := hcc64 13 _ rfl; have hf64_0 : w67.frozen? ⟨go63, ((ji59) : Int).toNat * 14, none⟩ = false := hfr64 0; have hf64_1 : w67.frozen? ⟨go63, ((ji59) : Int).toNat * 14 + 1, none⟩ = false := hfr64 1; have hf64_2 : w67.frozen? ⟨go63, ((ji59) : Int).toNat * 14 + 2, none⟩ = false := hfr64 2; have hf64_3 : w67.frozen? ⟨go63, ((ji59) : Int).toNat * 14 + 3, none⟩ = false := hfr64 3; have hf64_4 : w67.frozen? ⟨go63, ((ji59) : Int).toNat * 14 + 4, none⟩ = false := hfr64 4; have hf64_5 : w67.frozen? ⟨go63, ((ji59) : Int).toNat * 14 + 5, none⟩ = false := hfr64 5; have hf64_6 : w67.frozen? ⟨go63, ((ji59) : Int).toNat * 14 + 6, none⟩ = false := hfr64 6; have hf64_7 : w67.frozen? ⟨go63, ((ji59) : Int).toNat * 14 + 7, none⟩ = false := hfr64 7; have hf64_8 : w67.frozen? ⟨go63, ((ji59) : Int).toNat * 14 + 8, none⟩ = false := hfr64 8; have hf64_9 : w67.frozen? ⟨go63, ((ji59) : Int).toNat * 14 + 9, none⟩ = false := hfr64 9; have hf64_10 : w67.frozen? ⟨go63, ((ji59) : Int).toNat * 14 + 10, none⟩ = false := hfr64 10; have hf64_11 : w67.frozen? ⟨go63, ((ji59) : Int).toNat * 14 + 11, none⟩ = false := hfr64 11; have hf64_12 : w67.frozen? ⟨go63, ((ji59) : Int).toNat * 14 + 12, none⟩ = false := hfr64 12; have hf64_13 : w67.frozen? ⟨go63, ((ji59) : Int).toNat * 14 + 13, none⟩ = false := hfr64 13; clear hcl64 hcc64 hfr64 hM64; replace p64 := eq_true p64; replace q64 := eq_true q64; have HX68 := mk_ (show Kd.S k34 34 w67 w.heap.size (fun k_ => ((fun _ => True)) k_ ∧ ¬ ((fun _ => False)) k_) (.slice (some ⟨go63, 0, none⟩) t459.length co65) y471 from (by (with_reducible repeat (first | apply S_alloc | apply S_drewN | apply S_drew)); exact S_mono HO461.out (fun k_ hk => ⟨trivial, fun e_ => e_⟩))); obtain ⟨oki68, ce68, hcl68, hM68, hcc68, hfr68, hoki68, hH68⟩ := S_elem HX68.out z34 ((ji59) : Int) (of_decide_eq_true z2) (by have h_ : ((ji59) : Int) < ((t459.length : Int) : Int) := of_decide_eq_true z2; first | exact h_ | (have e_ := (S_reads' HO461.out).1; omega) | simpa using h_); obtain ⟨ve68_10, ve68_11, rfl, ge68_10, ge68_11⟩ := k34_openM hM68; have HP68 := S_seg hH68 (of_decide_eq_true z2) (by have h_ : ((ji59) : Int) < ((t459.length : Int) : Int) := of_decide_eq_true z2; first | exact h_ | (have e_ := (S_reads' HO461.out).1; omega) | simpa using h_) (seg := [.int .i64 ji59]) (j := 1) (show 2 ≤ 14 from by decide) (x' := (⟨(rd_T34 y471 (ji59)).f0, ji59, (rd_T34 y471 (ji59)).f2, (rd_T34 y471 (ji59)).f3, (⟨(rd_T34 y471 (ji59)).f4.f0, (rd_T34 y471 (ji59)).f4.f1, (rd_T34 y471 (ji59)).f4.f2, (⟨(rd_T34 y471 (ji59)).f4.f3.f0, (rd_T34 y471 (ji59)).f4.f3.f1, (rd_T34 y471 (ji59)).f4.f3.f2⟩ : S29)⟩ : S31), (rd_T34 y471 (ji59)).f5, (rd_T34 y471 (ji59)).f6, (rd_T34 y471 (ji59)).f7, (rd_T34 y471 (ji59)).f8⟩ : S34)) (k34_mkM _ _ _ (⟨(rd_T34 y471 (ji59)).f0, ji59, (rd_T34 y471 (ji59)).f2, (rd_T34 y471 (ji59)).f3, (⟨(rd_T34 y471 (ji59)).f4.f0, (rd_T34 y471 (ji59)).f4.f1, (rd_T34 y471 (ji59)).f4.f2, (⟨(rd_T34 y471 (ji59)).f4.f3.f0, (rd_T34 y471 (ji59)).f4.f3.f1, (rd_T34 y471 (ji59)).f4.f3.f2⟩ : S29)⟩ : S31), (rd_T34 y471 (ji59)).f5, (rd_T34 y471 (ji59)).f6, (rd_T34 y471 (ji59)).f7, (rd_T34 y471 (ji59)).f8⟩ : S34) (R_mono ge68_10 (fun _ h_ => Or.inl h_)) (R_mono ge68_11 (fun _ h_ => Or.inl h_))) (fun _ hk => hk) (fun k_ hk_ => hk_.elim); have hx68_1 := hcc68 1 _ rfl; (try simp only [show (k34).sz = 14 from rfl, Nat.mul_one, Nat.add_zero] at hx68_1); have hf68_1 := hfr68 1; (try simp only [show (k34).sz = 14 from rfl, Nat.mul_one, Nat.add_zero] at hf68_1); clear hcl68 hcc68 hfr68 hM68 hoki68 hH68) | ((with_reducible refine gate_store (t := 3) (p := 57) rfl ?_); refine store_event (t := 3) (p := 57) (v := ?vo_w69) (w1 := (w67.setCell ⟨go63, ((ji59) : Int).toNat * 14 + 1, none⟩ (.int .i64 ji59))) ?hg ?ho ?hn ?hr ?_; (case ho => rfl); (case hg => rfl); (case hn => rfl); (case hr => first | (go_simp; done) | (go_simp; rfl)); intro w69 hw; have hg : w67.grownBy w69 (some go63) := (by rw [hw]; exact HP68.2); have hp_ : Kd.S k34 34 w69 w.heap.size (fun _ => True) (.slice (some ⟨go63, 0, none⟩) t459.length co65) y472 := (by rw [hw, Ny472.out]; exact HP68.1); clear HP68; have n0_ := mk_ (S_over' (v := (.slice (some ⟨go63, 0, none⟩) t459.length co65)) (by (with_reducible repeat (first | apply S_alloc | apply S_drewN | apply S_drew)); exact HO458.out) (S_typed HO461.out) z11 hg); have n1_ := mk_ (hp_); have n2_ := mk_ (R_after (v := (.slice (some ⟨go63, 0, none⟩) t459.length co65)) (v1 := (.slice (some ⟨go63, 0, none⟩) t459.length co65)) (ok := (fun _ => True)) (ZKR HL470_10) hg (.inl rfl)); have n3_ := mk_ (R_after (v := (.slice (some ⟨go63, 0, none⟩) t459.length co65)) (v1 := (.slice (some ⟨go63, 0, none⟩) t459.length co65)) (ok := (fun _ => True)) (ZKR HL470_11) hg (.inl rfl)); have n4_ := mk_ ((by rw [hw]; exact below_set (HB.out) GB63.out : Below w.heap.size w w69)); clear HO458 HO461 HL470_10 HL470_11 HB; revert n0_ n1_ n2_ n3_ n4_; intro HO458 HO461 HL470_10 HL470_11 HB; clear hg hw hp_))
    (try subst hji20)
    (try subst hji27)
    (try subst hji34)
    (try subst hji47)
    (try subst hji59)
    go_meet
    case rel => exact ⟨_, (y472), H', ⟨by have := HJ4.out; first | omega | exact Nat.le_refl _⟩, ⟨by (with_reducible repeat (first | apply S_alloc | apply S_drewN | apply S_drew)); exact HO461.out⟩, ⟨Short.hB HB⟩⟩
   case rest =>
    clear HC16
    try clear p2
    try clear c3
    try clear p3
    try clear q3
    try clear c4
    try clear p4
    try clear q4
    try clear hx4
    try clear hf4
    try clear c5
    try clear p5
    try clear q5
    try clear hx5
    try clear hf5
    try clear c6
    try clear p6
    try clear q6
    try clear hx6
    try clear hf6
    try clear c7
    try clear p7
    try clear q7
    try clear hx7
    try clear hf7
    try clear c33
    try clear c33b0
    try clear c33b1
    try clear c35
    try clear c36
    try clear c37
    try clear c37b0
    try clear c37b1
    try clear c38
    try clear p38
    try clear q38
    try clear hf38
    try clear c40
    try clear hx40
    try clear hf40
    try clear c42
    try clear p42
    try clear q42
    try clear hx42
    try clear hf42
    try clear c44
    try clear hx44
    try clear hf44
    try clear c46
    try clear c46b0
    try clear c46b1
    try clear p46
    try clear q46
    try clear hx46
    try clear c47
    try clear p47
    try clear q47
    try clear hx47
    try clear c48
    try clear c48b0
    try clear c49
    try clear c49b0
    try clear c50
    try clear c50b0
    try clear c50b1
    try clear c51
    try clear p51
    try clear q51
    try clear hx51
    try clear hf51
    try clear c53
    try clear hx53
    try clear hf53
    try clear c55
    try clear p55
    try clear q55
    try clear hx55
    try clear hf55
    try clear c57
    try clear hx57
    try clear hf57
    try clear c60
    try clear c60b0
    try clear c61
    try clear c61b0
    try clear c62
    try clear c62b0
    try clear c62b1
    try clear c63
    try clear p63
    try clear q63
    try clear hx63
    try clear hf63
    try clear c64
    try clear p64
    try clear q64
    try clear hx64
    try clear hf64
    try clear c66
    try clear hx66
    try clear hf66
    try clear c68
    try clear hx68
    try clear hf68
    try clear c70
    try clear p70
    try clear q70
    try clear hx70
    try clear hf70
    try clear c72
    try clear hx72
    try clear hf72
    try clear hx40_3
    try clear hx42_0
    try clear hx42_1
    try clear hx42_10
    try clear hx42_11
    try clear hx42_12
    try clear hx42_13
    try clear hx42_2
    try clear hx42_3
    try clear hx42_4
    try clear hx42_5
    try clear hx42_6
    try clear hx42_7
    try clear hx42_8
    try clear hx42_9
    try clear hx44_1
    try clear hx464_0
    try clear hx464_1
    try clear hx464_10
    try clear hx464_11
    try clear hx464_12
    try clear hx464_13
    try clear hx464_2
    try clear hx464_3
    try clear hx464_4
    try clear hx464_5
    try clear hx464_6
    try clear hx464_7
    try clear hx464_8
    try clear hx464_9
    try clear hx467_0
    try clear hx467_1
    try clear hx467_10
    try clear hx467_11
    try clear hx467_12
    try clear hx467_13
    try clear hx467_2
    try clear hx467_3
    try clear hx467_4
    try clear hx467_5
    try clear hx467_6
    try clear hx467_7
    try clear hx467_8
    try clear hx467_9
    try clear hx470_0
    try clear hx470_1
    try clear hx470_10
    try clear hx470_11
    try clear hx470_12
    try clear hx470_13
    try clear hx470_2
    try clear hx470_3
    try clear hx470_4
    try clear hx470_5
    try clear hx470_6
    try clear hx470_7
    try clear hx470_8
    try clear hx470_9
    try clear hx51_0
    try clear hx51_1
    try clear hx51_10
    try clear hx51_11
    try clear hx51_12
    try clear hx51_13
    try clear hx51_2
    try clear hx51_3
    try clear hx51_4
    try clear hx51_5
    try clear hx51_6
    try clear hx51_7
    try clear hx51_8
    try clear hx51_9
    try clear hx53_3
    try clear hx55_0
    try clear hx55_1
    try clear hx55_10
    try clear hx55_11
    try clear hx55_12
    try clear hx55_13
    try clear hx55_2
    try clear hx55_3
    try clear hx55_4
    try clear hx55_5
    try clear hx55_6
    try clear hx55_7
    try clear hx55_8
    try clear hx55_9
    try clear hx57_1
    try clear hx63_0
    try clear hx63_1
    try clear hx63_10
    try clear hx63_11
    try clear hx63_12
    try clear hx63_13
    try clear hx63_2
    try clear hx63_3
    try clear hx63_4
    try clear hx63_5
    try clear hx63_6
    try clear hx63_7
    try clear hx63_8
    try clear hx63_9
    try clear hx64_0
    try clear hx64_1
    try clear hx64_10
    try clear hx64_11
    try clear hx64_12
    try clear hx64_13
    try clear hx64_2
    try clear hx64_3
    try clear hx64_4
    try clear hx64_5
    try clear hx64_6
    try clear hx64_7
    try clear hx64_8
    try clear hx64_9
    try clear hx66_0
    try clear hx68_1
    try clear hx70_0
    try clear hx70_1
    try clear hx70_10
    try clear hx70_11
    try clear hx70_12
    try clear hx70_13
    try clear hx70_2
    try clear hx70_3
    try clear hx70_4
    try clear hx70_5
    try clear hx70_6
    try clear hx70_7
    try clear hx70_8
    try clear hx70_9
    try clear hx72_1
    try clear p38
    try clear p42
    try clear p464
    try clear p467
    try clear p470
    try clear p51
    try clear p55
    try clear p63
    try clear p64
    try clear p70
    try clear q38
    try clear q42
    try clear q464
    try clear q467
    try clear q470
    try clear q51
    try clear q55
    try clear q63
    try clear q64
    try clear q70
    obtain ⟨kq, x11_15, HA, HJ15, HO_11, HB⟩ := hcut
    cases kq with
    | zero => exact absurd HA.out (by simp [raddlelaw20_PlanBent.j1])
    | succ kj15 =>
     have H := HA.out
     clear HA
     simp only [raddlelaw20_PlanBent.j1] at H
     replace H := Option.bind_eq_some_iff.mp H
     obtain ⟨⟨t474, t475⟩, A740, H⟩ := H
     replace H : ((plan_Bound.f x11_15 l1).bind fun bt478 => (if t475 = 1 then (if bt478.2.2 = 1 then (if (t474.length : Int) = 0 then (if bt478.1 = 0 then (if bt478.2.1 = 0 then ((raddlelaw20_wakes.f kj15).bind fun t481 => (some t481)) else (some false)) else (some false)) else (some false)) else (some false)) else (some false))) = some r := H
     have A74 := mk_ A740
     clear A740
     replace H := Option.bind_eq_some_iff.mp H
     obtain ⟨⟨t478, t479, t480⟩, A750, H⟩ := H
     replace H : (if t475 = 1 then (if t480 = 1 then (if (t474.length : Int) = 0 then (if t478 = 0 then (if t479 = 0 then ((raddlelaw20_wakes.f kj15).bind fun t481 => (some t481)) else (some false)) else (some false)) else (some false)) else (some false)) else (some false)) = some r := H
     have A75 := mk_ A750
     clear A750
     by_cases c76 : t475 = 1
     rotate_left
     ·
      rw [if_neg c76] at H
      have c76b0 : (t475 == 1) = false := beq_eq_false_iff_ne.mpr c76
      have c76b1 : (t475 != 1) = true := bne_iff_ne.mpr c76
      exact absurd H (by rw [hrt]; simp)
     rw [if_pos c76] at H
     have c76b0 : (t475 == 1) = true := beq_iff_eq.mpr c76
     have c76b1 : (t475 != 1) = false := bne_eq_false_iff_eq.mpr c76
     clear c76
     by_cases c77 : t480 = 1
     rotate_left
     ·
      rw [if_neg c77] at H
      have c77b0 : (t480 == 1) = false := beq_eq_false_iff_ne.mpr c77
      have c77b1 : (t480 != 1) = true := bne_iff_ne.mpr c77
      exact absurd H (by rw [hrt]; simp)
     rw [if_pos c77] at H
     have c77b0 : (t480 == 1) = true := beq_iff_eq.mpr c77
     have c77b1 : (t480 != 1) = false := bne_eq_false_iff_eq.mpr c77
     clear c77
     by_cases c78 : (t474.length : Int) = 0
     rotate_left
     ·
      rw [if_neg c78] at H
      have c78b0 : ((t474.length : Int) == 0) = false := beq_eq_false_iff_ne.mpr c78
      have c78b1 : ((t474.length : Int) != 0) = true := bne_iff_ne.mpr c78
      have c78b2 : ¬ (t474 = []) := fun h_ => c78 (by rw [h_]; rfl)
      exact absurd H (by rw [hrt]; simp)
     rw [if_pos c78] at H
     have c78b0 : ((t474.length : Int) == 0) = true := beq_iff_eq.mpr c78
     have c78b1 : ((t474.length : Int) != 0) = false := bne_eq_false_iff_eq.mpr c78
     clear c78
     by_cases c79 : t478 = 0
     rotate_left
     ·
      rw [if_neg c79] at H
      have c79b0 : (t478 == 0) = false := beq_eq_false_iff_ne.mpr c79
      have c79b1 : (t478 != 0) = true := bne_iff_ne.mpr c79
      exact absurd H (by rw [hrt]; simp)
     rw [if_pos c79] at H
     have c79b0 : (t478 == 0) = true := beq_iff_eq.mpr c79
     have c79b1 : (t478 != 0) = false := bne_eq_false_iff_eq.mpr c79
     clear c79
     by_cases c80 : t479 = 0
     rotate_left
     ·
      rw [if_neg c80] at H
      have c80b0 : (t479 == 0) = false := beq_eq_false_iff_ne.mpr c80
      have c80b1 : (t479 != 0) = true := bne_iff_ne.mpr c80
      exact absurd H (by rw [hrt]; simp)
     rw [if_pos c80] at H
     have c80b0 : (t479 == 0) = true := beq_iff_eq.mpr c80
     have c80b1 : (t479 != 0) = false := bne_eq_false_iff_eq.mpr c80
     clear c80
     replace H := Option.bind_eq_some_iff.mp H
     obtain ⟨t481, A810, H⟩ := H
     replace H : (some t481) = some r := H
     have A81 := mk_ A810
     clear A810
     obtain rfl := Option.some.inj H
     obtain ⟨Ao82, co82, eo82⟩ := S_slice HO_11.out
     subst eo82
     go_wp2_with (first | ((with_reducible refine gate_callee (f := 12) rfl ?_); refine Short.gL (some 114) Try.func12 #[.slice Ao82 x11_15.length co82, .slice A1 l1.length c1] (h := ?_); (with_reducible refine (plan_Check.calls _ _ x11_15 _ _ l1 t474 t475 _ ?side1 ?side2 ?side3 ?side4 A74.out).mono ?_); (case side1 => exact cX_ (S_reads' HO_11.out).2.2); (case side2 => exact (S_reads' HO_11.out).2.1); (case side3 => exact cX_ (C_below HR1.out HB.out)); (case side4 => exact HC1.out); rintro e w83 ⟨v476, rfl, ho0, hb⟩; refine ⟨_, rfl, ?_⟩; have n0_ := mk_ (S_elder' (by (with_reducible repeat (first | apply S_alloc | apply S_drewN | apply S_drew)); exact HO_11.out) (R_base ho0) hb); have n1_ := mk_ (R_lower ho0 (below_size (Short.hB HB))); have n2_ := mk_ (below_step (Short.hB HB) hb); clear HO_11 HB; revert n0_ n1_ n2_; intro HO_11 HO477 HB; (try clear hb ho0)) | ((with_reducible refine gate_callee (f := 13) rfl ?_); refine Short.gL (some 120) Try.func13 #[.slice Ao82 x11_15.length co82, .slice A1 l1.length c1] (h := ?_); (with_reducible refine (plan_Bound.calls _ _ x11_15 _ _ l1 t478 t479 t480 _ ?side1 ?side2 ?side3 ?side4 A75.out).mono ?_); (case side1 => exact cX_ (S_reads' HO_11.out).2.2); (case side2 => exact (S_reads' HO_11.out).2.1); (case side3 => exact cX_ (C_below HR1.out HB.out)); (case side4 => exact HC1.out); rintro e w84 ⟨rfl, hb⟩; refine ⟨_, rfl, ?_⟩; have n0_ := mk_ (S_below (by (with_reducible repeat (first | apply S_alloc | apply S_drewN | apply S_drew)); exact HO_11.out) hb); have n1_ := mk_ (R_below (ZKR HO477) hb); have n2_ := mk_ (below_step (Short.hB HB) hb); clear HO_11 HO477 HB; revert n0_ n1_ n2_; intro HO_11 HO477 HB; (try clear hb); obtain ⟨Ao85, co85, eo85⟩ := R_slice HO477.out; subst eo85) | (go_at_call 14; (with_reducible refine (raddlelaw20_wakes.calls kj15  t481 _ A81.out).mono ?_); rintro e w86 ⟨rfl, hb⟩; have n0_ := mk_ (S_below (by (with_reducible repeat (first | apply S_alloc | apply S_drewN | apply S_drew)); exact HO_11.out) hb); have n1_ := mk_ (R_below (ZKR HO477) hb); have n2_ := mk_ (below_step (Short.hB HB) hb); clear HO_11 HO477 HB; revert n0_ n1_ n2_; intro HO_11 HO477 HB; (try clear hb); (try clear hb2); (try clear hk); (try clear hi)))
     go_ret
     exact ⟨q0, Short.hB HB⟩
def raddlelaw20_PlanBent.WF29 (x : S29) : Prop := (Lit.int .i64 x.f0).wf = true ∧ (Lit.int .i64 x.f1).wf = true ∧ x.f2.size ≤ maxLen
def raddlelaw20_PlanBent.WF31 (x : S31) : Prop := (Lit.int .i64 x.f0).wf = true ∧ (Lit.int .i64 x.f1).wf = true ∧ (Lit.int .i64 x.f2).wf = true ∧ raddlelaw20_PlanBent.WF29 x.f3
def raddlelaw20_PlanBent.WF34 (x : S34) : Prop := (Lit.int .i64 x.f0).wf = true ∧ (Lit.int .i64 x.f1).wf = true ∧ (Lit.int .i64 x.f2).wf = true ∧ (Lit.int .i64 x.f3).wf = true ∧ raddlelaw20_PlanBent.WF31 x.f4 ∧ (x.f5.length ≤ maxLen ∧ ∀ x0_ ∈ x.f5, (Lit.int .i64 x0_).wf = true) ∧ (x.f6.length ≤ maxLen ∧ ∀ x0_ ∈ x.f6, (Lit.int .i64 x0_).wf = true) ∧ (Lit.int .i64 x.f7).wf = true ∧ (Lit.int .i64 x.f8).wf = true
def raddlelaw20_PlanBent.WF54 (x : S54) : Prop := (x.f0.length ≤ maxLen ∧ ∀ x0_ ∈ x.f0, (Lit.int .i64 x0_).wf = true)
def raddlelaw20_PlanBent.Pure : Prop := ∀ (x0 : List (S34)) (x1 : List (S54)) (x2 : Int) (x3 : Int), (x0.length ≤ maxLen ∧ ∀ x0_ ∈ x0, raddlelaw20_PlanBent.WF34 x0_) → (x1.length ≤ maxLen ∧ ∀ x0_ ∈ x1, raddlelaw20_PlanBent.WF54 x0_) → (Lit.int .i64 x2).wf = true → (Lit.int .i64 x3).wf = true → ∃ k, raddlelaw20_PlanBent.f k x0 x1 x2 x3 = some true
end Go.Proofs.Ytimbbaoodjhdoaa.PAll
end
section
namespace Go.Proofs.Ytimbbaoodjhdoaa.Plan
open Go.RowKit PAll Plain PrintWords PrintLast PrintMore ZipT PrintWords.Kd PrintMore.Kd
set_option linter.unusedVariables false
set_option linter.unusedSimpArgs false
theorem walk_ok {l : List No} {f : List Tb} (h : (planN l f).2 = 0) : FOk f ∧ 1 ≤ l.length ∧ l.length ≤ 12 ∧ planN l f = walkN f l [] ∧ (walkN f l []).2 = 0 ∧ (walkN f l []).1.length = l.length := by
 obtain ⟨h1, h2, h3, h4⟩ := planN_len h
 have hg := planN_go h4 h2 h3
 exact ⟨h4, h2, h3, hg, by rw [← hg]; exact h, by rw [← hg]; exact h1⟩
theorem walk_take {f : List Tb} : ∀ (l : List No) (done : List Nd) (k : Nat), (walkN f l done).2 = 0 → (walkN f (l.take k) done).2 = 0
 | [], done, k, h => by rw [List.take_nil]; rfl
 | x :: r, done, 0, h => rfl
 | x :: r, done, k + 1, h => by
  rw [List.take_succ_cons]
  unfold walkN at h ⊢
  split at h
  ·
   rename_i he; rw [if_pos he]; exact walk_take r _ k h
  ·
   rename_i he; exact absurd h he
theorem plan_bent {l : List No} {f : List Tb} (h : (planN l f).2 = 0) {k : Nat} (hk : k < l.length) (y : No) (hy : ∀ done : List Nd, done.length = k → look f done y = (zN, 1)) : planN (l.set k y) f = ([], 1) := by
 obtain ⟨g1, g2, g3, g4, g5, g6⟩ := walk_ok h
 have hs : l.set k y = l.take k ++ (y :: l.drop (k + 1)) := by
  rw [List.set_eq_take_append_cons_drop, if_pos hk]
 rw [planN_go g1 (by rw [List.length_set]; omega) (by rw [List.length_set]; omega), hs, walkN_append _ _ _ (walk_take l [] k g5)]
 have hl := walkN_len (l.take k) [] (walk_take l [] k g5)
 rw [List.length_take, Nat.min_eq_left z5, List.length_nil, Nat.zero_add] at hl
 unfold walkN
 rw [hy _ hl, if_neg z11]
theorem look_behind (f : List Tb) (done : List Nd) (x : No) (h1 : x.f0 ≠ 1) (ha : ahead done x.f1 = false) : look f done x = (zN, 1) := by
 unfold look filterN projectN joinN bothN distinctN groupN
 simp [ha, h1]
theorem look_kind (f : List Tb) (done : List Nd) (x : No) (h : x.f0 < 1 ∨ 8 < x.f0) : look f done x = (zN, 1) := by
 unfold look
 rw [if_neg z5, if_neg z5, if_neg z5, if_neg z5, if_neg z5, if_neg z5, if_neg z5]
theorem look_noscan (f : List Tb) (done : List Nd) (x : No) (h : x.f0 = 1) (h3 : x.f3 < 0 ∨ (f.length : Int) ≤ x.f3) : look f done x = (zN, 1) := by
 unfold look scanN
 rw [if_pos h, if_pos z5]
end Go.Proofs.Ytimbbaoodjhdoaa.Plan
end
section
namespace Go.Proofs.Ytimbbaoodjhdoaa.Pure
open Go.RowKit PAll PrintWords PrintLast PrintMore Plain Plan ZipT PrintWords.Kd PrintMore.Kd
set_option linter.unusedVariables false
set_option linter.unusedSimpArgs false
theorem twinNodes_l0 (l : List No) (hl : l.length ≤ 1000) (hs : ∀ x ∈ l, x.f5.length ≤ 1000 ∧ x.f6.length ≤ 1000) (m : List No) : ∀ (k i : Nat) (acc : List No), l.drop i = m → acc.length + m.length ≤ 1000 → m.length < k →
  raddlekeep_TwinNodes.l0 k l acc (i : Int) = some (acc ++ m) := by
 induction m with
 | nil =>
  intro k i acc h ha hk
  obtain ⟨k, rfl⟩ : ∃ j, k = j + 1 := ⟨k - 1, by omega⟩
  have := List.drop_eq_nil_iff.1 h
  simp only [raddlekeep_TwinNodes.l0]
  rw [if_neg z5, List.append_nil]
 | cons v m ih =>
  intro k i acc h ha hk
  obtain ⟨k, rfl⟩ : ∃ j, k = j + 1 := ⟨k - 1, by omega⟩
  obtain ⟨h1, h2⟩ := drop_next h
  rw [List.length_cons] at hk ha
  have hv := hs v (List.mem_of_mem_drop (show v ∈ l.drop i by rw [h]; exact List.mem_cons_self))
  simp only [raddlekeep_TwinNodes.l0]
  rw [if_pos z5, if_pos z5, rdN_drop h, twinInts_eq v.f5 z5, Option.bind_some, twinInts_eq v.f6 z5, Option.bind_some, if_pos z5, wrapn i z5]
  have := ih k (i + 1) (acc ++ [v]) h1 (by rw [List.length_append, List.length_singleton]; omega) z5
  rw [List.append_assoc] at this
  exact this
theorem twinNodes_eq (k : Nat) (l : List No) (hl : l.length ≤ 1000) (hs : ∀ x ∈ l, x.f5.length ≤ 1000 ∧ x.f6.length ≤ 1000) (hk : l.length < k) : raddlekeep_TwinNodes.f k l = some l := by
 unfold raddlekeep_TwinNodes.f
 exact twinNodes_l0 l hl hs l k 0 [] rfl (by rw [List.length_nil]; omega) hk
theorem bent_end {l : List No} {f : List Tb} (hs : planSmall l f) (h : (planN l f).2 = 0) {kk : Nat} (hk : kk < l.length) (y : No) (h5 : y.f5.length ≤ 1000) (h6 : y.f6.length ≤ 1000) (hy : ∀ done : List Nd, done.length = kk → Plan.look f done y = (zN, 1)) :
  raddlelaw20_PlanBent.j1 200 f (l.set kk y) = some true := by
 have hp := plan_bent h hk y hy
 have hz : lastN (l.set kk y) f = zN := lastN_err (by rw [hp]; decide)
 have hs2 : planSmall (l.set kk y) f := ⟨by rw [List.length_set]; exact hs.1, hs.2.1, fun x hx => by
  rcases List.mem_or_eq_of_mem_set hx with e | e
  ·
   exact hs.2.2.1 x e
  ·
   rw [e]; exact ⟨h5, h6⟩, hs.2.2.2⟩
 simp only [raddlelaw20_PlanBent.j1]
 rw [check_eq hs2, bound_eq hs2, Option.bind_some, Option.bind_some, hz, hp]
 rw [if_pos (by first | rfl | trivial), if_pos (by first | rfl | trivial), if_pos z12, if_pos z12, if_pos z12, wakes_bind 199 z5]
theorem rdN_set (l : List No) (kk : Nat) (hk : kk < l.length) (y : No) : rd_T34 (l.set kk y) (kk : Int) = y := by
 show (l.set kk y).getD (kk : Int).toNat _ = y
 rw [Int.toNat_natCast, List.getD_eq_getElem?_getD, List.getElem?_set_self hk]; rfl
theorem ahead_no (done : List Nd) (a : Int) (h : a < 0 ∨ (done.length : Int) ≤ a) : Plan.ahead done a = false := by
 unfold Plan.ahead; rw [decide_eq_false]; omega
theorem PlanBent : raddlelaw20_PlanBent.Pure := by
 intro l f a b _ _ _ _
 refine ⟨200 + 1, ?_⟩
 have hj : raddlelaw20_PlanBent.j0 201 l f a b true = some true := rfl
 unfold raddlelaw20_PlanBent.f
 rw [hvN_eq 201 l z5, Option.bind_some]
 by_cases hv : hvN l = true
 ·
  rw [if_pos hv]; exact hj
 rw [if_neg hv, hvF_eq 201 f z5, Option.bind_some]
 by_cases hw : hvF f = true
 ·
  rw [hw]; exact hj
 have hs := small_of l f (Bool.eq_false_iff.mpr hv) (Bool.eq_false_iff.mpr hw)
 rw [Bool.eq_false_iff.mpr hw]
 simp only [raddlelaw20_PlanBent.j0]
 rw [if_neg z11, plan14_eq hs, Option.bind_some]
 by_cases h : (planN l f).2 = 0
 rotate_left
 ·
  rw [if_neg h]
 obtain ⟨g1, g2, g3, g4⟩ := planN_len h
 have hbig := hs.2.2.1
 rw [if_pos h, wu64 (x := (l.length : Int)) z5 z5, if_neg z5, twinNodes_eq 200 l hs.1 hbig z5, Option.bind_some]
 have hx : 0 ≤ u64.wrap a := by rw [u64_mod]; exact Int.emod_nonneg _ z11
 have hy : 0 ≤ u64.wrap b := by rw [u64_mod]; exact Int.emod_nonneg _ z11
 rw [Int.tmod_eq_emod_of_nonneg hx]
 have h1 := Int.emod_nonneg (u64.wrap a) (show (l.length : Int) ≠ 0 by omega)
 have h2 := Int.emod_lt_of_pos (u64.wrap a) (show (0 : Int) < l.length by omega)
 rw [w64 z5 z5]
 generalize u64.wrap a % (l.length : Int) = q at h1 h2 ⊢
 obtain ⟨kk, rfl⟩ := Int.eq_ofNat_of_zero_le h1
 have hk : kk < l.length := by omega
 have hm : rd_T34 l (kk : Int) ∈ l := getD_mem (by rw [Int.toNat_natCast]; exact hk)
 obtain ⟨e5, e6⟩ := hbig _ hm
 rw [if_pos h1, if_pos h2, Int.toNat_natCast]
 simp only [Option.bind_some, List.set_set, List.length_set, rdN_set l kk hk, if_pos h1, if_pos h2]
 generalize rd_T34 l (kk : Int) = e at *
 by_cases c0 : (u64.wrap b).tmod 5 = 0
 ·
  rw [if_pos c0]
  exact bent_end hs h hk _ e5 e6 (fun d hd => look_kind f d _ (.inl (by show (0 : Int) < 1; decide)))
 rw [if_neg c0]
 by_cases c1 : (u64.wrap b).tmod 5 = 1
 ·
  rw [if_pos c1]
  exact bent_end hs h hk _ e5 e6 (fun d hd => look_kind f d _ (.inr (by show (8 : Int) < 9; decide)))
 rw [if_neg c1]
 by_cases c2 : (u64.wrap b).tmod 5 = 2
 ·
  rw [if_pos c2]
  by_cases k1 : e.f0 = 1
  ·
   rw [if_pos k1]
   exact bent_end hs h hk _ e5 e6 (fun d hd => look_noscan f d _ k1 (.inr (Int.le_refl _)))
  rw [if_neg k1]
  exact bent_end hs h hk _ e5 e6 (fun d hd => look_behind f d _ k1 (ahead_no d _ (.inr (by show (d.length : Int) ≤ (kk : Int); omega))))
 rw [if_neg c2]
 by_cases c3 : (u64.wrap b).tmod 5 = 3
 ·
  rw [if_pos c3]
  by_cases k1 : e.f0 = 1
  ·
   rw [if_pos k1]
   exact bent_end hs h hk _ e5 e6 (fun d hd => look_noscan f d _ k1 (.inl (by show (-1 : Int) < 0; decide)))
  rw [if_neg k1]
  exact bent_end hs h hk _ e5 e6 (fun d hd => look_behind f d _ k1 (ahead_no d _ (.inl (by show (-1 : Int) < 0; decide))))
 rw [if_neg c3]
 by_cases k1 : e.f0 = 1
 ·
  rw [if_pos k1]
  exact bent_end hs h hk _ e5 e6 (fun d hd => look_behind f d _ (by show (7 : Int) ≠ 1; decide) (ahead_no d _ (.inr (by show (d.length : Int) ≤ (kk : Int); omega))))
 rw [if_neg k1]
 exact bent_end hs h hk _ e5 e6 (fun d hd => look_behind f d _ k1 (ahead_no d _ (.inr (by show (d.length : Int) ≤ (l.length : Int); omega))))
end Go.Proofs.Ytimbbaoodjhdoaa.Pure
end
