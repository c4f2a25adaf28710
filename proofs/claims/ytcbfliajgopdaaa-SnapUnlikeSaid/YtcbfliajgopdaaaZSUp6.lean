-- Put together by a program of this session (wip/slice2.py) out of the seat's texts.
import Derived.Test.YtcbfliajgopdaaaZSUp5
import Derived.IntWalk
set_option maxHeartbeats 8000000
set_option maxRecDepth 100000
open Go.Proofs.YtcbfliajgopdaaaW Go.Proofs.Ytcbfliajgopdaaa
section
namespace Go.Proofs.Ytcbfliajgopdaaa.Pads
open Go.RowKit PrintWords PrintLast PrintMore Go.Proofs.Ytcbfliajgopdaaa.Sep ZipT PrintWords.Kd PrintMore.Kd
set_option linter.unusedVariables false
set_option linter.unusedSimpArgs false
section
variable {w : World} {g : Nat} {p : Pd} {F : List Part}
set_option maxHeartbeats 4000000 in
theorem crash_off {t : Value} (A1 : Option Addr) (n1 c1 : Nat) (torn : Int) (ho : p.off = true) (hS : Sp w (PadQ g p t :: F)) : Calls Try.prog 23 #[.pointer (some ⟨g, 0, none⟩), .slice A1 n1 c1, .int .i64 torn] w fun e w' => (∃ v, e = .returned v) ∧ w = w' := by
 obtain ⟨A, c, hc, h0, h1, h2, h3, h4, hfz⟩ := gH hS
 rw [ho] at h2
 clear hS ho hfz h0 h1 h3 h4
 go_enter Try.func23, Try.ntmps23
 go_wp2
 (try simp only [Exit.inBlock, Exit.then])
 refine bodyPost_ret (results_none rfl _ _ _) rfl ?_
 exact ⟨⟨_, rfl⟩, rfl⟩
def upTo (p : Pd) (keep : List Bool) (torn : Int) (k : Nat) : Pd := { p with slots := p.slots.take p.safe ++ (spoil keep torn 0 (p.slots.drop p.safe)).take k ++ p.slots.drop (p.safe + k) }
theorem upTo_zero (p : Pd) (keep : List Bool) (torn : Int) : upTo p keep torn 0 = p := by
 unfold upTo
 simp
theorem upTo_length (p : Pd) (hs : p.safe ≤ p.slots.length) (keep : List Bool) (torn : Int) (k : Nat) (hk : p.safe + k ≤ p.slots.length) : (upTo p keep torn k).slots.length = p.slots.length := by
 simp only [upTo, List.length_append, List.length_take, List.length_drop, fX]; omega
theorem upTo_succ (p : Pd) (hs : p.safe ≤ p.slots.length) (keep : List Bool) (torn : Int) (k : Nat) (hk : p.safe + k < p.slots.length) :
  (upTo p keep torn (k + 1)).slots = if lost keep torn k then (upTo p keep torn k).slots.set (p.safe + k) ([], true) else (upTo p keep torn k).slots := by
 have hl : p.slots.drop (p.safe + k) = p.slots[p.safe + k] :: p.slots.drop (p.safe + (k + 1)) := by rw [List.drop_eq_getElem_cons hk]; rfl
 have hsp : (spoil keep torn 0 (p.slots.drop p.safe)).take (k + 1) = (spoil keep torn 0 (p.slots.drop p.safe)).take k ++ [if lost keep torn k then ([], true) else p.slots[p.safe + k]] := by
  rw [List.take_add_one, spoil_get, List.getElem?_drop, List.getElem?_eq_getElem hk, Nat.zero_add]; rfl
 have hlen : (p.slots.take p.safe ++ (spoil keep torn 0 (p.slots.drop p.safe)).take k).length = p.safe + k := by
  simp only [List.length_append, List.length_take, List.length_drop, fX]; omega
 unfold upTo
 dsimp only
 rw [hsp, hl]
 split
 ·
  rw [List.set_append_right _ _ (by rw [hlen]; exact Nat.le_refl _), hlen, Nat.sub_self]
  simp
 ·
  simp
theorem upTo_all (p : Pd) (keep : List Bool) (torn : Int) (k : Nat) (hk : k = p.slots.length - p.safe) : (upTo p keep torn k).slots = p.slots.take p.safe ++ spoil keep torn 0 (p.slots.drop p.safe) := by
 have h1 : (spoil keep torn 0 (p.slots.drop p.safe)).take k = spoil keep torn 0 (p.slots.drop p.safe) := List.take_of_length_le (by rw [fX, List.length_drop]; omega)
 have h2 : p.slots.drop (p.safe + k) = [] := List.drop_eq_nil_iff.2 z2_
 unfold upTo
 dsimp only
 rw [h1, h2, List.append_nil]
theorem upTo_eq (p : Pd) (keep : List Bool) (torn : Int) (k : Nat) (l : List Sl) (h : (upTo p keep torn (k + 1)).slots = l) : upTo p keep torn (k + 1) = { p with slots := l } := by
 rw [← h]; rfl
theorem lost_M (w : World) : kSl.M w 0 (fun _ => False) ([], true) [.slice none 0 0, .bool true] := ⟨[.slice none 0 0], [.bool true], rfl, ⟨_, rfl, R_nil _ _ _ _ _⟩, rfl⟩
set_option maxHeartbeats 4000000 in
theorem crash_on {K : Part} {t : Value} (A1 : Option Addr) (c1 : Nat) (keep : List Bool) (torn : Int) (ho : p.off = false) (hok : p.Ok) (hS : Sp w (PadQ g p t :: K :: F)) (hK : ∀ w ok, K.P w ok → Kd.C Kd.bool w A1 keep.length keep) :
  Calls Try.prog 23 #[.pointer (some ⟨g, 0, none⟩), .slice A1 keep.length c1, .int .i64 torn] w fun e w' => (∃ v, e = .returned v) ∧ Sp w' (PadQ g (p.crash keep torn) (.pointer none) :: K :: F) := by
 obtain ⟨A, c, hc, h0, h1, h2, h3, h4, hfz⟩ := gH hS
 rw [ho] at h2
 have hs := hok.safe
 have hl := hok.len
 have hz1 : decide ((p.safe : Int) < 0) = false := decide_eq_false z2_
 have HS := mk_ hS
 have HK := mk_ hK
 have HF := mk_ hfz
 have HO := mk_ hok
 have HOF := mk_ ho
 clear hS hK hfz hok ho
 go_enter Try.func23, Try.ntmps23
 go_wp2
 go_quiet (fail)
 go_wp2
 all_goals
  go_loopg [21] (p.slots.length - p.safe) (fun kq v21 w' => ∃ k : Nat, v21 = .int .i64 (k : Int) ∧ Aside0 (k + kq = p.slots.length - p.safe) ∧ Aside0 (Sp w' (PadQ g (upTo p keep torn k) t :: K :: F)))
  case atStart => exact ⟨0, rfl, ⟨Nat.zero_add _⟩, ⟨by rw [upTo_zero]; exact HS.out.drewN _⟩⟩
  case round =>
   obtain ⟨k, rfl, HK1, HS1⟩ := hrel
   clear HS h0 h1 h2 h3 h4 HF
   obtain ⟨A', c', hc', h0, h1, h2, h3, h4, hfz⟩ := gH HS1.out
   have hlen : (upTo p keep torn k).slots.length = p.slots.length := upTo_length p hs keep torn k (by have := HK1.out; omega)
   have hsf : (upTo p keep torn k).safe = p.safe := rfl
   have hof : (upTo p keep torn k).off = p.off := rfl
   have hli : (upTo p keep torn k).life = p.life := rfl
   rw [hlen] at h0 hc'
   rw [hsf] at h1
   rw [hof] at h2
   rw [hli] at h3
   have HL := mk_ hlen
   have HF := mk_ hfz
   clear hfz hlen hsf hof hli
   by_cases hlt : k < p.slots.length - p.safe
   ·
    have hb1 : decide (k < p.slots.length - p.safe) = true := decide_eq_true hlt
    obtain ⟨v, hS2⟩ := PadQ.open HS1.out
    obtain ⟨gr, cap, rfl⟩ : ∃ gr cap, v = .slice (some ⟨gr, 0, none⟩) (upTo p keep torn k).slots.length cap := (hS2.tail.has).elim fun _ h => row_form h (by rw [HL.out]; omega)
    have hg0 : wr.cell? ⟨g, 0, none⟩ = _ := aC hS2.blk 0
    rw [HL.out] at hg0
    rw [hg0] at h0
    obtain ⟨rfl, rfl⟩ : (some ⟨gr, 0, none⟩ : Option Addr) = A' ∧ cap = c' := by
     have := Option.some.inj h0
     injection this with a1 a2 a3
     exact ⟨a1, a3⟩
    rw [← hg0] at h0
    clear h0
    have hs3 := hS2.s1
    rw [HL.out] at hs3
    obtain ⟨cc, hcl, hcc, hcf, _⟩ := Sp.elem hs3 ([], false) (p.safe + k) z2_
    obtain ⟨u0, u1, rfl⟩ : ∃ u0 u1, cc = [u0, u1] := by
     rcases cc with _ | ⟨u0, _ | ⟨u1, _ | ⟨u2, r⟩⟩⟩ <;> simp [kSl, Kd.pair, Kd.slice, Kd.bool, Kd.scalar] at hcl
     exact ⟨u0, u1, rfl⟩
    have hc0 : wr.cell? ⟨gr, (p.safe + k) * 2, none⟩ = some u0 := hcc 0 u0 rfl
    have hc1 : wr.cell? ⟨gr, (p.safe + k) * 2 + 1, none⟩ = some u1 := hcc 1 u1 rfl
    have hf0 : wr.frozen? ⟨gr, (p.safe + k) * 2, none⟩ = false := hcf 0
    have hf1 : wr.frozen? ⟨gr, (p.safe + k) * 2 + 1, none⟩ = false := hcf 1
    have HS3 := mk_ hs3
    clear hS2 hs3 hcc hcf hcl
    have hnx := upTo_succ p hs keep torn k z2_
    have hi1 : (p.safe : Int) + (k : Int) < (p.slots.length : Int) := by omega
    have hi2 : ((p.safe : Int) + (k : Int)).toNat = p.safe + k := by omega
    have hi3 : IntKind.i64.wrap ((p.safe : Int) + (k : Int)) = (p.safe : Int) + (k : Int) := IntWalk.i64_in _ z2_
    have hi0 : 0 ≤ (p.safe : Int) + (k : Int) := by omega
    have hw1 : (k : Int) ≤ 4000 := by omega
    cases gk with
    | zero => exact absurd HK1.out z2_
    | succ k1 =>
    by_cases hlo : lost keep torn k
    ·
     rw [if_pos hlo] at hnx
     have HN := mk_ hnx
     clear hnx
     by_cases ht : (k : Int) = torn
     ·
      have hb2 : ((k : Int) == torn) = true := beq_iff_eq.mpr ht
      have HLT := mk_ hlt
      clear hlt hlo ht
      go_wp2
      go_region
      all_goals
       go_wp2
       go_roundg k1
       case measure => exact Nat.lt_succ_self _
       case rel =>
        refine ⟨k + 1, by first | rfl | simp, ⟨by have := HK1.out; omega⟩, ⟨?_⟩⟩
        rw [upTo_eq p keep torn k _ HN.out]
        have h5 := (HS3.out.setElem (p.safe + k) z2_ ([], true) [.slice none 0 0, .bool true] (lost_M _)).s1
        exact (PadQ.shut (p := { p with slots := (upTo p keep torn k).slots.set (p.safe + k) ([], true) }) h5).drew
     ·
      have hb2 : ((k : Int) == torn) = false := beq_eq_false_iff_ne.mpr ht
      by_cases hkl : keep.length ≤ k
      ·
       have hb3 : decide (keep.length ≤ k) = true := decide_eq_true hkl
       have HLT := mk_ hlt
       clear hlt hlo ht hkl
       go_wp2
       go_region
       all_goals
        go_wp2
        go_roundg k1
        case measure => exact Nat.lt_succ_self _
        case rel =>
         refine ⟨k + 1, by first | rfl | simp, ⟨by have := HK1.out; omega⟩, ⟨?_⟩⟩
         rw [upTo_eq p keep torn k _ HN.out]
         have h5 := (HS3.out.setElem (p.safe + k) z2_ ([], true) [.slice none 0 0, .bool true] (lost_M _)).s1
         exact (PadQ.shut (p := { p with slots := (upTo p keep torn k).slots.set (p.safe + k) ([], true) }) h5).drew
      ·
       have hb3 : decide (keep.length ≤ k) = false := decide_eq_false hkl
       obtain ⟨ad, rfl, hck⟩ := Kd.at_bool ((HS1.out.tail.has).elim fun ok h => HK.out wr ok h) (k : Int) z2_ z2_
       have hkf : rdOf false keep (k : Int) = false := by
        rcases hlo with h | h
        ·
         exact absurd h ht
        ·
         exact h
       rw [hkf, Int.toNat_natCast] at hck
       have hkk : (k : Int) < (keep.length : Int) := by omega
       have HLT := mk_ hlt
       clear hlt hlo ht hkl hkf
       go_wp2
       go_region
       all_goals
        go_wp2
        go_roundg k1
        case measure => exact Nat.lt_succ_self _
        case rel =>
         refine ⟨k + 1, by first | rfl | simp, ⟨by have := HK1.out; omega⟩, ⟨?_⟩⟩
         rw [upTo_eq p keep torn k _ HN.out]
         have h5 := (HS3.out.setElem (p.safe + k) z2_ ([], true) [.slice none 0 0, .bool true] (lost_M _)).s1
         exact (PadQ.shut (p := { p with slots := (upTo p keep torn k).slots.set (p.safe + k) ([], true) }) h5).drew
    ·
     rw [if_neg hlo] at hnx
     have HN := mk_ hnx
     have hb2 : ((k : Int) == torn) = false := beq_eq_false_iff_ne.mpr (fun h => hlo (.inl h))
     have hkt : keep.getD k false = true := by
      cases hz : keep.getD k false with
      | true => rfl
      | false => exact absurd (.inr hz) hlo
     have hkl : k < keep.length := by
      rcases Nat.lt_or_ge k keep.length with h | h
      ·
       exact h
      ·
       rw [List.getD_eq_getElem?_getD, List.getElem?_eq_none h] at hkt; cases hkt
     have hb3 : decide (keep.length ≤ k) = false := decide_eq_false z2_
     obtain ⟨ad, rfl, hck⟩ := Kd.at_bool ((HS1.out.tail.has).elim fun ok h => HK.out wr ok h) (k : Int) z2_ z2_
     have hkf : rdOf false keep (k : Int) = true := hkt
     rw [hkf, Int.toNat_natCast] at hck
     have hkk : (k : Int) < (keep.length : Int) := by omega
     have HLT := mk_ hlt
     clear hlt hlo hkl hkf hkt hnx
     go_wp2
     go_roundg k1
     case measure => exact Nat.lt_succ_self _
     case rel =>
      refine ⟨k + 1, by first | rfl | simp, ⟨by have := HK1.out; omega⟩, ⟨?_⟩⟩
      rw [upTo_eq p keep torn k _ HN.out]
      exact HS1.out
   ·
    have hb1 : decide (k < p.slots.length - p.safe) = false := decide_eq_false hlt
    have hkm : k = p.slots.length - p.safe := by have := HK1.out; omega
    have HKM := mk_ hkm
    clear hlt hkm
    have hf1 := HF.out 1
    have hf2 := HF.out 2
    have hf3 := HF.out 3
    have hf4 := HF.out 4
    go_wp2
    (try simp only [Exit.inBlock, Exit.then])
    go_end0
    refine ⟨⟨_, rfl⟩, ?_⟩
    obtain ⟨v, hS⟩ := PadQ.open HS1.out
    have hfin := ((((hS.store 2 (.bool true)).store 1 (.int .i64 (p.slots.length : Int))).store 4 (.pointer none)).store 3 (.int .i64 (wrap64 (p.life + 1))))
    rw [Pd.crash_on p HOF.out]
    have he := upTo_all p keep torn k HKM.out
    rw [he] at hfin
    exact PadQ.shut hfin
end
end Go.Proofs.Ytcbfliajgopdaaa.Pads
end
