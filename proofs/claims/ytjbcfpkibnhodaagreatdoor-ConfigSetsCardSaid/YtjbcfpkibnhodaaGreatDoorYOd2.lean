/-
  Places of own rows. slices.CompactFunc at configurations. binding, proctorref05: the search for a variable; which bindings are the same, under one, fit. binding, proctorref05: which may be; under, fits, union. copy at elements of several cells. slices.Insert at slots: in place. slices.Insert at slots: at the end, and where there is no room. slices.Insert at slots: in the middle, where there is no room. slices.Insert at slots, as a contract on rows. slices.Insert at slots: the contract. binding.Of. slices.Grow of nothing, slices.Concat of two, at slots; binding.Union. A range over a function, walked: the loop's record, and one round. binding.both and what it ranges over: the pieces. binding.both's function: each slot with what the other binding has. binding.Under, walked. binding.Fits, walked. binding.Under, binding.Fits: the contracts; binding.Union. binding.Same; proctorref05.Under, Fits. binding.Less. The order of bindings: total, of values that may be. The order of configurations: total, of values that may be; their sets, two ways. No claim is proved here.
-/
import Derived.Test.YtjbcfpkibnhodaaGreatDoorYAcR1
import Derived.Test.YtjbcfpkibnhodaaGreatDoorYC1
import Derived.Test.YtjbcfpkibnhodaaGreatDoorYOd1
import Derived.Test.YtjbcfpkibnhodaaGreatDoorYAbPan
import Derived.Laws.CopyRow
import Derived.Shelf.Spec.SlicesInsertGrow
import Derived.Test.YtjbcfpkibnhodaaGreatDoorYAbHeap2
import Derived.RangeFuncRecord
import Derived.RangeFuncMany
import Derived.Below
import Derived.RangeFuncNested
import Derived.RangeFuncBound
import Derived.RangeFuncCalls
import Derived.RangeFuncLeaves
import Derived.OwnWalkIn
import Derived.TacticsInMore
import Derived.LoopNIn
import Derived.LoopIn
import Derived.Test.YtjbcfpkibnhodaaGreatDoorYV14
import Derived.Shelf.Abstract
import Derived.Shelf.RegionOpen
import Derived.Laws.CopyOwn
import Derived.Test.YtjbcfpkibnhodaaGreatDoorYD4
import Derived.Test.YtjbcfpkibnhodaaGreatDoorYC3
namespace Go.Proofs.YtjbcfpkibnhodaaGreatDoor.Ab
open Go Go.RowKit
theorem aiaddr_own (H : List (Nat × Box)) (sz i k m : Nat) (kd : IntKind) (n : Int) : aiaddr H sz (.arr i k m) (.int kd n) = match hget H i with
    | some b => if b.sz = sz ∧ 0 ≤ n ∧ n < m then some (.ref i (k + n.toNat) 0) else none
    | none => none := rfl
theorem map_at {α : Type} {f : α → AV} {l : List α} {i : Nat} {x : α} (h : l[i]? = some x) : (l.map f)[i]? = some (f x) := by rw [List.getElem?_map, h]; rfl
theorem view_rowP {α : Type} {e : α → AV} {sz : Nat} {H : List (Nat × Box)} {i : Nat} {ty : Nat} {l : List α} {rest : List AV} (h0 : 0 < sz) (hH : hget H i = some ⟨true, ty, sz, l.map e ++ rest⟩) : view H (.arr i 0 l.length) = some (.seq sz (l.map e)) := by
  simp only [view, hH, List.drop_zero, List.length_append, List.length_map]
  rw [if_pos ⟨trivial, h0, by omega⟩, List.take_append_of_le_length (by simp), List.take_of_length_le (by simp)]
end Go.Proofs.YtjbcfpkibnhodaaGreatDoor.Ab
namespace Go.Proofs.YtjbcfpkibnhodaaGreatDoor.Ab
open Go Go.RowKit
set_option linter.unusedSimpArgs false
set_option maxHeartbeats 4000000
set_option maxRecDepth 100000
variable {G : Nat → Option AV}
abbrev cfgZ : AV := .agg [.int .i64 0, .nils]
theorem compactC_hc (l : List CfgT) (hl : l.length ≤ 1000000) (hll : ∀ x ∈ l, x.vals.length ≤ 1000) :
    HeapC Tryz.prog G n_slices_CompactFunc_api_Config_api_Config [.arr 1000 0 l.length, .fn n_config_one []] [(1000, ⟨true, t_api_Config, 2, l.map cfgV⟩)] (.arr 1000 0 (compA l).length)
      [(1000, ⟨true, t_api_Config, 2, (compA l).map cfgV ++ List.replicate (l.length - (compA l).length) cfgZ⟩)] := by
  refine hc_slices_CompactFunc_api_Config_api_Config (RunsH.of fun Φ h => ?_)
  unfold c_slices_CompactFunc_api_Config_api_Config
  have fin : ∀ (n : Nat) (heap : List (Nat × Box)), n = (compA l).length → hget heap 1000 = some ⟨true, t_api_Config, 2, (compA l).map cfgV ++ List.replicate (l.length - (compA l).length) cfgZ⟩ → Φ ⟨66, [(4, .arr 1000 0 n)], heap⟩ := fun n heap e hh => by
    subst e
    refine h _ ⟨_, _, Weak.refl _, rfl, .refl _, fun i b hi => ?_⟩
    simp only [hget] at hi
    split at hi
    · rename_i e; subst e; rw [hh]; exact hi
    · cases hi
  clear h
  have fin1 : compA l = l → ∀ heap, hget heap 1000 = some ⟨true, t_api_Config, 2, l.map cfgV⟩ → Φ ⟨66, [(4, .arr 1000 0 l.length)], heap⟩ := fun e heap hh => by
    refine fin _ _ (by rw [e]) ?_
    rw [e, Nat.sub_self]
    simpa using hh
  by_cases h2 : l.length < 2
  · have e0 : ((l.length : Int) < 2) = True := by simp; omega
    have : compA l = l := by
      match l, h2 with
      | [], _ => rfl
      | [x], _ => rfl
    repeat' (first | (simp -implicitDefEqProofs only [go_sem, e0]) | refine at_guard (fun hb => ?_) (fun hb => ?_) | refine ⟨fun hb => ?_, fun hb => ?_⟩ | fail)
    exact fin1 this _ rfl
  · have e0 : ((l.length : Int) < 2) = False := by simp; omega
    simp -implicitDefEqProofs only [go_sem, e0]
    refine at_loop (fun n st => ∃ k : Nat, k + n = l.length ∧ 0 < k ∧ st = ⟨66, [(0, .arr 1000 0 l.length), (1, .fn n_config_one []), (5, iv k)], [(4, ⟨true, t_api_Config, 2, []⟩), (1000, ⟨true, t_api_Config, 2, l.map cfgV⟩)]⟩ ∧ compA (l.take k) = l.take k) (l.length - 1) ⟨1, by omega, by decide, rfl, ?_⟩ ?_
    · match l, h2 with
      | x :: r, _ => rfl
    rintro I hI n st ⟨k, hk, hk0, rfl, hno⟩
    simp -implicitDefEqProofs only [go_sem]
    refine ⟨fun hlt => ?_, fun hge => ?_⟩
    · have hlt' : k < l.length := by omega
      obtain ⟨x, hx, hxm⟩ := at_some hlt'
      obtain ⟨y, hy, hym⟩ := at_some (l := l) (i := k - 1) (by omega)
      have hw := wrap_succ hlt' (by omega)
      have hw1 : IntKind.i64.wrap ((k : Int) - 1) = ((k - 1 : Nat) : Int) := by rw [wrap_i64 (by omega) (by omega)]; omega
      have hb1 : ((k : Int) < (l.length : Int)) = True := by simp; omega
      have hb2 : (((k - 1 : Nat) : Int) < (l.length : Int)) = True := by simp; omega
      have hc := config_one_pc (G := G) x y (hll x hxm) (hll y hym)
      have hst := comp_step hk0 hx hy
      have mx := map_at (f := cfgV) hx
      have my := map_at (f := cfgV) hy
      rw [hno] at hst
      by_cases exy : x = y
      · rw [if_pos exy.symm] at hst
        rw [decide_eq_true exy] at hc
        simp only [cfgV] at hc mx my
        have hcl : (compA (l.take (k + 1))).length = k := by rw [hst, List.length_take]; omega
        have hb3 : ((k : Int) ≤ (l.length : Int)) = True := by simp; omega
        have hb4 : ((l.length : Int) ≤ (l.length : Int)) = True := by simp
        repeat' (first | (simp -implicitDefEqProofs only [go_sem, aiaddr_own, hb1, hb2, hb3, hb4, hw1, mx, my]) | refine at_guard (fun hb => ?_) (fun hb => ?_) | refine ⟨fun hb => ?_, fun hb => ?_⟩ | (refine ⟨by kernel_rfl, at_call hc rfl rfl ?_⟩) | fail)
        refine at_loop (fun n2 st => ∃ (k2 c : Nat) (m : List CfgT), k + k2 + n2 = l.length ∧ 0 < k2 ∧ st = ⟨66, [(0, .arr 1000 0 l.length), (1, .fn n_config_one []), (5, iv c), (6, .arr 1000 k (l.length - k)), (7, iv k2)], [(4, ⟨true, t_api_Config, 2, []⟩), (1000, ⟨true, t_api_Config, 2, m.map cfgV⟩)]⟩ ∧
          m.length = l.length ∧ c = (compA (l.take (k + k2))).length ∧ m.take c = compA (l.take (k + k2)) ∧ c ≤ k + k2 - 1 ∧ ∀ j, k + k2 - 1 ≤ j → m[j]? = l[j]?) (l.length - k - 1) ⟨1, k, l, by omega, by decide, rfl, rfl, hcl.symm, hst.symm, by omega, fun _ _ => rfl⟩ ?_
        clear hc mx my hst hcl hb1 hb2 hb3 hb4 hw1 hw hI
        clear hx hy hxm hym exy x y
        rintro I2 hI2 n2 st ⟨k2, c, m, hk2, hk20, rfl, hml, hcl, hmt, hck, hmd⟩
        simp -implicitDefEqProofs only [go_sem]
        refine ⟨fun hlt2 => ?_, fun hge2 => ?_⟩
        · have hlt3 : k + k2 < l.length := by omega
          obtain ⟨x, hx, hxm⟩ := at_some hlt3
          obtain ⟨y, hy, hym⟩ := at_some (l := l) (i := k + k2 - 1) (by omega)
          have hw := wrap_succ (show k2 < l.length by omega) (by omega)
          have hwc := wrap_succ (show c < l.length by omega) (by omega)
          have hw1 : IntKind.i64.wrap ((k2 : Int) - 1) = ((k2 - 1 : Nat) : Int) := by rw [wrap_i64 (by omega) (by omega)]; omega
          have hb1 : ((k2 : Int) < ((l.length - k : Nat) : Int)) = True := by simp; omega
          have hb2 : (((k2 - 1 : Nat) : Int) < ((l.length - k : Nat) : Int)) = True := by simp; omega
          have hc := config_one_pc (G := G) x y (hll x hxm) (hll y hym)
          have hst := comp_step (l := l) (show 0 < k + k2 by omega) hx hy
          have mx := map_at (f := cfgV) ((hmd (k + k2) (by omega)).trans hx)
          have my := map_at (f := cfgV) ((hmd (k + k2 - 1) (by omega)).trans hy)
          rw [show k + k2 - 1 = k + (k2 - 1) by omega] at my
          by_cases exy : x = y
          · rw [if_pos exy.symm] at hst
            rw [decide_eq_true exy] at hc
            simp only [cfgV] at hc mx my
            repeat' (first | (simp -implicitDefEqProofs only [go_sem, aiaddr_own, hb1, hb2, hw, hw1, mx, my]) | refine at_guard (fun hb => ?_) (fun hb => ?_) | refine ⟨fun hb => ?_, fun hb => ?_⟩ | (refine ⟨by kernel_rfl, at_call hc rfl rfl ?_⟩) | fail)
            exact at_again (n2 - 1) (by omega) (hI2 _ _ ⟨k2 + 1, c, m, by omega, by omega, rfl, hml, by rw [← Nat.add_assoc, hst]; exact hcl, by rw [← Nat.add_assoc, hst]; exact hmt, by omega, fun j hj => hmd j (by omega)⟩)
          · rw [if_neg fun e => exy e.symm] at hst
            rw [decide_eq_false exy] at hc
            obtain ⟨z, hz, _⟩ := at_some (l := m) (i := c) (by omega)
            have mz := map_at (f := cfgV) hz
            have hset : (m.map cfgV).set c (cfgV x) = (m.set c x).map cfgV := by rw [List.map_set]
            have hb3 : ((c : Int) < (l.length : Int)) = True := by simp; omega
            simp only [cfgV] at hc mx my mz
            repeat' (first | (simp -implicitDefEqProofs only [go_sem, aiaddr_own, hb1, hb2, hb3, hw, hwc, hw1, mx, my, mz]) | refine at_guard (fun hb => ?_) (fun hb => ?_) | refine ⟨fun hb => ?_, fun hb => ?_⟩ | (refine ⟨by kernel_rfl, at_call hc rfl rfl ?_⟩) | fail)
            rw [show AV.agg [iv x.state, .seq 4 (List.map valV x.vals)] = cfgV x from rfl, hset]
            have hmc : (m.set c x)[c]? = some x := by rw [List.getElem?_set]; simp; omega
            refine at_again (n2 - 1) (by omega) (hI2 _ _ ⟨k2 + 1, c + 1, m.set c x, by omega, by omega, rfl, by rw [List.length_set]; exact hml, ?_, ?_, by omega, fun j hj => ?_⟩)
            · rw [← Nat.add_assoc, hst, List.length_append, ← hcl]
              rfl
            · rw [takeC hmc, ← Nat.add_assoc, hst, ← hmt, List.take_set_of_le (Nat.le_refl _)]
            · rw [List.getElem?_set_ne (by omega)]
              exact hmd j (by omega)
        · have hk3 : k + k2 = l.length := by omega
          rw [hk3, List.take_of_length_le (Nat.le_refl _)] at hcl hmt
          have hb1 : ((c : Int) ≤ (l.length : Int)) = True := by simp; omega
          have hb2 : ((l.length : Int) ≤ (l.length : Int)) = True := by simp
          have hb3 : (0 < l.length - c) = True := by simp; omega
          have hb4 : (c + (l.length - c) ≤ l.length) = True := by simp; omega
          repeat' (first | (simp -implicitDefEqProofs only [go_sem, hb1, hb2, hb3, hb4, List.length_map, hml]) | refine at_guard (fun hb => ?_) (fun hb => ?_) | refine ⟨fun hb => ?_, fun hb => ?_⟩ | fail)
          refine fin _ _ hcl ?_
          have hd : (m.map cfgV).drop (c + (l.length - c)) = [] := List.drop_of_length_le (by rw [List.length_map]; omega)
          simp only [hget, hd, ← List.map_take, hmt, List.append_nil, ← hcl]
          rfl
      · rw [if_neg fun e => exy e.symm, ← takeC hx] at hst
        rw [decide_eq_false exy] at hc
        simp only [cfgV] at hc mx my
        repeat' (first | (simp -implicitDefEqProofs only [go_sem, aiaddr_own, hb1, hb2, hw, hw1, mx, my]) | refine at_guard (fun hb => ?_) (fun hb => ?_) | refine ⟨fun hb => ?_, fun hb => ?_⟩ | (refine ⟨by kernel_rfl, at_call hc rfl rfl ?_⟩) | fail)
        exact at_again (n - 1) (by omega) (hI _ _ ⟨k + 1, by omega, by omega, rfl, hst⟩)
    · rw [List.take_of_length_le (by omega)] at hno
      repeat' (first | (simp -implicitDefEqProofs only [go_sem]) | refine at_guard (fun hb => ?_) (fun hb => ?_) | refine ⟨fun hb => ?_, fun hb => ?_⟩ | fail)
      exact fin1 hno _ rfl
end Go.Proofs.YtjbcfpkibnhodaaGreatDoor.Ab
namespace Go.Proofs.YtjbcfpkibnhodaaGreatDoor.Ab
open Go
set_option linter.unusedSimpArgs false
set_option maxHeartbeats 4000000
set_option maxRecDepth 100000
variable {G : Nat → Option AV}
end Go.Proofs.YtjbcfpkibnhodaaGreatDoor.Ab
namespace Go.Proofs.YtjbcfpkibnhodaaGreatDoor.Ab
open Go
set_option linter.unusedSimpArgs false
set_option maxHeartbeats 4000000
set_option maxRecDepth 100000
variable {G : Nat → Option AV}
end Go.Proofs.YtjbcfpkibnhodaaGreatDoor.Ab
namespace Go.Proofs.YtjbcfpkibnhodaaGreatDoor.Ab
open Go
variable {P : Program}
end Go.Proofs.YtjbcfpkibnhodaaGreatDoor.Ab
namespace Go.Proofs.YtjbcfpkibnhodaaGreatDoor.Ab
open Go Go.RowKit Go.Lib
set_option linter.unusedSimpArgs false
set_option maxHeartbeats 4000000
set_option maxRecDepth 100000
end Go.Proofs.YtjbcfpkibnhodaaGreatDoor.Ab
namespace Go.Proofs.YtjbcfpkibnhodaaGreatDoor.Ab
open Go Go.RowKit Go.Lib
set_option linter.unusedSimpArgs false
set_option maxHeartbeats 4000000
set_option maxRecDepth 100000
end Go.Proofs.YtjbcfpkibnhodaaGreatDoor.Ab
namespace Go.Proofs.YtjbcfpkibnhodaaGreatDoor.Ab
open Go Go.RowKit Go.Lib
set_option linter.unusedSimpArgs false
set_option maxHeartbeats 4000000
set_option maxRecDepth 100000
end Go.Proofs.YtjbcfpkibnhodaaGreatDoor.Ab
namespace Go.Proofs.YtjbcfpkibnhodaaGreatDoor.Ab
open Go Go.RowKit Go.Lib
set_option linter.unusedSimpArgs false
set_option maxHeartbeats 4000000
set_option maxRecDepth 100000
variable {G : Nat → Option AV}
end Go.Proofs.YtjbcfpkibnhodaaGreatDoor.Ab
namespace Go.Proofs.YtjbcfpkibnhodaaGreatDoor.Ab
open Go Go.RowKit Go.Lib
set_option linter.unusedSimpArgs false
set_option maxHeartbeats 4000000
set_option maxRecDepth 100000
variable {G : Nat → Option AV}
end Go.Proofs.YtjbcfpkibnhodaaGreatDoor.Ab
namespace Go.Proofs.YtjbcfpkibnhodaaGreatDoor.Ab
open Go
set_option linter.unusedSimpArgs false
set_option maxHeartbeats 4000000
set_option maxRecDepth 100000
variable {G : Nat → Option AV}
end Go.Proofs.YtjbcfpkibnhodaaGreatDoor.Ab
namespace Go.Proofs.YtjbcfpkibnhodaaGreatDoor.Ab
open Go Go.RowKit Go.Lib
set_option linter.unusedSimpArgs false
set_option maxHeartbeats 4000000
set_option maxRecDepth 100000
variable {G : Nat → Option AV}
end Go.Proofs.YtjbcfpkibnhodaaGreatDoor.Ab
namespace Go.Proofs.YtjbcfpkibnhodaaGreatDoor.Ab
open Go Go.RowKit
set_option maxHeartbeats 1000000
variable {F : Fence} {n : Nat} {P : Program}
end Go.Proofs.YtjbcfpkibnhodaaGreatDoor.Ab
namespace Go.Proofs.YtjbcfpkibnhodaaGreatDoor.Ab
open Go Go.RowKit
set_option linter.unusedSimpArgs false
set_option maxHeartbeats 4000000
set_option maxRecDepth 100000
variable {G : Nat → Option AV}
end Go.Proofs.YtjbcfpkibnhodaaGreatDoor.Ab
namespace Go.Proofs.YtjbcfpkibnhodaaGreatDoor.Ab
open Go Go.RowKit Go.Shelf
set_option linter.unusedSimpArgs false
set_option maxHeartbeats 4000000
set_option maxRecDepth 100000
end Go.Proofs.YtjbcfpkibnhodaaGreatDoor.Ab
namespace Go.Proofs.YtjbcfpkibnhodaaGreatDoor.Ab
open Go Go.RowKit Go.Shelf
attribute [local go_sem] Oper.semAt_some
set_option linter.unusedSimpArgs false
set_option maxHeartbeats 4000000
set_option maxRecDepth 100000
variable {G : Nat → Option AV}
end Go.Proofs.YtjbcfpkibnhodaaGreatDoor.Ab
namespace Go.Proofs.YtjbcfpkibnhodaaGreatDoor.Ab
open Go Go.RowKit Go.Shelf
attribute [local go_sem] Oper.semAt_some
set_option linter.unusedSimpArgs false
set_option maxHeartbeats 4000000
set_option maxRecDepth 100000
variable {G : Nat → Option AV}
end Go.Proofs.YtjbcfpkibnhodaaGreatDoor.Ab
namespace Go.Proofs.YtjbcfpkibnhodaaGreatDoor.Ab
open Go Go.RowKit
set_option linter.unusedSimpArgs false
set_option maxHeartbeats 4000000
set_option maxRecDepth 100000
variable {G : Nat → Option AV}
end Go.Proofs.YtjbcfpkibnhodaaGreatDoor.Ab
namespace Go.Proofs.YtjbcfpkibnhodaaGreatDoor.Ab
open Go Go.RowKit
set_option linter.unusedSimpArgs false
set_option maxHeartbeats 4000000
set_option maxRecDepth 100000
variable {G : Nat → Option AV}
end Go.Proofs.YtjbcfpkibnhodaaGreatDoor.Ab
namespace Go.Proofs.YtjbcfpkibnhodaaGreatDoor.Ab
open Go Go.RowKit
set_option linter.unusedSimpArgs false
set_option maxHeartbeats 4000000
set_option maxRecDepth 100000
variable {G : Nat → Option AV}
def lessSl : List SlotT → List SlotT → Bool
  | x :: l, y :: k => if ¬ x.var = y.var then decide (x.var < y.var) else if ¬ x.value = y.value then lessV x.value y.value else lessSl l k
  | [], _ => false
  | _ :: _, [] => false
def lessB (a b : List SlotT) : Bool := if ¬ a.length = b.length then decide (a.length < b.length) else lessSl a b
end Go.Proofs.YtjbcfpkibnhodaaGreatDoor.Ab
namespace Go.Proofs.YtjbcfpkibnhodaaGreatDoor.Ab
open Go
set_option linter.unusedSimpArgs false
theorem bl_irr : ∀ (s : Str), Op.bytesLess s s = false
  | [] => by simp [Op.bytesLess]
  | c :: s => by rw [bl_same]; exact bl_irr s
theorem bl_cons (x y : UInt8) (s t : Str) : Op.bytesLess (x :: s) (y :: t) = true ↔ x < y ∨ (x = y ∧ Op.bytesLess s t = true) := by
  by_cases h : x = y
  · subst h
    rw [bl_same]
    have : ¬ x < x := by
      rw [UInt8.lt_iff_toNat_lt]; omega
    simp [this]
  · rw [bl_ne h]
    simp [h]
theorem bl_trans : ∀ {s t u : Str}, Op.bytesLess s t = true → Op.bytesLess t u = true → Op.bytesLess s u = true
  | [], [], _, h, _ => by simp [Op.bytesLess] at h
  | [], _ :: _, [], _, h => by simp [Op.bytesLess] at h
  | [], _ :: _, _ :: _, _, _ => by simp [Op.bytesLess]
  | _ :: _, [], _, h, _ => by simp [Op.bytesLess] at h
  | _ :: _, _ :: _, [], _, h => by simp [Op.bytesLess] at h
  | x :: s, y :: t, z :: u, h1, h2 => by
    rw [bl_cons] at h1 h2 ⊢
    simp only [UInt8.lt_iff_toNat_lt] at *
    rcases h1 with h1 | ⟨rfl, h1⟩ <;> rcases h2 with h2 | ⟨rfl, h2⟩
    · exact .inl (by omega)
    · exact .inl h1
    · exact .inl h2
    · exact .inr ⟨rfl, bl_trans h1 h2⟩
theorem bl_tot : ∀ {s t : Str}, s ≠ t → Op.bytesLess s t = true ∨ Op.bytesLess t s = true
  | [], [], h => absurd rfl h
  | [], _ :: _, _ => .inl (by simp [Op.bytesLess])
  | _ :: _, [], _ => .inr (by simp [Op.bytesLess])
  | x :: s, y :: t, h => by
    rw [bl_cons, bl_cons]
    simp only [UInt8.lt_iff_toNat_lt]
    by_cases e : x = y
    · subst e
      rcases bl_tot (s := s) (t := t) (fun e => h (by rw [e])) with h | h
      · exact .inl (.inr ⟨rfl, h⟩)
      · exact .inr (.inr ⟨rfl, h⟩)
    · have : x.toNat ≠ y.toNat := fun h => e (UInt8.toNat_inj.1 h)
      rcases Nat.lt_or_gt_of_ne this with h | h
      · exact .inl (.inl h)
      · exact .inr (.inl h)
theorem lessV_irr (a : Val) : lessV a a = false := by
  unfold lessV
  simp only [not_true_eq_false, if_false]
  split
  · simp
  · split
    · exact bl_irr _
    · cases a.bool <;> rfl
theorem lessV_trans {a b c : Val} (h1 : lessV a b = true) (h2 : lessV b c = true) : lessV a c = true := by
  unfold lessV at *
  by_cases e1 : a.kind = b.kind
  · by_cases e2 : b.kind = c.kind
    · rw [if_neg (by simpa using e1)] at h1
      rw [if_neg (by simpa using e2)] at h2
      rw [if_neg (by simp [e1, e2])]
      rw [e1] at h1 ⊢
      split at h1
      · rename_i hk
        rw [if_pos hk] at h2 ⊢
        simp only [decide_eq_true_eq] at *
        omega
      · rename_i hk
        rw [if_neg hk] at h2 ⊢
        split at h1
        · rename_i hk2
          rw [if_pos hk2] at h2 ⊢
          exact bl_trans h1 h2
        · rename_i hk2
          rw [if_neg hk2] at h2 ⊢
          simp only [Bool.and_eq_true, Bool.not_eq_true'] at *
          rw [h1.2] at h2
          cases h2.1
    · rw [if_pos e2] at h2
      rw [if_pos (by rw [e1]; exact e2), e1]
      exact h2
  · rw [if_pos e1] at h1
    simp only [decide_eq_true_eq] at h1
    by_cases e2 : b.kind = c.kind
    · rw [if_pos (by rw [← e2]; exact e1), ← e2]
      simpa using h1
    · rw [if_pos e2] at h2
      simp only [decide_eq_true_eq] at h2
      rw [if_pos (by omega)]
      simp only [decide_eq_true_eq]
      omega
theorem lessV_tot {a b : Val} (ha : a.ok = true) (hb : b.ok = true) (h : a ≠ b) : lessV a b = true ∨ lessV b a = true := by
  obtain ⟨k, n, s, t⟩ := a
  obtain ⟨k', n', s', t'⟩ := b
  unfold lessV
  simp only
  by_cases e : k = k'
  · subst e
    simp only [not_true_eq_false, if_false]
    unfold Val.ok at ha hb
    simp only at ha hb
    by_cases k1 : k = 1
    · rw [if_pos k1] at ha hb ⊢
      rw [if_pos k1]
      simp only [Bool.and_eq_true, beq_iff_eq, Bool.not_eq_true'] at ha hb
      have : n ≠ n' := fun e => h (by rw [e, ha.1, ha.2, hb.1, hb.2])
      simp only [decide_eq_true_eq]
      omega
    · rw [if_neg k1] at ha hb ⊢
      rw [if_neg k1]
      by_cases k2 : k = 2
      · rw [if_pos k2] at ha hb ⊢
        rw [if_pos k2]
        simp only [Bool.and_eq_true, beq_iff_eq, Bool.not_eq_true'] at ha hb
        exact bl_tot fun e => h (by rw [e, ha.1, ha.2.1, hb.1, hb.2.1])
      · rw [if_neg k2] at ha hb ⊢
        rw [if_neg k2]
        simp only [Bool.and_eq_true, beq_iff_eq, decide_eq_true_eq] at ha hb
        have : t ≠ t' := fun e => h (by rw [e, ha.2.1, ha.2.2, hb.2.1, hb.2.2])
        cases t <;> cases t' <;> simp_all
  · rw [if_pos e, if_pos (fun e' => e e'.symm)]
    simp only [decide_eq_true_eq]
    omega
def ltSl (x y : SlotT) : Bool := if ¬ x.var = y.var then decide (x.var < y.var) else lessV x.value y.value
theorem ltSl_irr (x : SlotT) : ltSl x x = false := by
  unfold ltSl
  simp only [not_true_eq_false, if_false]
  exact lessV_irr _
theorem ltSl_tot {x y : SlotT} (hx : x.value.ok = true) (hy : y.value.ok = true) (h : x ≠ y) : ltSl x y = true ∨ ltSl y x = true := by
  unfold ltSl
  by_cases e : x.var = y.var
  · rw [if_neg (by simpa using e), if_neg (by simpa using e.symm)]
    refine lessV_tot hx hy fun e2 => h ?_
    obtain ⟨a, b⟩ := x
    obtain ⟨c, d⟩ := y
    simp only at e e2
    rw [e, e2]
  · rw [if_pos e, if_pos (fun e' => e e'.symm)]
    simp only [decide_eq_true_eq]
    omega
theorem lessSl_cons (x y : SlotT) (l k : List SlotT) : lessSl (x :: l) (y :: k) = true ↔ ltSl x y = true ∨ (x = y ∧ lessSl l k = true) := by
  rw [lessSl]
  by_cases e : x = y
  · subst e
    rw [if_neg (by simp), if_neg (by simp), ltSl_irr]
    simp
  · unfold ltSl
    by_cases ev : x.var = y.var
    · have hv : ¬ x.value = y.value := fun e2 => e (by
        obtain ⟨a, b⟩ := x
        obtain ⟨c, d⟩ := y
        simp only at ev e2
        rw [ev, e2])
      rw [if_neg (by simpa using ev), if_pos hv]
      simp [e, ev]
    · rw [if_pos ev, if_pos ev]
      simp [e]
def okL (l : List SlotT) : Prop := ∀ s ∈ l, s.value.ok = true
theorem lessSl_tot : ∀ {a b : List SlotT}, okL a → okL b → a.length = b.length → a ≠ b → lessSl a b = true ∨ lessSl b a = true
  | [], [], _, _, _, h => absurd rfl h
  | [], _ :: _, _, _, h, _ => by simp at h
  | _ :: _, [], _, _, h, _ => by simp at h
  | x :: a, y :: b, ha, hb, hl, h => by
    rw [lessSl_cons, lessSl_cons]
    by_cases e : x = y
    · subst e
      rcases lessSl_tot (a := a) (b := b) (fun s hs => ha s (by simp [hs])) (fun s hs => hb s (by simp [hs])) (by simpa using hl) (fun e => h (by rw [e])) with h | h
      · exact .inl (.inr ⟨rfl, h⟩)
      · exact .inr (.inr ⟨rfl, h⟩)
    · rcases ltSl_tot (ha x (by simp)) (hb y (by simp)) e with h | h
      · exact .inl (.inl h)
      · exact .inr (.inl h)
theorem lessB_tot {a b : List SlotT} (ha : okL a) (hb : okL b) (h : a ≠ b) : lessB a b = true ∨ lessB b a = true := by
  unfold lessB
  by_cases e : a.length = b.length
  · rw [if_neg (by simpa using e), if_neg (by simpa using e.symm)]
    exact lessSl_tot ha hb e h
  · rw [if_pos e, if_pos (fun e' => e e'.symm)]
    simp only [decide_eq_true_eq]
    omega
theorem sorted_uniq : ∀ {l k : List (List SlotT)}, l.Perm k → (∀ x ∈ l, okL x) → l.Pairwise (fun a b => lessB b a = false) → k.Pairwise (fun a b => lessB b a = false) → l = k
  | [], k, h, _, _, _ => (List.nil_perm.1 h).symm
  | a :: l, [], h, _, _, _ => by simp at h
  | a :: l, b :: k, h, ok, h1, h2 => by
    have hk : ∀ x ∈ b :: k, okL x := fun x hx => ok x (h.symm.subset hx)
    have e : a = b := by
      by_cases e : a = b
      · exact e
      · exfalso
        rw [List.pairwise_cons] at h1 h2
        have ha : a ∈ k := by
          rcases List.mem_cons.1 (h.subset (List.mem_cons_self ..)) with h | h
          · exact absurd h e
          · exact h
        have hb : b ∈ l := by
          rcases List.mem_cons.1 (h.symm.subset (List.mem_cons_self ..)) with h | h
          · exact absurd h.symm e
          · exact h
        rcases lessB_tot (ok a (by simp)) (hk b (by simp)) e with h3 | h3
        · rw [h2.1 a ha] at h3; cases h3
        · rw [h1.1 b hb] at h3; cases h3
    subst e
    rw [List.pairwise_cons] at h1 h2
    rw [sorted_uniq (List.Perm.cons_inv h) (fun x hx => ok x (by simp [hx])) h1.2 h2.2]
end Go.Proofs.YtjbcfpkibnhodaaGreatDoor.Ab
namespace Go.Proofs.YtjbcfpkibnhodaaGreatDoor.Ab
open Go
set_option linter.unusedSimpArgs false
theorem lessVs_cons (x y : Val) (l k : List Val) : lessVs (x :: l) (y :: k) = true ↔ lessV x y = true ∨ (x = y ∧ lessVs l k = true) := by
  rw [lessVs]
  by_cases e : x = y
  · subst e
    rw [if_neg (by simp), lessV_irr]
    simp
  · rw [if_pos e]
    simp [e]
theorem lessVsO_irr : ∀ (l : List Val), lessVs l l = false
  | [] => rfl
  | x :: l => by
    cases h : lessVs (x :: l) (x :: l) with
    | false => rfl
    | true =>
      rw [lessVs_cons, lessV_irr, lessVsO_irr l] at h
      simp at h
theorem lessVs_trans : ∀ {a b c : List Val}, lessVs a b = true → lessVs b c = true → lessVs a c = true
  | [], [], _, h, _ => by simp [lessVs] at h
  | [], _ :: _, [], _, h => by simp [lessVs] at h
  | [], _ :: _, _ :: _, _, _ => by simp [lessVs]
  | _ :: _, [], _, h, _ => by simp [lessVs] at h
  | _ :: _, _ :: _, [], _, h => by simp [lessVs] at h
  | x :: a, y :: b, z :: c, h1, h2 => by
    rw [lessVs_cons] at h1 h2 ⊢
    rcases h1 with h1 | ⟨rfl, h1⟩ <;> rcases h2 with h2 | ⟨rfl, h2⟩
    · exact .inl (lessV_trans h1 h2)
    · exact .inl h1
    · exact .inl h2
    · exact .inr ⟨rfl, lessVs_trans h1 h2⟩
def okVs (l : List Val) : Prop := ∀ v ∈ l, v.ok = true
theorem lessVs_tot : ∀ {a b : List Val}, okVs a → okVs b → a ≠ b → lessVs a b = true ∨ lessVs b a = true
  | [], [], _, _, h => absurd rfl h
  | [], _ :: _, _, _, _ => .inl rfl
  | _ :: _, [], _, _, _ => .inr rfl
  | x :: a, y :: b, ha, hb, h => by
    rw [lessVs_cons, lessVs_cons]
    by_cases e : x = y
    · subst e
      rcases lessVs_tot (a := a) (b := b) (fun s hs => ha s (by simp [hs])) (fun s hs => hb s (by simp [hs])) (fun e => h (by rw [e])) with h | h
      · exact .inl (.inr ⟨rfl, h⟩)
      · exact .inr (.inr ⟨rfl, h⟩)
    · rcases lessV_tot (ha x (by simp)) (hb y (by simp)) e with h | h
      · exact .inl (.inl h)
      · exact .inr (.inl h)
def okCfg (c : CfgT) : Prop := okVs c.vals
theorem cfgTO : TO cfgLess okCfg := by
  refine ⟨fun a => ?_, fun {a b c} h1 h2 => ?_, fun {a b} ha hb h => ?_⟩
  · unfold cfgLess
    rw [if_neg (by simp)]
    exact lessVsO_irr _
  · unfold cfgLess at *
    by_cases e1 : a.state = b.state
    · rw [if_neg (by simpa using e1)] at h1
      by_cases e2 : b.state = c.state
      · rw [if_neg (by simpa using e2)] at h2
        rw [if_neg (by simp [e1, e2])]
        exact lessVs_trans h1 h2
      · rw [if_pos e2] at h2
        rw [if_pos (by rw [e1]; exact e2), e1]
        exact h2
    · rw [if_pos e1] at h1
      simp only [decide_eq_true_eq] at h1
      by_cases e2 : b.state = c.state
      · rw [if_pos (by rw [← e2]; exact e1), ← e2]
        simpa using h1
      · rw [if_pos e2] at h2
        simp only [decide_eq_true_eq] at h2
        rw [if_pos (by omega)]
        simp only [decide_eq_true_eq]
        omega
  · unfold cfgLess
    by_cases e : a.state = b.state
    · rw [if_neg (by simpa using e), if_neg (by simpa using e.symm)]
      refine lessVs_tot ha hb fun e2 => h ?_
      obtain ⟨x, l⟩ := a
      obtain ⟨y, k⟩ := b
      simp only at e e2
      rw [e, e2]
    · rw [if_pos e, if_pos (fun e' => e e'.symm)]
      simp only [decide_eq_true_eq]
      omega
theorem putAt_go (l : List CfgT) (c : CfgT) : ∀ n, putAt l c n = goO cfgLess c l n
  | 0 => rfl
  | n + 1 => by
    rw [putAt, goO, putAt_go l c n]
    cases l[n]? <;> rfl
theorem isAt_is (l : List CfgT) (c : CfgT) (n : Nat) : isAt l c n = isO cfgLess l c n := by
  cases n with
  | zero => rfl
  | succ n =>
    rw [isAt, isO]
    cases l[n]? <;> rfl
theorem putR_eq (l : List CfgT) (c : CfgT) : putR l c = putO cfgLess l c := by
  unfold putR putO
  rw [putAt_go, isAt_is]
theorem ofR_eq (l : List CfgT) : ofR l = l.foldl (putO cfgLess) [] := by
  have : putR = putO cfgLess := by
    funext l c
    exact putR_eq l c
  unfold ofR
  rw [this]
def setC (l : List CfgT) : List CfgT := orderO cfgLess l
theorem setC_of {l : List CfgT} (h : ∀ c ∈ l, okCfg c) : setC l = ofR l := by
  rw [ofR_eq]
  exact cfgTO.order_puts h
end Go.Proofs.YtjbcfpkibnhodaaGreatDoor.Ab
