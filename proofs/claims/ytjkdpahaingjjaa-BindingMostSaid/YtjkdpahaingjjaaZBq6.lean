/-
  proctorref13: expressions. core.trans, from the inside: whole. proctorref13.Kind. core.trans, from the inside: set. core.trans, from the inside: one, and all. core.trans. core, proctorref13: arguments, symbols. config, proctorref18: the order of configurations, and whether they are the same. proctorref18: sets of configurations; the law's own words. Keys of values: no two rows of values of one length have one key. key, config.Key: keys of values and of sets of configurations. key.number: a number's bytes. key.one, key.Of, config.Key. binding.Key: a binding's key; no two bindings have one. Bindings that fit: both together. proctorlaw05.small; the law BindingPairs. No claim is proved here.
-/
import Derived.Test.YtjkdpahaingjjaaZD8
import Derived.Test.YtjkdpahaingjjaaZV5
import Derived.Deep.Cut
import Derived.Outline
import Derived.WalkSpells
import Derived.Laws.CopyRow
import Derived.Laws.CopyOwn
import Derived.Lib.Walk
import Derived.Test.YtjkdpahaingjjaaZBq3
import Derived.Test.YtjkdpahaingjjaaZBr3
namespace Go.Proofs.Ytjkdpahaingjjaa.Ab
open Go
set_option linter.unusedSimpArgs false
set_option maxHeartbeats 4000000
variable {G : Nat → Option AV}
end Go.Proofs.Ytjkdpahaingjjaa.Ab
namespace Go.Proofs.Ytjkdpahaingjjaa.Ab
open Go
set_option linter.unusedSimpArgs false
set_option maxHeartbeats 4000000
variable {G : Nat → Option AV}
/-- Rows and variables that are there. -/
def subH (heap : List (Nat × Box)) : List (Nat × Box) → Prop
  | [] => True
  | (i, b) :: r => hget heap i = some b ∧ subH heap r
theorem subH.at {heap : List (Nat × Box)} : ∀ {H : List (Nat × Box)}, subH heap H → ∀ i b, hget H i = some b → hget heap i = some b
  | [], _, i, b, h => by simp [hget] at h
  | (j, c) :: r, hs, i, b, h => by
    simp only [hget] at h
    split at h
    · rename_i e; subst e; cases h; exact hs.1
    · exact hs.2.at i b h
end Go.Proofs.Ytjkdpahaingjjaa.Ab
namespace Go.Proofs.Ytjkdpahaingjjaa.Ab
open Go
set_option linter.unusedSimpArgs false
set_option maxHeartbeats 4000000
variable {G : Nat → Option AV}
end Go.Proofs.Ytjkdpahaingjjaa.Ab
namespace Go.Proofs.Ytjkdpahaingjjaa.Ab
open Go
set_option linter.unusedSimpArgs false
set_option maxHeartbeats 4000000
variable {G : Nat → Option AV}
def mid {α : Type} (l : List α) (a b : Int) : List α := (l.drop a.toNat).take (b.toNat - a.toNat)
end Go.Proofs.Ytjkdpahaingjjaa.Ab
namespace Go.Proofs.Ytjkdpahaingjjaa.Ab
open Go
set_option linter.unusedSimpArgs false
set_option maxHeartbeats 4000000
variable {G : Nat → Option AV}
end Go.Proofs.Ytjkdpahaingjjaa.Ab
namespace Go.Proofs.Ytjkdpahaingjjaa.Ab
open Go
set_option linter.unusedSimpArgs false
set_option maxHeartbeats 4000000
variable {G : Nat → Option AV}
end Go.Proofs.Ytjkdpahaingjjaa.Ab
namespace Go.Proofs.Ytjkdpahaingjjaa.Ab
open Go Go.RowKit
set_option linter.unusedSimpArgs false
set_option maxHeartbeats 4000000
set_option maxRecDepth 100000
variable {G : Nat → Option AV}
structure CfgT where
  state : Int
  vals : List Val
deriving DecidableEq
/-- A state's number is small. -/
def CfgT.St (c : CfgT) : Prop := 0 ≤ c.state ∧ c.state < 1000 ∧ c.vals.length ≤ 1000
end Go.Proofs.Ytjkdpahaingjjaa.Ab
namespace Go.Proofs.Ytjkdpahaingjjaa.Ab
open Go Go.RowKit
set_option linter.unusedSimpArgs false
set_option maxHeartbeats 4000000
set_option maxRecDepth 100000
variable {G : Nat → Option AV}
end Go.Proofs.Ytjkdpahaingjjaa.Ab
namespace Go.Proofs.Ytjkdpahaingjjaa.Ab
open Go
set_option linter.unusedSimpArgs false
end Go.Proofs.Ytjkdpahaingjjaa.Ab
namespace Go.Proofs.Ytjkdpahaingjjaa.Ab
open Go Go.RowKit
set_option linter.unusedSimpArgs false
set_option maxHeartbeats 4000000
set_option maxRecDepth 100000
variable {G : Nat → Option AV}
end Go.Proofs.Ytjkdpahaingjjaa.Ab
namespace Go.Proofs.Ytjkdpahaingjjaa.Ab
open Go Go.RowKit
set_option linter.unusedSimpArgs false
set_option maxHeartbeats 4000000
set_option maxRecDepth 100000
variable {G : Nat → Option AV}
end Go.Proofs.Ytjkdpahaingjjaa.Ab
namespace Go.Proofs.Ytjkdpahaingjjaa.Ab
open Go Go.RowKit
set_option linter.unusedSimpArgs false
set_option maxHeartbeats 4000000
set_option maxRecDepth 100000
variable {G : Nat → Option AV}
end Go.Proofs.Ytjkdpahaingjjaa.Ab
namespace Go.Proofs.Ytjkdpahaingjjaa.Ab
open Go Go.RowKit
set_option linter.unusedSimpArgs false
set_option maxHeartbeats 4000000
set_option maxRecDepth 100000
variable {G : Nat → Option AV}
end Go.Proofs.Ytjkdpahaingjjaa.Ab
namespace Go.Proofs.Ytjkdpahaingjjaa.Ab
open Go
set_option linter.unusedSimpArgs false
end Go.Proofs.Ytjkdpahaingjjaa.Ab
namespace Go.Proofs.Ytjkdpahaingjjaa.Ab
open Go Go.RowKit
set_option linter.unusedSimpArgs false
set_option maxHeartbeats 4000000
set_option maxRecDepth 100000
variable {G : Nat → Option AV}
def smallB (b : List SlotT) : Bool := decide (b.length ≤ 8) && (b.all (fun s => decide (s.value.str.length ≤ 1000)) && bindOk b)
theorem small_of {b : List SlotT} (h : smallB b = true) : b.length ≤ 8 ∧ (∀ s ∈ b, s.value.str.length ≤ 1000) ∧ Can b := by
  simp only [smallB, Bool.and_eq_true, decide_eq_true_eq, List.all_eq_true] at h
  exact ⟨h.1, h.2.1, can_of h.2.2⟩
theorem law05_small_pc (b : List SlotT) : PureC Try.prog G n_proctorlaw05_small [slotsV b] (.bool (smallB b)) := by
  refine pc_proctorlaw05_small (Runs.of fun Φ h => ?_)
  unfold c_proctorlaw05_small
  have fin : ∀ β heap, β = smallB b → Φ ⟨23, [(2, .bool β)], heap⟩ := fun β heap e => h _ ⟨_, _, rfl, rfl, fitB e⟩
  clear h
  unfold smallB at fin
  by_cases hl : b.length ≤ 8
  · have hr := ref05_Right_pc (G := G) b (by omega)
    have e0 : decide ((8 : Int) < (b.length : Int)) = false := by simp; omega
    rw [decide_eq_true hl, Bool.true_and] at fin
    simp -implicitDefEqProofs only [go_sem, Nat.reduceAdd, Nat.reduceSub, Nat.reduceMul, Nat.reduceLT, Nat.reduceLeDiff, Nat.reduceEqDiff, Nat.reduceBEq, Int.reduceNeg, Int.reduceAdd, Int.reduceLT, Int.reduceLE, Int.reduceToNat, Int.reduceEq, Int.reduceNe, Int.reduceBEq, Int.reduceBNe, Int.reduceMul, Int.reduceSub, reduceIte, reduceCtorEq, slotsV, List.length_map, e0]
    refine at_loop (fun n st => ∃ i : Nat, i + n = b.length ∧ st = ⟨23, [(0, .seq 5 (b.map slotV)), (3, iv i)], []⟩ ∧ ∀ j x, j < i → b[j]? = some x → decide (x.value.str.length ≤ 1000) = true) b.length ⟨0, by simp, rfl, fun j x hj => by omega⟩ ?_
    rintro I hI n st ⟨i, hi, rfl, hno⟩
    simp -implicitDefEqProofs only [go_sem, Nat.reduceAdd, Nat.reduceSub, Nat.reduceMul, Nat.reduceLT, Nat.reduceLeDiff, Nat.reduceEqDiff, Nat.reduceBEq, Int.reduceNeg, Int.reduceAdd, Int.reduceLT, Int.reduceLE, Int.reduceToNat, Int.reduceEq, Int.reduceNe, Int.reduceBEq, Int.reduceBNe, Int.reduceMul, Int.reduceSub, reduceIte, reduceCtorEq, List.length_map]
    refine ⟨fun hlt => ?_, fun hge => ?_⟩
    · have hlt' : i < b.length := by omega
      obtain ⟨x, hx, hxm⟩ := at_some hlt'
      have hw := wrap_succ hlt' (by omega)
      have hnext : decide (x.value.str.length ≤ 1000) = true → again I n ⟨23, [(0, .seq 5 (b.map slotV)), (3, iv (i + 1 : Nat))], []⟩ := fun hv => at_again (n - 1) (by omega) (hI _ _ ⟨i + 1, by omega, rfl, fun j y hj hy => by
        by_cases e : j = i
        · subst e; rw [hx] at hy; cases hy; exact hv
        · exact hno j y (by omega) hy⟩)
      have hbad : decide (x.value.str.length ≤ 1000) = false → false = (b.all (fun s => decide (s.value.str.length ≤ 1000)) && bindOk b) := fun hv => by
        symm
        rw [Bool.and_eq_false_iff]
        left
        rw [List.all_eq_false]
        exact ⟨x, hxm, by rw [hv]; simp⟩
      obtain ⟨v1, ⟨k1, n1, s1, t1⟩⟩ := x
      simp only at hnext hbad
      by_cases hs : s1.length ≤ 1000
      · have e1 : decide ((1000 : Int) < (s1.length : Int)) = false := by simp; omega
        have := hnext (by simpa using hs)
        clear hnext hbad
        (try (simp -implicitDefEqProofs only [go_sem, Nat.reduceAdd, Nat.reduceSub, Nat.reduceMul, Nat.reduceLT, Nat.reduceLeDiff, Nat.reduceEqDiff, Nat.reduceBEq, Int.reduceNeg, Int.reduceAdd, Int.reduceLT, Int.reduceLE, Int.reduceToNat, Int.reduceEq, Int.reduceNe, Int.reduceBEq, Int.reduceBNe, Int.reduceMul, Int.reduceSub, reduceIte, reduceCtorEq, aiaddr_map hx, slotV, valV, hw, e1])); repeat' ((first | refine at_guard (fun hb => ?_) (fun hb => ?_) | refine ⟨fun hb => ?_, fun hb => ?_⟩ | fail) <;> (try (simp -implicitDefEqProofs only [go_sem, Nat.reduceAdd, Nat.reduceSub, Nat.reduceMul, Nat.reduceLT, Nat.reduceLeDiff, Nat.reduceEqDiff, Nat.reduceBEq, Int.reduceNeg, Int.reduceAdd, Int.reduceLT, Int.reduceLE, Int.reduceToNat, Int.reduceEq, Int.reduceNe, Int.reduceBEq, Int.reduceBNe, Int.reduceMul, Int.reduceSub, reduceIte, reduceCtorEq, aiaddr_map hx, slotV, valV, hw, e1])))
        exact this
      · have e1 : decide ((1000 : Int) < (s1.length : Int)) = true := by simp; omega
        have := hbad (by simpa using hs)
        clear hnext hbad
        (try (simp -implicitDefEqProofs only [go_sem, Nat.reduceAdd, Nat.reduceSub, Nat.reduceMul, Nat.reduceLT, Nat.reduceLeDiff, Nat.reduceEqDiff, Nat.reduceBEq, Int.reduceNeg, Int.reduceAdd, Int.reduceLT, Int.reduceLE, Int.reduceToNat, Int.reduceEq, Int.reduceNe, Int.reduceBEq, Int.reduceBNe, Int.reduceMul, Int.reduceSub, reduceIte, reduceCtorEq, aiaddr_map hx, slotV, valV, hw, e1])); repeat' ((first | refine at_guard (fun hb => ?_) (fun hb => ?_) | refine ⟨fun hb => ?_, fun hb => ?_⟩ | fail) <;> (try (simp -implicitDefEqProofs only [go_sem, Nat.reduceAdd, Nat.reduceSub, Nat.reduceMul, Nat.reduceLT, Nat.reduceLeDiff, Nat.reduceEqDiff, Nat.reduceBEq, Int.reduceNeg, Int.reduceAdd, Int.reduceLT, Int.reduceLE, Int.reduceToNat, Int.reduceEq, Int.reduceNe, Int.reduceBEq, Int.reduceBNe, Int.reduceMul, Int.reduceSub, reduceIte, reduceCtorEq, aiaddr_map hx, slotV, valV, hw, e1])))
        exact fin _ _ this
    · have hall : b.all (fun s => decide (s.value.str.length ≤ 1000)) = true := by
        rw [List.all_eq_true]
        intro x hx
        obtain ⟨j, hj⟩ := List.getElem?_of_mem hx
        exact hno j x (by have := (List.getElem?_eq_some_iff.1 hj).1; omega) hj
      rw [hall, Bool.true_and] at fin
      simp only [slotsV] at hr
      (try (simp -implicitDefEqProofs only [go_sem, Nat.reduceAdd, Nat.reduceSub, Nat.reduceMul, Nat.reduceLT, Nat.reduceLeDiff, Nat.reduceEqDiff, Nat.reduceBEq, Int.reduceNeg, Int.reduceAdd, Int.reduceLT, Int.reduceLE, Int.reduceToNat, Int.reduceEq, Int.reduceNe, Int.reduceBEq, Int.reduceBNe, Int.reduceMul, Int.reduceSub, reduceIte, reduceCtorEq])); repeat' ((first | refine at_guard (fun hb => ?_) (fun hb => ?_) | refine ⟨fun hb => ?_, fun hb => ?_⟩ | refine at_call (hr) rfl rfl ?_ | fail) <;> (try (simp -implicitDefEqProofs only [go_sem, Nat.reduceAdd, Nat.reduceSub, Nat.reduceMul, Nat.reduceLT, Nat.reduceLeDiff, Nat.reduceEqDiff, Nat.reduceBEq, Int.reduceNeg, Int.reduceAdd, Int.reduceLT, Int.reduceLE, Int.reduceToNat, Int.reduceEq, Int.reduceNe, Int.reduceBEq, Int.reduceBNe, Int.reduceMul, Int.reduceSub, reduceIte, reduceCtorEq])))
      exact fin _ _ rfl
  · have e0 : decide ((8 : Int) < (b.length : Int)) = true := by simp; omega
    rw [decide_eq_false hl, Bool.false_and] at fin
    (try (simp -implicitDefEqProofs only [go_sem, Nat.reduceAdd, Nat.reduceSub, Nat.reduceMul, Nat.reduceLT, Nat.reduceLeDiff, Nat.reduceEqDiff, Nat.reduceBEq, Int.reduceNeg, Int.reduceAdd, Int.reduceLT, Int.reduceLE, Int.reduceToNat, Int.reduceEq, Int.reduceNe, Int.reduceBEq, Int.reduceBNe, Int.reduceMul, Int.reduceSub, reduceIte, reduceCtorEq, slotsV, List.length_map, e0])); repeat' ((first | refine at_guard (fun hb => ?_) (fun hb => ?_) | refine ⟨fun hb => ?_, fun hb => ?_⟩ | fail) <;> (try (simp -implicitDefEqProofs only [go_sem, Nat.reduceAdd, Nat.reduceSub, Nat.reduceMul, Nat.reduceLT, Nat.reduceLeDiff, Nat.reduceEqDiff, Nat.reduceBEq, Int.reduceNeg, Int.reduceAdd, Int.reduceLT, Int.reduceLE, Int.reduceToNat, Int.reduceEq, Int.reduceNe, Int.reduceBEq, Int.reduceBNe, Int.reduceMul, Int.reduceSub, reduceIte, reduceCtorEq, slotsV, List.length_map, e0])))
    exact fin _ _ rfl
end Go.Proofs.Ytjkdpahaingjjaa.Ab
