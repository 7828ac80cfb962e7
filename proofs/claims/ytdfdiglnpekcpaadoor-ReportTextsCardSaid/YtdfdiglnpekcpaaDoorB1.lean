/-
  report, verdict, proctorref32: what their functions hand back. No claim is proved here.
-/
import Derived.Test.YtdfdiglnpekcpaaDoorAcA
import Derived.Test.YtdfdiglnpekcpaaDoorD0
import Derived.Lib.ItoaNum
namespace Go.Proofs.YtdfdiglnpekcpaaDoor.Ab
open Go
set_option linter.unusedSimpArgs false
/-- What is known of variables. -/
def whereL : List (List UInt8) := [[116, 101, 120, 116], [108, 111, 103], [114, 117, 110]]
def nameL : List (List UInt8) := [[115, 117, 114, 101, 45, 116, 114, 117, 101], [110, 111, 119, 45, 116, 114, 117, 101], [110, 111, 119, 45, 102, 97, 108, 115, 101], [115, 117, 114, 101, 45, 102, 97, 108, 115, 101]]
def G1 (g : Nat) : Option AV := if g = 3 then some (.agg (Lib.pow10Tab.map (AV.int .u64))) else if g = 1 then some (.agg (nameL.map AV.str)) else if g = 0 then some (.agg (whereL.map AV.str)) else none

def isTrue (v : Int) : Bool := v == 1 || v == 2
def isSure (v : Int) : Bool := v == 1 || v == 4

theorem isTrue_pc (v : Int) : PureC Tryd.prog G1 n_verdict_IsTrue [iv v] (.bool (isTrue v)) := by
  refine pc_verdict_IsTrue (Runs.of fun Φ h => ?_)
  unfold c_verdict_IsTrue
  simp -implicitDefEqProofs only [go_sem, Nat.reduceAdd, Nat.reduceSub, Nat.reduceMul, Nat.reduceLT, Nat.reduceLeDiff, Nat.reduceEqDiff, Nat.reduceBEq, Int.reduceNeg, Int.reduceAdd, Int.reduceLT, Int.reduceLE, Int.reduceToNat, Int.reduceEq, Int.reduceNe, Int.reduceBEq, Int.reduceBNe, Int.reduceMul, Int.reduceSub, reduceIte, reduceCtorEq]
  refine at_guard (fun hb => ?_) (fun hb => ?_)
  · simp -implicitDefEqProofs only [go_sem, Nat.reduceAdd, Nat.reduceSub, Nat.reduceMul, Nat.reduceLT, Nat.reduceLeDiff, Nat.reduceEqDiff, Nat.reduceBEq, Int.reduceNeg, Int.reduceAdd, Int.reduceLT, Int.reduceLE, Int.reduceToNat, Int.reduceEq, Int.reduceNe, Int.reduceBEq, Int.reduceBNe, Int.reduceMul, Int.reduceSub, reduceIte, reduceCtorEq]
    refine h _ ⟨_, _, rfl, rfl, ?_⟩
    rw [isTrue, hb]; exact .refl _
  · simp -implicitDefEqProofs only [go_sem, Nat.reduceAdd, Nat.reduceSub, Nat.reduceMul, Nat.reduceLT, Nat.reduceLeDiff, Nat.reduceEqDiff, Nat.reduceBEq, Int.reduceNeg, Int.reduceAdd, Int.reduceLT, Int.reduceLE, Int.reduceToNat, Int.reduceEq, Int.reduceNe, Int.reduceBEq, Int.reduceBNe, Int.reduceMul, Int.reduceSub, reduceIte, reduceCtorEq]
    refine h _ ⟨_, _, rfl, rfl, ?_⟩
    rw [isTrue, hb]; exact .refl _
theorem isSure_pc (v : Int) : PureC Tryd.prog G1 n_verdict_IsSure [iv v] (.bool (isSure v)) := by
  refine pc_verdict_IsSure (Runs.of fun Φ h => ?_)
  unfold c_verdict_IsSure
  simp -implicitDefEqProofs only [go_sem, Nat.reduceAdd, Nat.reduceSub, Nat.reduceMul, Nat.reduceLT, Nat.reduceLeDiff, Nat.reduceEqDiff, Nat.reduceBEq, Int.reduceNeg, Int.reduceAdd, Int.reduceLT, Int.reduceLE, Int.reduceToNat, Int.reduceEq, Int.reduceNe, Int.reduceBEq, Int.reduceBNe, Int.reduceMul, Int.reduceSub, reduceIte, reduceCtorEq]
  refine at_guard (fun hb => ?_) (fun hb => ?_)
  · simp -implicitDefEqProofs only [go_sem, Nat.reduceAdd, Nat.reduceSub, Nat.reduceMul, Nat.reduceLT, Nat.reduceLeDiff, Nat.reduceEqDiff, Nat.reduceBEq, Int.reduceNeg, Int.reduceAdd, Int.reduceLT, Int.reduceLE, Int.reduceToNat, Int.reduceEq, Int.reduceNe, Int.reduceBEq, Int.reduceBNe, Int.reduceMul, Int.reduceSub, reduceIte, reduceCtorEq]
    refine h _ ⟨_, _, rfl, rfl, ?_⟩
    rw [isSure, hb]; exact .refl _
  · simp -implicitDefEqProofs only [go_sem, Nat.reduceAdd, Nat.reduceSub, Nat.reduceMul, Nat.reduceLT, Nat.reduceLeDiff, Nat.reduceEqDiff, Nat.reduceBEq, Int.reduceNeg, Int.reduceAdd, Int.reduceLT, Int.reduceLE, Int.reduceToNat, Int.reduceEq, Int.reduceNe, Int.reduceBEq, Int.reduceBNe, Int.reduceMul, Int.reduceSub, reduceIte, reduceCtorEq]
    refine h _ ⟨_, _, rfl, rfl, ?_⟩
    rw [isSure, hb]; exact .refl _

/-- A slice of numbers. -/
def ivs (l : List Int) : AV := .seq 1 (l.map iv)
theorem aiaddr_ivs {H : List (Nat × Box)} {l : List Int} {i : Nat} {x : Int} (h : l[i]? = some x) : aiaddr H 1 (.seq 1 (l.map iv)) (.int .i64 (i : Int)) = some (.eptr (iv x) 0) :=
  aiaddr_seq _ (by omega) (by simp [h])

theorem Right_pc (l : List Int) (hl : l.length < 9223372036854775807) : PureC Tryd.prog G1 n_proctorref32_Right [ivs l] (.bool (l.all fun v => decide (1 ≤ v) && decide (v ≤ 4))) := by
  refine pc_proctorref32_Right (Runs.of fun Φ h => ?_)
  unfold c_proctorref32_Right
  simp -implicitDefEqProofs only [go_sem, Nat.reduceAdd, Nat.reduceSub, Nat.reduceMul, Nat.reduceLT, Nat.reduceLeDiff, Nat.reduceEqDiff, Nat.reduceBEq, Int.reduceNeg, Int.reduceAdd, Int.reduceLT, Int.reduceLE, Int.reduceToNat, Int.reduceEq, Int.reduceNe, Int.reduceBEq, Int.reduceBNe, Int.reduceMul, Int.reduceSub, reduceIte, reduceCtorEq]
  refine at_loop (fun n st => ∃ i : Nat, i + n = l.length + 1 ∧ st = ⟨22, [(0, ivs l), (3, iv i)], []⟩ ∧ ∀ j v, j < i → l[j]? = some v → 1 ≤ v ∧ v ≤ 4) (l.length + 1) ⟨0, by simp, by rfl, fun j v hj => by omega⟩ ?_
  rintro I hI n st ⟨i, hi, rfl, hall⟩
  simp -implicitDefEqProofs only [go_sem, Nat.reduceAdd, Nat.reduceSub, Nat.reduceMul, Nat.reduceLT, Nat.reduceLeDiff, Nat.reduceEqDiff, Nat.reduceBEq, Int.reduceNeg, Int.reduceAdd, Int.reduceLT, Int.reduceLE, Int.reduceToNat, Int.reduceEq, Int.reduceNe, Int.reduceBEq, Int.reduceBNe, Int.reduceMul, Int.reduceSub, reduceIte, reduceCtorEq, ivs, List.length_map]
  refine ⟨fun hlt => ?_, fun hge => ?_⟩
  · have hlt' : i < l.length := by omega
    have hx : l[i]? = some l[i] := List.getElem?_eq_getElem hlt'
    generalize l[i] = x at hx
    have hw : IntKind.i64.wrap ((i : Int) + 1) = ((i + 1 : Nat) : Int) := by rw [wrap_i64 (by omega) (by omega)]; omega
    have hbad : ¬ (1 ≤ x ∧ x ≤ 4) → (l.all fun v => decide (1 ≤ v) && decide (v ≤ 4)) = false := fun hn => by
      rw [List.all_eq_false]
      exact ⟨x, List.mem_of_getElem? hx, by simpa using hn⟩
    have hgood : 1 ≤ x ∧ x ≤ 4 → ∀ j v, j < i + 1 → l[j]? = some v → 1 ≤ v ∧ v ≤ 4 := fun hx' j v hj hv => by
      by_cases e : j = i
      · subst e; rw [hx] at hv; cases hv; exact hx'
      · exact hall j v (by omega) hv
    simp -implicitDefEqProofs only [go_sem, Nat.reduceAdd, Nat.reduceSub, Nat.reduceMul, Nat.reduceLT, Nat.reduceLeDiff, Nat.reduceEqDiff, Nat.reduceBEq, Int.reduceNeg, Int.reduceAdd, Int.reduceLT, Int.reduceLE, Int.reduceToNat, Int.reduceEq, Int.reduceNe, Int.reduceBEq, Int.reduceBNe, Int.reduceMul, Int.reduceSub, reduceIte, reduceCtorEq, aiaddr_ivs hx]
    refine at_guard (fun hb => ?_) (fun hb => ?_)
    · have hb' : 1 ≤ x := by simpa using hb
      simp -implicitDefEqProofs only [go_sem, Nat.reduceAdd, Nat.reduceSub, Nat.reduceMul, Nat.reduceLT, Nat.reduceLeDiff, Nat.reduceEqDiff, Nat.reduceBEq, Int.reduceNeg, Int.reduceAdd, Int.reduceLT, Int.reduceLE, Int.reduceToNat, Int.reduceEq, Int.reduceNe, Int.reduceBEq, Int.reduceBNe, Int.reduceMul, Int.reduceSub, reduceIte, reduceCtorEq, aiaddr_ivs hx]
      refine ⟨fun h4 => ?_, fun h4 => ?_⟩
      · rw [hbad (by omega)] at h
        exact h _ ⟨_, _, rfl, rfl, .refl _⟩
      · simp -implicitDefEqProofs only [go_sem, Nat.reduceAdd, Nat.reduceSub, Nat.reduceMul, Nat.reduceLT, Nat.reduceLeDiff, Nat.reduceEqDiff, Nat.reduceBEq, Int.reduceNeg, Int.reduceAdd, Int.reduceLT, Int.reduceLE, Int.reduceToNat, Int.reduceEq, Int.reduceNe, Int.reduceBEq, Int.reduceBNe, Int.reduceMul, Int.reduceSub, reduceIte, reduceCtorEq, hw]
        exact at_again (n - 1) (by omega) (hI _ _ ⟨i + 1, by omega, rfl, hgood (by omega)⟩)
    · have hb' : x < 1 := by simpa using hb
      simp -implicitDefEqProofs only [go_sem, Nat.reduceAdd, Nat.reduceSub, Nat.reduceMul, Nat.reduceLT, Nat.reduceLeDiff, Nat.reduceEqDiff, Nat.reduceBEq, Int.reduceNeg, Int.reduceAdd, Int.reduceLT, Int.reduceLE, Int.reduceToNat, Int.reduceEq, Int.reduceNe, Int.reduceBEq, Int.reduceBNe, Int.reduceMul, Int.reduceSub, reduceIte, reduceCtorEq, aiaddr_ivs hx]
      rw [hbad (by omega)] at h
      exact h _ ⟨_, _, rfl, rfl, .refl _⟩
  · refine h _ ⟨_, _, rfl, rfl, ?_⟩
    have : (l.all fun v => decide (1 ≤ v) && decide (v ≤ 4)) = true := by
      rw [List.all_eq_true]
      intro v hv
      obtain ⟨j, hj⟩ := List.getElem?_of_mem hv
      have := hall j v (by have := (List.getElem?_eq_some_iff.1 hj).1; omega) hj
      simp [this]
    rw [this]
    exact .refl _
end Go.Proofs.YtdfdiglnpekcpaaDoor.Ab
