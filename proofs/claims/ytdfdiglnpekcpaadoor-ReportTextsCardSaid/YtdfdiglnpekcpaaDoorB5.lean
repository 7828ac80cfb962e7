/-
  report.Worst and proctorlaw42's example: what they hand back. No claim is proved here.
-/
import Derived.Test.YtdfdiglnpekcpaaDoorB4
namespace Go.Proofs.YtdfdiglnpekcpaaDoor.Ab
open Go
set_option linter.unusedSimpArgs false

/-- Is an outcome's last verdict above another one's? -/
def oBet (a b : Oc) : Bool := decide (b.last < a.last)

theorem Worst_pc (l : List Oc) (hl : l.length < 9223372036854775807) (hv : ∀ a ∈ l, a.vs.length < 9223372036854775807) :
    PureC Tryd.prog G1 n_report_Worst [ocsV l] (iv (place (bestAt oBet l l.length))) := by
  refine pc_report_Worst (Runs.of fun Φ h => ?_)
  unfold c_report_Worst
  simp -implicitDefEqProofs only [go_sem, Nat.reduceAdd, Nat.reduceSub, Nat.reduceMul, Nat.reduceLT, Nat.reduceLeDiff, Nat.reduceEqDiff, Nat.reduceBEq, Int.reduceNeg, Int.reduceAdd, Int.reduceLT, Int.reduceLE, Int.reduceToNat, Int.reduceEq, Int.reduceNe, Int.reduceBEq, Int.reduceBNe, Int.reduceMul, Int.reduceSub, reduceIte, reduceCtorEq]
  refine at_call (Best_Outcome_pc oBet n_report_Worst_1 (by kernel_rfl) l (fun a ha b hb => Worst_1_pc a b (hv a ha) (hv b hb)) hl) rfl rfl ?_
  simp -implicitDefEqProofs only [go_sem, Nat.reduceAdd, Nat.reduceSub, Nat.reduceMul, Nat.reduceLT, Nat.reduceLeDiff, Nat.reduceEqDiff, Nat.reduceBEq, Int.reduceNeg, Int.reduceAdd, Int.reduceLT, Int.reduceLE, Int.reduceToNat, Int.reduceEq, Int.reduceNe, Int.reduceBEq, Int.reduceBNe, Int.reduceMul, Int.reduceSub, reduceIte, reduceCtorEq]
  exact h _ ⟨_, _, rfl, rfl, .refl _⟩

theorem awake42_pc : PureC Tryd.prog G1 n_proctorlaw42_awake [] (.bool true) := by
  have e : cntV 2 (cntAt [2, 4] 2) = .agg [iv 2, iv 1, iv 1, iv 2, iv 4] := rfl
  have h1 := Of_pc [2, 4] (by simp)
  rw [show ([2, 4] : List Int).length = 2 from rfl, e] at h1
  refine pc_proctorlaw42_awake (Runs.of fun Φ h => ?_)
  unfold c_proctorlaw42_awake
  simp -implicitDefEqProofs only [go_sem, Nat.reduceAdd, Nat.reduceSub, Nat.reduceMul, Nat.reduceLT, Nat.reduceLeDiff, Nat.reduceEqDiff, Nat.reduceBEq, Int.reduceNeg, Int.reduceAdd, Int.reduceLT, Int.reduceLE, Int.reduceToNat, Int.reduceEq, Int.reduceNe, Int.reduceBEq, Int.reduceBNe, Int.reduceMul, Int.reduceSub, reduceIte, reduceCtorEq]
  refine at_call h1 rfl rfl ?_
  simp -implicitDefEqProofs only [go_sem, Nat.reduceAdd, Nat.reduceSub, Nat.reduceMul, Nat.reduceLT, Nat.reduceLeDiff, Nat.reduceEqDiff, Nat.reduceBEq, Int.reduceNeg, Int.reduceAdd, Int.reduceLT, Int.reduceLE, Int.reduceToNat, Int.reduceEq, Int.reduceNe, Int.reduceBEq, Int.reduceBNe, Int.reduceMul, Int.reduceSub, reduceIte, reduceCtorEq]
  refine at_call_fit (Worst_pc [] (by simp) (by simp)) rfl ⟨.nil _, trivial⟩ rfl ?_
  simp -implicitDefEqProofs only [go_sem, Nat.reduceAdd, Nat.reduceSub, Nat.reduceMul, Nat.reduceLT, Nat.reduceLeDiff, Nat.reduceEqDiff, Nat.reduceBEq, Int.reduceNeg, Int.reduceAdd, Int.reduceLT, Int.reduceLE, Int.reduceToNat, Int.reduceEq, Int.reduceNe, Int.reduceBEq, Int.reduceBNe, Int.reduceMul, Int.reduceSub, reduceIte, reduceCtorEq, place, bestAt]
  exact h _ ⟨_, _, rfl, rfl, .refl _⟩
end Go.Proofs.YtdfdiglnpekcpaaDoor.Ab
