/-
  proctorlaw05.awake; the document's binding of slots. No claim is proved here.
-/
import Derived.Test.YtdfdiglnpekcpaaWRf6
namespace Go.Proofs.Ytdfdiglnpekcpaa.Ab
open Go Go.RowKit
set_option linter.unusedSimpArgs false
set_option maxHeartbeats 4000000
set_option maxRecDepth 100000
variable {G : Nat → Option AV}
def aB : List SlotT := [⟨0, ⟨1, 5, [], false⟩⟩]
def bB : List SlotT := [⟨0, ⟨1, 5, [], false⟩⟩, ⟨1, ⟨1, 6, [], false⟩⟩]
theorem law05_awake_pc : PureC Try.prog G n_proctorlaw05_awake [] (.bool true) := by
  have h1 := binding_Union_pc (G := G) aB bB (by decide) (by decide)
  rw [show unionB aB bB = some bB by decide +kernel] at h1
  have h2 := binding_Under_pc (G := G) aB bB (by decide) (by decide)
  rw [show underR aB bB = true by decide +kernel] at h2
  have h3 := binding_Right_pc (G := G) bB (by decide)
  rw [show bindOk bB = true by decide +kernel] at h3
  refine pc_proctorlaw05_awake (Runs.of fun Φ h => ?_)
  unfold c_proctorlaw05_awake
  simp only [slotsV, ofV, aB, bB, slotV, List.map_cons, List.map_nil, Option.getD_some, Option.isSome_some] at h1 h2 h3
  (try (simp -implicitDefEqProofs only [go_sem, Nat.reduceAdd, Nat.reduceSub, Nat.reduceMul, Nat.reduceLT, Nat.reduceLeDiff, Nat.reduceEqDiff, Nat.reduceBEq, Int.reduceNeg, Int.reduceAdd, Int.reduceLT, Int.reduceLE, Int.reduceToNat, Int.reduceEq, Int.reduceNe, Int.reduceBEq, Int.reduceBNe, Int.reduceMul, Int.reduceSub, reduceIte, reduceCtorEq])); repeat' ((first | refine at_guard (fun hb => ?_) (fun hb => ?_) | refine ⟨fun hb => ?_, fun hb => ?_⟩ | refine at_call (h1) rfl rfl ?_ | refine at_call (h2) rfl rfl ?_ | refine at_call (h3) rfl rfl ?_ | fail) <;> (try (simp -implicitDefEqProofs only [go_sem, Nat.reduceAdd, Nat.reduceSub, Nat.reduceMul, Nat.reduceLT, Nat.reduceLeDiff, Nat.reduceEqDiff, Nat.reduceBEq, Int.reduceNeg, Int.reduceAdd, Int.reduceLT, Int.reduceLE, Int.reduceToNat, Int.reduceEq, Int.reduceNe, Int.reduceBEq, Int.reduceBNe, Int.reduceMul, Int.reduceSub, reduceIte, reduceCtorEq])))
  all_goals first
    | exact h _ ⟨_, _, rfl, rfl, .refl _⟩
    | (exfalso; revert hb; decide)
def badS (m : List SlotT) (s : SlotT) : Bool := ((getR m s.var).2 && !decide ((getR m s.var).1 = s.value)) || (decide (s.var < 0) || (decide (7 < s.var) || !bindOk [s]))
def refGo : List SlotT → List SlotT → Option (List SlotT)
  | m, [] => some m
  | m, s :: l => if badS m s then none else refGo (unionR m [s]) l
end Go.Proofs.Ytdfdiglnpekcpaa.Ab
