/-
  value, proctorref03: values. No claim is proved here.
-/
import Derived.Test.YtdfdiglnpekcpabDoorQAcR
import Derived.Test.YtdfdiglnpekcpabDoorQN0
namespace Go.Proofs.YtdfdiglnpekcpabDoor.Ab
open Go
set_option linter.unusedSimpArgs false
set_option maxHeartbeats 4000000
variable {G : Nat → Option AV}
structure Val where
  kind : Int
  int : Int
  str : Str
  bool : Bool
deriving DecidableEq
abbrev v0 : Val := ⟨0, 0, [], false⟩
def valV (v : Val) : AV := .agg [iv v.kind, iv v.int, .str v.str, .bool v.bool]
theorem value_Int_pc (n : Int) : PureC Tryd.prog G n_value_Int [iv n] (valV ⟨1, n, [], false⟩) := by
  refine pc_value_Int (Runs.of fun Φ h => ?_)
  unfold c_value_Int
  simp -implicitDefEqProofs only [go_sem, Nat.reduceAdd, Nat.reduceSub, Nat.reduceMul, Nat.reduceLT, Nat.reduceLeDiff, Nat.reduceEqDiff, Nat.reduceBEq, Int.reduceNeg, Int.reduceAdd, Int.reduceLT, Int.reduceLE, Int.reduceToNat, Int.reduceEq, Int.reduceNe, Int.reduceBEq, Int.reduceBNe, Int.reduceMul, Int.reduceSub, reduceIte, reduceCtorEq]
  exact h _ ⟨_, _, rfl, rfl, .refl _⟩
theorem value_Str_pc (s : Str) : PureC Tryd.prog G n_value_Str [.str s] (valV ⟨2, 0, s, false⟩) := by
  refine pc_value_Str (Runs.of fun Φ h => ?_)
  unfold c_value_Str
  simp -implicitDefEqProofs only [go_sem, Nat.reduceAdd, Nat.reduceSub, Nat.reduceMul, Nat.reduceLT, Nat.reduceLeDiff, Nat.reduceEqDiff, Nat.reduceBEq, Int.reduceNeg, Int.reduceAdd, Int.reduceLT, Int.reduceLE, Int.reduceToNat, Int.reduceEq, Int.reduceNe, Int.reduceBEq, Int.reduceBNe, Int.reduceMul, Int.reduceSub, reduceIte, reduceCtorEq]
  exact h _ ⟨_, _, rfl, rfl, .refl _⟩
theorem value_Bool_pc (b : Bool) : PureC Tryd.prog G n_value_Bool [.bool b] (valV ⟨3, 0, [], b⟩) := by
  refine pc_value_Bool (Runs.of fun Φ h => ?_)
  unfold c_value_Bool
  simp -implicitDefEqProofs only [go_sem, Nat.reduceAdd, Nat.reduceSub, Nat.reduceMul, Nat.reduceLT, Nat.reduceLeDiff, Nat.reduceEqDiff, Nat.reduceBEq, Int.reduceNeg, Int.reduceAdd, Int.reduceLT, Int.reduceLE, Int.reduceToNat, Int.reduceEq, Int.reduceNe, Int.reduceBEq, Int.reduceBNe, Int.reduceMul, Int.reduceSub, reduceIte, reduceCtorEq]
  exact h _ ⟨_, _, rfl, rfl, .refl _⟩
/-- Which values may be. -/
def Val.ok (v : Val) : Bool :=
  if v.kind = 1 then v.str == [] && !v.bool else if v.kind = 2 then v.int == 0 && (!v.bool && decide ((v.str.length : Int) ≤ 4096)) else decide (v.kind = 3) && (v.int == 0 && v.str == [])
theorem value_Right_pc (v : Val) : PureC Tryd.prog G n_value_Right [valV v] (.bool v.ok) := by
  obtain ⟨k, n, s, b⟩ := v
  refine pc_value_Right (Runs.of fun Φ h => ?_)
  unfold c_value_Right
  (try (simp -implicitDefEqProofs only [go_sem, Nat.reduceAdd, Nat.reduceSub, Nat.reduceMul, Nat.reduceLT, Nat.reduceLeDiff, Nat.reduceEqDiff, Nat.reduceBEq, Int.reduceNeg, Int.reduceAdd, Int.reduceLT, Int.reduceLE, Int.reduceToNat, Int.reduceEq, Int.reduceNe, Int.reduceBEq, Int.reduceBNe, Int.reduceMul, Int.reduceSub, reduceIte, reduceCtorEq, valV])); repeat' ((first | refine at_guard (fun hb => ?_) (fun hb => ?_) | refine ⟨fun hb => ?_, fun hb => ?_⟩ | refine at_call (value_Int_pc _) rfl rfl ?_ | refine at_call (value_Str_pc _) rfl rfl ?_ | refine at_call (value_Bool_pc _) rfl rfl ?_ | fail) <;> (try (simp -implicitDefEqProofs only [go_sem, Nat.reduceAdd, Nat.reduceSub, Nat.reduceMul, Nat.reduceLT, Nat.reduceLeDiff, Nat.reduceEqDiff, Nat.reduceBEq, Int.reduceNeg, Int.reduceAdd, Int.reduceLT, Int.reduceLE, Int.reduceToNat, Int.reduceEq, Int.reduceNe, Int.reduceBEq, Int.reduceBNe, Int.reduceMul, Int.reduceSub, reduceIte, reduceCtorEq, valV])))
  all_goals (refine h _ ⟨_, _, rfl, rfl, fit_eq ?_⟩; clear h; first | rfl | simp_all [Val.ok])
theorem ref03_Right_pc (v : Val) : PureC Tryd.prog G n_proctorref03_Right [valV v] (.bool v.ok) := by
  obtain ⟨k, n, s, b⟩ := v
  refine pc_proctorref03_Right (Runs.of fun Φ h => ?_)
  unfold c_proctorref03_Right
  (try (simp -implicitDefEqProofs only [go_sem, Nat.reduceAdd, Nat.reduceSub, Nat.reduceMul, Nat.reduceLT, Nat.reduceLeDiff, Nat.reduceEqDiff, Nat.reduceBEq, Int.reduceNeg, Int.reduceAdd, Int.reduceLT, Int.reduceLE, Int.reduceToNat, Int.reduceEq, Int.reduceNe, Int.reduceBEq, Int.reduceBNe, Int.reduceMul, Int.reduceSub, reduceIte, reduceCtorEq, valV])); repeat' ((first | refine at_guard (fun hb => ?_) (fun hb => ?_) | refine ⟨fun hb => ?_, fun hb => ?_⟩ | fail) <;> (try (simp -implicitDefEqProofs only [go_sem, Nat.reduceAdd, Nat.reduceSub, Nat.reduceMul, Nat.reduceLT, Nat.reduceLeDiff, Nat.reduceEqDiff, Nat.reduceBEq, Int.reduceNeg, Int.reduceAdd, Int.reduceLT, Int.reduceLE, Int.reduceToNat, Int.reduceEq, Int.reduceNe, Int.reduceBEq, Int.reduceBNe, Int.reduceMul, Int.reduceSub, reduceIte, reduceCtorEq, valV])))
  all_goals (refine h _ ⟨_, _, rfl, rfl, fit_eq ?_⟩; clear h; first | rfl | simp_all [Val.ok])
/-- A kind's name. -/
def kindName (k : Int) : Str := if k = 1 then [105, 110, 116] else if k = 2 then [115, 116, 114, 105, 110, 103] else if k = 3 then [98, 111, 111, 108] else []
theorem value_Name_pc (k : Int) : PureC Tryd.prog G n_value_Name [iv k] (.str (kindName k)) := by
  refine pc_value_Name (Runs.of fun Φ h => ?_)
  unfold c_value_Name
  (try (simp -implicitDefEqProofs only [go_sem, Nat.reduceAdd, Nat.reduceSub, Nat.reduceMul, Nat.reduceLT, Nat.reduceLeDiff, Nat.reduceEqDiff, Nat.reduceBEq, Int.reduceNeg, Int.reduceAdd, Int.reduceLT, Int.reduceLE, Int.reduceToNat, Int.reduceEq, Int.reduceNe, Int.reduceBEq, Int.reduceBNe, Int.reduceMul, Int.reduceSub, reduceIte, reduceCtorEq])); repeat' ((first | refine at_guard (fun hb => ?_) (fun hb => ?_) | refine ⟨fun hb => ?_, fun hb => ?_⟩ | fail) <;> (try (simp -implicitDefEqProofs only [go_sem, Nat.reduceAdd, Nat.reduceSub, Nat.reduceMul, Nat.reduceLT, Nat.reduceLeDiff, Nat.reduceEqDiff, Nat.reduceBEq, Int.reduceNeg, Int.reduceAdd, Int.reduceLT, Int.reduceLE, Int.reduceToNat, Int.reduceEq, Int.reduceNe, Int.reduceBEq, Int.reduceBNe, Int.reduceMul, Int.reduceSub, reduceIte, reduceCtorEq])))
  all_goals (refine h _ ⟨_, _, rfl, rfl, fit_eq ?_⟩; clear h; first | rfl | simp_all [kindName])
theorem value_when_pc (b : Bool) (k : Int) : PureC Tryd.prog G n_value_when [.bool b, iv k] (iv (if b then k else 0)) := by
  refine pc_value_when (Runs.of fun Φ h => ?_)
  unfold c_value_when
  (try (simp -implicitDefEqProofs only [go_sem, Nat.reduceAdd, Nat.reduceSub, Nat.reduceMul, Nat.reduceLT, Nat.reduceLeDiff, Nat.reduceEqDiff, Nat.reduceBEq, Int.reduceNeg, Int.reduceAdd, Int.reduceLT, Int.reduceLE, Int.reduceToNat, Int.reduceEq, Int.reduceNe, Int.reduceBEq, Int.reduceBNe, Int.reduceMul, Int.reduceSub, reduceIte, reduceCtorEq])); repeat' ((first | refine at_guard (fun hb => ?_) (fun hb => ?_) | refine ⟨fun hb => ?_, fun hb => ?_⟩ | fail) <;> (try (simp -implicitDefEqProofs only [go_sem, Nat.reduceAdd, Nat.reduceSub, Nat.reduceMul, Nat.reduceLT, Nat.reduceLeDiff, Nat.reduceEqDiff, Nat.reduceBEq, Int.reduceNeg, Int.reduceAdd, Int.reduceLT, Int.reduceLE, Int.reduceToNat, Int.reduceEq, Int.reduceNe, Int.reduceBEq, Int.reduceBNe, Int.reduceMul, Int.reduceSub, reduceIte, reduceCtorEq])))
  all_goals (refine h _ ⟨_, _, rfl, rfl, fit_eq ?_⟩; clear h; first | rfl | simp_all)
/-- The kind that an operator makes of kinds. -/
def opKind (op a b : Int) : Int :=
  if op = 4 then (if a = 3 then 3 else 0)
  else if op = 5 then (if a = 1 then 1 else 0)
  else if op = 6 ∨ op = 7 then (if a = 3 ∧ b = a then 3 else 0)
  else if op = 9 ∨ op = 10 ∨ op = 11 ∨ op = 12 then (if a = 1 ∧ b = a then a else 0)
  else if op = 8 then (if (a = 1 ∨ a = 2) ∧ b = a then a else 0)
  else if op = 13 ∨ op = 14 then (if kindName a ≠ [] ∧ b = a then 3 else 0)
  else if op = 15 ∨ op = 16 then (if (a = 1 ∨ a = 2) ∧ b = a then 3 else 0)
  else 0
theorem value_Type_pc (op a b : Int) : PureC Tryd.prog G n_value_Type [iv op, iv a, iv b] (iv (opKind op a b)) := by
  refine pc_value_Type (Runs.of fun Φ h => ?_)
  unfold c_value_Type
  (try (simp -implicitDefEqProofs only [go_sem, Nat.reduceAdd, Nat.reduceSub, Nat.reduceMul, Nat.reduceLT, Nat.reduceLeDiff, Nat.reduceEqDiff, Nat.reduceBEq, Int.reduceNeg, Int.reduceAdd, Int.reduceLT, Int.reduceLE, Int.reduceToNat, Int.reduceEq, Int.reduceNe, Int.reduceBEq, Int.reduceBNe, Int.reduceMul, Int.reduceSub, reduceIte, reduceCtorEq])); repeat' ((first | refine at_guard (fun hb => ?_) (fun hb => ?_) | refine ⟨fun hb => ?_, fun hb => ?_⟩ | refine at_call (value_when_pc _ _) rfl rfl ?_ | refine at_call (value_Name_pc _) rfl rfl ?_ | fail) <;> (try (simp -implicitDefEqProofs only [go_sem, Nat.reduceAdd, Nat.reduceSub, Nat.reduceMul, Nat.reduceLT, Nat.reduceLeDiff, Nat.reduceEqDiff, Nat.reduceBEq, Int.reduceNeg, Int.reduceAdd, Int.reduceLT, Int.reduceLE, Int.reduceToNat, Int.reduceEq, Int.reduceNe, Int.reduceBEq, Int.reduceBNe, Int.reduceMul, Int.reduceSub, reduceIte, reduceCtorEq])))
  all_goals (refine h _ ⟨_, _, rfl, rfl, fit_eq ?_⟩; clear h; simp_all [opKind])
