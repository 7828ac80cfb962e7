/-
  proctorref32.Right, verdict.Name, batch.joint: what they hand back. No claim is proved here.
-/
import Derived.Test.YtgdlgdchdohdoaaGreatDoorQBj0
import Derived.Test.YtgdlgdchdohdoaaGreatDoorQD0
import Derived.Test.YtgdlgdchdohdoaaGreatDoorQAcR
import Derived.Test.YtgdlgdchdohdoaaGreatDoorQBj2
namespace Go.Proofs.YtgdlgdchdohdoaaGreatDoor.Ab
open Go
set_option linter.unusedSimpArgs false
set_option maxHeartbeats 4000000
section
variable {G : Nat → Option AV}
/-- An outcome. -/
structure Oc where
  vs : List Int
  part : Int
  err : Int
  line : Int
  col : Int
def ocV (o : Oc) : AV := .agg [.seq 1 (o.vs.map iv), iv o.part, iv o.err, iv o.line, iv o.col]
def ocsV (l : List Oc) : AV := .seq 5 (l.map ocV)
def rightV (l : List Int) : Bool := l.all fun v => decide (1 ≤ v) && decide (v ≤ 4)
theorem rightV_mem {l : List Int} (h : rightV l = true) : ∀ v ∈ l, 1 ≤ v ∧ v ≤ 4 := by
  intro v hv
  have := List.all_eq_true.1 h v hv
  simpa using this
theorem ref32_Right_pc (l : List Int) (hl : l.length < 9223372036854775807) : PureC Tryz.prog G n_proctorref32_Right [.seq 1 (l.map iv)] (.bool (rightV l)) := by
  refine pc_proctorref32_Right (Runs.of fun Φ h => ?_)
  unfold c_proctorref32_Right
  simp -implicitDefEqProofs only [go_sem, Nat.reduceAdd, Nat.reduceSub, Nat.reduceMul, Nat.reduceLT, Nat.reduceLeDiff, Nat.reduceEqDiff, Nat.reduceBEq, Int.reduceNeg, Int.reduceAdd, Int.reduceLT, Int.reduceLE, Int.reduceToNat, Int.reduceEq, Int.reduceNe, Int.reduceBEq, Int.reduceBNe, Int.reduceMul, Int.reduceSub, reduceIte, reduceCtorEq, List.length_map]
  refine at_loop (fun n st => ∃ i : Nat, i + n = l.length ∧ st = ⟨22, [(0, .seq 1 (l.map iv)), (3, iv i)], []⟩ ∧ ∀ j x, j < i → l[j]? = some x → 1 ≤ x ∧ x ≤ 4) l.length ⟨0, by simp, rfl, fun j x hj => by omega⟩ ?_
  rintro I hI n st ⟨i, hi, rfl, hno⟩
  simp -implicitDefEqProofs only [go_sem, Nat.reduceAdd, Nat.reduceSub, Nat.reduceMul, Nat.reduceLT, Nat.reduceLeDiff, Nat.reduceEqDiff, Nat.reduceBEq, Int.reduceNeg, Int.reduceAdd, Int.reduceLT, Int.reduceLE, Int.reduceToNat, Int.reduceEq, Int.reduceNe, Int.reduceBEq, Int.reduceBNe, Int.reduceMul, Int.reduceSub, reduceIte, reduceCtorEq, List.length_map]
  refine ⟨fun hlt => ?_, fun hge => ?_⟩
  · have hlt' : i < l.length := by omega
    obtain ⟨x, hx, hm⟩ := at_some hlt'
    have hw := wrap_succ hlt' (by omega)
    have bad : ¬ (1 ≤ x ∧ x ≤ 4) → rightV l = false := fun hb => by
      unfold rightV
      rw [List.all_eq_false]
      exact ⟨x, hm, by simpa using hb⟩
    have good : (1 ≤ x ∧ x ≤ 4) → ∀ j y, j < i + 1 → l[j]? = some y → 1 ≤ y ∧ y ≤ 4 := fun hg j y hj hy => by
      by_cases e : j = i
      · subst e; rw [hx] at hy; cases hy; exact hg
      · exact hno j y (by omega) hy
    (try (simp -implicitDefEqProofs only [go_sem, Nat.reduceAdd, Nat.reduceSub, Nat.reduceMul, Nat.reduceLT, Nat.reduceLeDiff, Nat.reduceEqDiff, Nat.reduceBEq, Int.reduceNeg, Int.reduceAdd, Int.reduceLT, Int.reduceLE, Int.reduceToNat, Int.reduceEq, Int.reduceNe, Int.reduceBEq, Int.reduceBNe, Int.reduceMul, Int.reduceSub, reduceIte, reduceCtorEq, aiaddr_map hx, hw])); repeat' ((first | refine at_guard (fun hb => ?_) (fun hb => ?_) | refine ⟨fun hb => ?_, fun hb => ?_⟩ | fail) <;> (try (simp -implicitDefEqProofs only [go_sem, Nat.reduceAdd, Nat.reduceSub, Nat.reduceMul, Nat.reduceLT, Nat.reduceLeDiff, Nat.reduceEqDiff, Nat.reduceBEq, Int.reduceNeg, Int.reduceAdd, Int.reduceLT, Int.reduceLE, Int.reduceToNat, Int.reduceEq, Int.reduceNe, Int.reduceBEq, Int.reduceBNe, Int.reduceMul, Int.reduceSub, reduceIte, reduceCtorEq, aiaddr_map hx, hw])))
    all_goals first
      | exact at_again (n - 1) (by omega) (hI _ _ ⟨i + 1, by omega, rfl, good (by simp at *; omega)⟩)
      | (refine h _ ⟨_, _, rfl, rfl, fitB ?_⟩; exact (bad (by simp at *; omega)).symm)
  · have : i = l.length := by omega
    subst this
    refine h _ ⟨_, _, rfl, rfl, fitB ?_⟩
    symm
    unfold rightV
    rw [List.all_eq_true]
    intro x hx
    obtain ⟨j, hj⟩ := List.getElem?_of_mem hx
    have := hno j x (List.getElem?_eq_some_iff.1 hj).1 hj
    simpa using this
theorem verdict_Name_pc (hG : G 0 = some (.agg (nameL.map AV.str))) (v : Int) (h : 1 ≤ v ∧ v ≤ 4) : ∃ s, s ≠ [] ∧ PureC Tryz.prog G n_verdict_Name [iv v] (.str s) := by
  refine ⟨nameL.getD (v - 1).toNat [], ?_, ?_⟩
  · have : v = 1 ∨ v = 2 ∨ v = 3 ∨ v = 4 := by omega
    rcases this with rfl | rfl | rfl | rfl <;> decide
  have : v = 1 ∨ v = 2 ∨ v = 3 ∨ v = 4 := by omega
  rcases this with rfl | rfl | rfl | rfl
  all_goals
    refine pc_verdict_Name (Runs.of fun Φ h => ?_)
    unfold c_verdict_Name
    have e : IntKind.i64.wrap (1 - 1) = 0 ∧ IntKind.i64.wrap (2 - 1) = 1 ∧ IntKind.i64.wrap (3 - 1) = 2 ∧ IntKind.i64.wrap (4 - 1) = 3 := ⟨rfl, rfl, rfl, rfl⟩
    (try (simp -implicitDefEqProofs only [go_sem, Nat.reduceAdd, Nat.reduceSub, Nat.reduceMul, Nat.reduceLT, Nat.reduceLeDiff, Nat.reduceEqDiff, Nat.reduceBEq, Int.reduceNeg, Int.reduceAdd, Int.reduceLT, Int.reduceLE, Int.reduceToNat, Int.reduceEq, Int.reduceNe, Int.reduceBEq, Int.reduceBNe, Int.reduceMul, Int.reduceSub, reduceIte, reduceCtorEq, e, hG, nameL])); repeat' ((first | refine at_guard (fun hb => ?_) (fun hb => ?_) | refine ⟨fun hb => ?_, fun hb => ?_⟩ | fail) <;> (try (simp -implicitDefEqProofs only [go_sem, Nat.reduceAdd, Nat.reduceSub, Nat.reduceMul, Nat.reduceLT, Nat.reduceLeDiff, Nat.reduceEqDiff, Nat.reduceBEq, Int.reduceNeg, Int.reduceAdd, Int.reduceLT, Int.reduceLE, Int.reduceToNat, Int.reduceEq, Int.reduceNe, Int.reduceBEq, Int.reduceBNe, Int.reduceMul, Int.reduceSub, reduceIte, reduceCtorEq, e, hG, nameL])))
    refine h _ ⟨_, _, rfl, rfl, .refl _⟩
theorem slices_Index_int_int_pc (l : List Int) (v : Int) (hl : l.length < 9223372036854775807) : PureC Tryz.prog G n_slices_Index_int_int [.seq 1 (l.map iv), iv v] (iv (idxF (fun x => v == x) l)) := by
  refine pc_slices_Index_int_int (Runs.of fun Φ h => ?_)
  unfold c_slices_Index_int_int
  simp -implicitDefEqProofs only [go_sem, Nat.reduceAdd, Nat.reduceSub, Nat.reduceMul, Nat.reduceLT, Nat.reduceLeDiff, Nat.reduceEqDiff, Nat.reduceBEq, Int.reduceNeg, Int.reduceAdd, Int.reduceLT, Int.reduceLE, Int.reduceToNat, Int.reduceEq, Int.reduceNe, Int.reduceBEq, Int.reduceBNe, Int.reduceMul, Int.reduceSub, reduceIte, reduceCtorEq, List.length_map]
  refine at_loop (fun n st => ∃ i : Nat, i + n = l.length ∧ st = ⟨19, [(0, .seq 1 (l.map iv)), (1, iv v), (7, iv l.length), (8, iv i)], []⟩ ∧ ∀ j x, j < i → l[j]? = some x → (v == x) = false) l.length ⟨0, by simp, rfl, fun j x hj => by omega⟩ ?_
  rintro I hI n st ⟨i, hi, rfl, hno⟩
  simp -implicitDefEqProofs only [go_sem, Nat.reduceAdd, Nat.reduceSub, Nat.reduceMul, Nat.reduceLT, Nat.reduceLeDiff, Nat.reduceEqDiff, Nat.reduceBEq, Int.reduceNeg, Int.reduceAdd, Int.reduceLT, Int.reduceLE, Int.reduceToNat, Int.reduceEq, Int.reduceNe, Int.reduceBEq, Int.reduceBNe, Int.reduceMul, Int.reduceSub, reduceIte, reduceCtorEq]
  refine ⟨fun hlt => ?_, fun hge => ?_⟩
  · have hlt' : i < l.length := by omega
    obtain ⟨x, hx, hm⟩ := at_some hlt'
    have hw := wrap_succ hlt' (by omega)
    have fin : (v == x) = false → again I n ⟨19, [(0, .seq 1 (l.map iv)), (1, iv v), (7, iv l.length), (8, iv (i + 1 : Nat))], []⟩ := fun hv => at_again (n - 1) (by omega) (hI _ _ ⟨i + 1, by omega, rfl, fun j y hj hy => by
        by_cases e : j = i
        · subst e; rw [hx] at hy; cases hy; exact hv
        · exact hno j y (by omega) hy⟩)
    simp -implicitDefEqProofs only [go_sem, Nat.reduceAdd, Nat.reduceSub, Nat.reduceMul, Nat.reduceLT, Nat.reduceLeDiff, Nat.reduceEqDiff, Nat.reduceBEq, Int.reduceNeg, Int.reduceAdd, Int.reduceLT, Int.reduceLE, Int.reduceToNat, Int.reduceEq, Int.reduceNe, Int.reduceBEq, Int.reduceBNe, Int.reduceMul, Int.reduceSub, reduceIte, reduceCtorEq, aiaddr_map hx]
    refine ⟨fun hb => ?_, fun hb => ?_⟩
    · have hv : (v == x) = true := by simpa using hb
      exact h _ ⟨_, _, rfl, rfl, fitI (idxF_at hx hv hno).symm⟩
    · have hv : (v == x) = false := by simpa using hb
      simp -implicitDefEqProofs only [go_sem, Nat.reduceAdd, Nat.reduceSub, Nat.reduceMul, Nat.reduceLT, Nat.reduceLeDiff, Nat.reduceEqDiff, Nat.reduceBEq, Int.reduceNeg, Int.reduceAdd, Int.reduceLT, Int.reduceLE, Int.reduceToNat, Int.reduceEq, Int.reduceNe, Int.reduceBEq, Int.reduceBNe, Int.reduceMul, Int.reduceSub, reduceIte, reduceCtorEq, hw]
      exact fin hv
  · have : i = l.length := by omega
    subst this
    exact h _ ⟨_, _, rfl, rfl, fitI (idxF_none hno).symm⟩
theorem slices_Contains_int_int_pc (l : List Int) (v : Int) (hl : l.length < 9223372036854775807) : PureC Tryz.prog G n_slices_Contains_int_int [.seq 1 (l.map iv), iv v] (.bool (l.any fun x => v == x)) := by
  refine pc_slices_Contains_int_int (Runs.of fun Φ h => ?_)
  unfold c_slices_Contains_int_int
  simp -implicitDefEqProofs only [go_sem, Nat.reduceAdd, Nat.reduceSub, Nat.reduceMul, Nat.reduceLT, Nat.reduceLeDiff, Nat.reduceEqDiff, Nat.reduceBEq, Int.reduceNeg, Int.reduceAdd, Int.reduceLT, Int.reduceLE, Int.reduceToNat, Int.reduceEq, Int.reduceNe, Int.reduceBEq, Int.reduceBNe, Int.reduceMul, Int.reduceSub, reduceIte, reduceCtorEq]
  refine at_call (slices_Index_int_int_pc l v hl) rfl rfl ?_
  simp -implicitDefEqProofs only [go_sem, Nat.reduceAdd, Nat.reduceSub, Nat.reduceMul, Nat.reduceLT, Nat.reduceLeDiff, Nat.reduceEqDiff, Nat.reduceBEq, Int.reduceNeg, Int.reduceAdd, Int.reduceLT, Int.reduceLE, Int.reduceToNat, Int.reduceEq, Int.reduceNe, Int.reduceBEq, Int.reduceBNe, Int.reduceMul, Int.reduceSub, reduceIte, reduceCtorEq]
  exact h _ ⟨_, _, rfl, rfl, fitB (idxF_any _ _)⟩
theorem any_mem (l : List Int) (v : Int) : (l.any fun x => v == x) = decide (v ∈ l) := by
  rw [Bool.eq_iff_iff]
  simp only [List.any_eq_true, beq_iff_eq, decide_eq_true_eq]
  exact ⟨fun ⟨x, hx, e⟩ => e ▸ hx, fun h => ⟨v, h, rfl⟩⟩
theorem batch_joint_pc (l : List Int) (hl : l.length < 9223372036854775807) : PureC Tryz.prog G n_batch_joint [.seq 1 (l.map iv)] (iv (jnt l)) := by
  have h4 := slices_Contains_int_int_pc (G := G) l 4 hl
  have h3 := slices_Contains_int_int_pc (G := G) l 3 hl
  have h2 := slices_Contains_int_int_pc (G := G) l 2 hl
  rw [any_mem] at h4 h3 h2
  have w0 : IntKind.i64.wrap (0 + 1) = 1 ∧ IntKind.i64.wrap (1 + 1) = 2 ∧ IntKind.i64.wrap (2 + 1) = 3 := ⟨rfl, rfl, rfl⟩
  have ha : aiaddr [(5, ⟨true, t_int, 1, [iv 4, iv 3, iv 2]⟩)] 1 (.arr 5 0 3) (.int .i64 0) = some (.ref 5 0 0) ∧ aiaddr [(5, ⟨true, t_int, 1, [iv 4, iv 3, iv 2]⟩)] 1 (.arr 5 0 3) (.int .i64 1) = some (.ref 5 1 0) ∧ aiaddr [(5, ⟨true, t_int, 1, [iv 4, iv 3, iv 2]⟩)] 1 (.arr 5 0 3) (.int .i64 2) = some (.ref 5 2 0) := ⟨rfl, rfl, rfl⟩
  refine pc_batch_joint (Runs.of fun Φ h => ?_)
  unfold c_batch_joint
  simp -implicitDefEqProofs only [go_sem, Nat.reduceAdd, Nat.reduceSub, Nat.reduceMul, Nat.reduceLT, Nat.reduceLeDiff, Nat.reduceEqDiff, Nat.reduceBEq, Int.reduceNeg, Int.reduceAdd, Int.reduceLT, Int.reduceLE, Int.reduceToNat, Int.reduceEq, Int.reduceNe, Int.reduceBEq, Int.reduceBNe, Int.reduceMul, Int.reduceSub, reduceIte, reduceCtorEq]
  refine at_loop (fun n st => ∃ i : Nat, i + n = 3 ∧ st = ⟨16, [(0, .seq 1 (l.map iv)), (5, .arr 5 0 3), (6, iv 3), (7, iv i)], [(5, ⟨true, t_int, 1, [iv 4, iv 3, iv 2]⟩)]⟩ ∧ (0 < i → (4 : Int) ∉ l) ∧ (1 < i → (3 : Int) ∉ l) ∧ (2 < i → (2 : Int) ∉ l)) 3 ⟨0, by simp, rfl, by simp, by simp, by simp⟩ ?_
  rintro I hI n st ⟨i, hi, rfl, g4, g3, g2⟩
  have hi3 : i = 0 ∨ i = 1 ∨ i = 2 ∨ i = 3 := by omega
  rcases hi3 with rfl | rfl | rfl | rfl
  · rw [show ((0 : Nat) : Int) = 0 from rfl]
    by_cases e : (4 : Int) ∈ l
    · rw [decide_eq_true e] at h4
      (try (simp -implicitDefEqProofs only [go_sem, Nat.reduceAdd, Nat.reduceSub, Nat.reduceMul, Nat.reduceLT, Nat.reduceLeDiff, Nat.reduceEqDiff, Nat.reduceBEq, Int.reduceNeg, Int.reduceAdd, Int.reduceLT, Int.reduceLE, Int.reduceToNat, Int.reduceEq, Int.reduceNe, Int.reduceBEq, Int.reduceBNe, Int.reduceMul, Int.reduceSub, reduceIte, reduceCtorEq, ha, w0])); repeat' ((first | refine at_guard (fun hb => ?_) (fun hb => ?_) | refine ⟨fun hb => ?_, fun hb => ?_⟩ | refine at_call (h4) rfl rfl ?_ | fail) <;> (try (simp -implicitDefEqProofs only [go_sem, Nat.reduceAdd, Nat.reduceSub, Nat.reduceMul, Nat.reduceLT, Nat.reduceLeDiff, Nat.reduceEqDiff, Nat.reduceBEq, Int.reduceNeg, Int.reduceAdd, Int.reduceLT, Int.reduceLE, Int.reduceToNat, Int.reduceEq, Int.reduceNe, Int.reduceBEq, Int.reduceBNe, Int.reduceMul, Int.reduceSub, reduceIte, reduceCtorEq, ha, w0])))
      exact h _ ⟨_, _, rfl, rfl, fitI (by unfold jnt; rw [if_pos e])⟩
    · rw [decide_eq_false e] at h4
      (try (simp -implicitDefEqProofs only [go_sem, Nat.reduceAdd, Nat.reduceSub, Nat.reduceMul, Nat.reduceLT, Nat.reduceLeDiff, Nat.reduceEqDiff, Nat.reduceBEq, Int.reduceNeg, Int.reduceAdd, Int.reduceLT, Int.reduceLE, Int.reduceToNat, Int.reduceEq, Int.reduceNe, Int.reduceBEq, Int.reduceBNe, Int.reduceMul, Int.reduceSub, reduceIte, reduceCtorEq, ha, w0])); repeat' ((first | refine at_guard (fun hb => ?_) (fun hb => ?_) | refine ⟨fun hb => ?_, fun hb => ?_⟩ | refine at_call (h4) rfl rfl ?_ | fail) <;> (try (simp -implicitDefEqProofs only [go_sem, Nat.reduceAdd, Nat.reduceSub, Nat.reduceMul, Nat.reduceLT, Nat.reduceLeDiff, Nat.reduceEqDiff, Nat.reduceBEq, Int.reduceNeg, Int.reduceAdd, Int.reduceLT, Int.reduceLE, Int.reduceToNat, Int.reduceEq, Int.reduceNe, Int.reduceBEq, Int.reduceBNe, Int.reduceMul, Int.reduceSub, reduceIte, reduceCtorEq, ha, w0])))
      exact at_again (n - 1) (by omega) (hI _ _ ⟨1, by omega, rfl, fun _ => e, by simp, by simp⟩)
  · rw [show ((1 : Nat) : Int) = 1 from rfl]
    by_cases e : (3 : Int) ∈ l
    · rw [decide_eq_true e] at h3
      (try (simp -implicitDefEqProofs only [go_sem, Nat.reduceAdd, Nat.reduceSub, Nat.reduceMul, Nat.reduceLT, Nat.reduceLeDiff, Nat.reduceEqDiff, Nat.reduceBEq, Int.reduceNeg, Int.reduceAdd, Int.reduceLT, Int.reduceLE, Int.reduceToNat, Int.reduceEq, Int.reduceNe, Int.reduceBEq, Int.reduceBNe, Int.reduceMul, Int.reduceSub, reduceIte, reduceCtorEq, ha, w0])); repeat' ((first | refine at_guard (fun hb => ?_) (fun hb => ?_) | refine ⟨fun hb => ?_, fun hb => ?_⟩ | refine at_call (h3) rfl rfl ?_ | fail) <;> (try (simp -implicitDefEqProofs only [go_sem, Nat.reduceAdd, Nat.reduceSub, Nat.reduceMul, Nat.reduceLT, Nat.reduceLeDiff, Nat.reduceEqDiff, Nat.reduceBEq, Int.reduceNeg, Int.reduceAdd, Int.reduceLT, Int.reduceLE, Int.reduceToNat, Int.reduceEq, Int.reduceNe, Int.reduceBEq, Int.reduceBNe, Int.reduceMul, Int.reduceSub, reduceIte, reduceCtorEq, ha, w0])))
      exact h _ ⟨_, _, rfl, rfl, fitI (by unfold jnt; rw [if_neg (g4 (by simp)), if_pos e])⟩
    · rw [decide_eq_false e] at h3
      (try (simp -implicitDefEqProofs only [go_sem, Nat.reduceAdd, Nat.reduceSub, Nat.reduceMul, Nat.reduceLT, Nat.reduceLeDiff, Nat.reduceEqDiff, Nat.reduceBEq, Int.reduceNeg, Int.reduceAdd, Int.reduceLT, Int.reduceLE, Int.reduceToNat, Int.reduceEq, Int.reduceNe, Int.reduceBEq, Int.reduceBNe, Int.reduceMul, Int.reduceSub, reduceIte, reduceCtorEq, ha, w0])); repeat' ((first | refine at_guard (fun hb => ?_) (fun hb => ?_) | refine ⟨fun hb => ?_, fun hb => ?_⟩ | refine at_call (h3) rfl rfl ?_ | fail) <;> (try (simp -implicitDefEqProofs only [go_sem, Nat.reduceAdd, Nat.reduceSub, Nat.reduceMul, Nat.reduceLT, Nat.reduceLeDiff, Nat.reduceEqDiff, Nat.reduceBEq, Int.reduceNeg, Int.reduceAdd, Int.reduceLT, Int.reduceLE, Int.reduceToNat, Int.reduceEq, Int.reduceNe, Int.reduceBEq, Int.reduceBNe, Int.reduceMul, Int.reduceSub, reduceIte, reduceCtorEq, ha, w0])))
      exact at_again (n - 1) (by omega) (hI _ _ ⟨2, by omega, rfl, fun _ => g4 (by simp), fun _ => e, by simp⟩)
  · rw [show ((2 : Nat) : Int) = 2 from rfl]
    by_cases e : (2 : Int) ∈ l
    · rw [decide_eq_true e] at h2
      (try (simp -implicitDefEqProofs only [go_sem, Nat.reduceAdd, Nat.reduceSub, Nat.reduceMul, Nat.reduceLT, Nat.reduceLeDiff, Nat.reduceEqDiff, Nat.reduceBEq, Int.reduceNeg, Int.reduceAdd, Int.reduceLT, Int.reduceLE, Int.reduceToNat, Int.reduceEq, Int.reduceNe, Int.reduceBEq, Int.reduceBNe, Int.reduceMul, Int.reduceSub, reduceIte, reduceCtorEq, ha, w0])); repeat' ((first | refine at_guard (fun hb => ?_) (fun hb => ?_) | refine ⟨fun hb => ?_, fun hb => ?_⟩ | refine at_call (h2) rfl rfl ?_ | fail) <;> (try (simp -implicitDefEqProofs only [go_sem, Nat.reduceAdd, Nat.reduceSub, Nat.reduceMul, Nat.reduceLT, Nat.reduceLeDiff, Nat.reduceEqDiff, Nat.reduceBEq, Int.reduceNeg, Int.reduceAdd, Int.reduceLT, Int.reduceLE, Int.reduceToNat, Int.reduceEq, Int.reduceNe, Int.reduceBEq, Int.reduceBNe, Int.reduceMul, Int.reduceSub, reduceIte, reduceCtorEq, ha, w0])))
      exact h _ ⟨_, _, rfl, rfl, fitI (by unfold jnt; rw [if_neg (g4 (by simp)), if_neg (g3 (by simp)), if_pos e])⟩
    · rw [decide_eq_false e] at h2
      (try (simp -implicitDefEqProofs only [go_sem, Nat.reduceAdd, Nat.reduceSub, Nat.reduceMul, Nat.reduceLT, Nat.reduceLeDiff, Nat.reduceEqDiff, Nat.reduceBEq, Int.reduceNeg, Int.reduceAdd, Int.reduceLT, Int.reduceLE, Int.reduceToNat, Int.reduceEq, Int.reduceNe, Int.reduceBEq, Int.reduceBNe, Int.reduceMul, Int.reduceSub, reduceIte, reduceCtorEq, ha, w0])); repeat' ((first | refine at_guard (fun hb => ?_) (fun hb => ?_) | refine ⟨fun hb => ?_, fun hb => ?_⟩ | refine at_call (h2) rfl rfl ?_ | fail) <;> (try (simp -implicitDefEqProofs only [go_sem, Nat.reduceAdd, Nat.reduceSub, Nat.reduceMul, Nat.reduceLT, Nat.reduceLeDiff, Nat.reduceEqDiff, Nat.reduceBEq, Int.reduceNeg, Int.reduceAdd, Int.reduceLT, Int.reduceLE, Int.reduceToNat, Int.reduceEq, Int.reduceNe, Int.reduceBEq, Int.reduceBNe, Int.reduceMul, Int.reduceSub, reduceIte, reduceCtorEq, ha, w0])))
      exact at_again (n - 1) (by omega) (hI _ _ ⟨3, by omega, rfl, fun _ => g4 (by simp), fun _ => g3 (by simp), fun _ => e⟩)
  · rw [show ((3 : Nat) : Int) = 3 from rfl]
    (try (simp -implicitDefEqProofs only [go_sem, Nat.reduceAdd, Nat.reduceSub, Nat.reduceMul, Nat.reduceLT, Nat.reduceLeDiff, Nat.reduceEqDiff, Nat.reduceBEq, Int.reduceNeg, Int.reduceAdd, Int.reduceLT, Int.reduceLE, Int.reduceToNat, Int.reduceEq, Int.reduceNe, Int.reduceBEq, Int.reduceBNe, Int.reduceMul, Int.reduceSub, reduceIte, reduceCtorEq, w0])); repeat' ((first | refine at_guard (fun hb => ?_) (fun hb => ?_) | refine ⟨fun hb => ?_, fun hb => ?_⟩ | fail) <;> (try (simp -implicitDefEqProofs only [go_sem, Nat.reduceAdd, Nat.reduceSub, Nat.reduceMul, Nat.reduceLT, Nat.reduceLeDiff, Nat.reduceEqDiff, Nat.reduceBEq, Int.reduceNeg, Int.reduceAdd, Int.reduceLT, Int.reduceLE, Int.reduceToNat, Int.reduceEq, Int.reduceNe, Int.reduceBEq, Int.reduceBNe, Int.reduceMul, Int.reduceSub, reduceIte, reduceCtorEq, w0])))
    exact h _ ⟨_, _, rfl, rfl, fitI (by unfold jnt; rw [if_neg (g4 (by simp)), if_neg (g3 (by simp)), if_neg (g2 (by simp))])⟩
end
end Go.Proofs.YtgdlgdchdohdoaaGreatDoor.Ab
