/-
  The law EvalTrans. No claim is proved here.
-/
import Derived.Test.YtdfdiglnpekcpabGreatDoorQV12
namespace Go.Proofs.YtdfdiglnpekcpabGreatDoor.Ab
open Go Go.RowKit
set_option linter.unusedSimpArgs false
set_option maxHeartbeats 4000000
set_option maxRecDepth 100000
variable {G : Nat → Option AV}
def shortV (vals : List Val) : Bool := allI (fun _ (v : Val) => decide ((v.str.length : Int) ≤ 1000)) vals
def smallB (q : QeaT) (b : List SlotT) (vals : List Val) : Bool := fewQ q && (decide ((b.length : Int) ≤ 8) && (decide ((vals.length : Int) ≤ 20) && (shortV vals && (rightR q && bindOk b))))
theorem law16_small_pc (q : QeaT) (b : List SlotT) (vals : List Val) : PureC Tryz.prog G n_proctorlaw16_small [qeaV q, slotsV b, valsV vals] (.bool (smallB q b vals)) := by
  have hf := ref13_Few_pc (G := G) q
  simp only [qeaV, declsV, quantsV, freesV, statesV, symsV, nodesV, transsV] at hf
  refine pc_proctorlaw16_small (Runs.of fun Φ h => ?_)
  unfold c_proctorlaw16_small
  have fin : ∀ β heap, smallB q b vals = β → Φ ⟨40, [(6, .bool β)], heap⟩ := fun β heap e => h _ ⟨_, _, rfl, rfl, fitB e.symm⟩
  clear h
  generalize hR : smallB q b vals = w at *
  unfold smallB at hR
  cases hq : fewQ q with
  | false =>
    rw [hq] at hf
    rw [hq, Bool.false_and] at hR
    (try (simp -implicitDefEqProofs only [go_sem, Nat.reduceAdd, Nat.reduceSub, Nat.reduceMul, Nat.reduceLT, Nat.reduceLeDiff, Nat.reduceEqDiff, Nat.reduceBEq, Int.reduceNeg, Int.reduceAdd, Int.reduceLT, Int.reduceLE, Int.reduceToNat, Int.reduceEq, Int.reduceNe, Int.reduceBEq, Int.reduceBNe, Int.reduceMul, Int.reduceSub, reduceIte, reduceCtorEq, qeaV, declsV, quantsV, freesV, statesV, symsV, nodesV, transsV, slotsV, valsV])); repeat' ((first | refine at_guard (fun hb => ?_) (fun hb => ?_) | refine ⟨fun hb => ?_, fun hb => ?_⟩ | refine at_call (hf) rfl rfl ?_ | fail) <;> (try (simp -implicitDefEqProofs only [go_sem, Nat.reduceAdd, Nat.reduceSub, Nat.reduceMul, Nat.reduceLT, Nat.reduceLeDiff, Nat.reduceEqDiff, Nat.reduceBEq, Int.reduceNeg, Int.reduceAdd, Int.reduceLT, Int.reduceLE, Int.reduceToNat, Int.reduceEq, Int.reduceNe, Int.reduceBEq, Int.reduceBNe, Int.reduceMul, Int.reduceSub, reduceIte, reduceCtorEq, qeaV, declsV, quantsV, freesV, statesV, symsV, nodesV, transsV, slotsV, valsV])))
    exact fin _ _ hR.symm
  | true =>
    rw [hq] at hf
    rw [hq, Bool.true_and] at hR
    have hrc := ref13_Right_pc (G := G) q (few_of q hq)
    simp only [qeaV, declsV, quantsV, freesV, statesV, symsV, nodesV, transsV] at hrc
    by_cases h8 : (8 : Int) < b.length
    · have e8 : ((8 : Int) < b.length) = True := by simp; omega
      rw [show decide ((b.length : Int) ≤ 8) = false by simp; omega, Bool.false_and] at hR
      (try (simp -implicitDefEqProofs only [go_sem, Nat.reduceAdd, Nat.reduceSub, Nat.reduceMul, Nat.reduceLT, Nat.reduceLeDiff, Nat.reduceEqDiff, Nat.reduceBEq, Int.reduceNeg, Int.reduceAdd, Int.reduceLT, Int.reduceLE, Int.reduceToNat, Int.reduceEq, Int.reduceNe, Int.reduceBEq, Int.reduceBNe, Int.reduceMul, Int.reduceSub, reduceIte, reduceCtorEq, qeaV, declsV, quantsV, freesV, statesV, symsV, nodesV, transsV, slotsV, valsV, List.length_map, e8, decide_true])); repeat' ((first | refine at_guard (fun hb => ?_) (fun hb => ?_) | refine ⟨fun hb => ?_, fun hb => ?_⟩ | refine at_call (hf) rfl rfl ?_ | fail) <;> (try (simp -implicitDefEqProofs only [go_sem, Nat.reduceAdd, Nat.reduceSub, Nat.reduceMul, Nat.reduceLT, Nat.reduceLeDiff, Nat.reduceEqDiff, Nat.reduceBEq, Int.reduceNeg, Int.reduceAdd, Int.reduceLT, Int.reduceLE, Int.reduceToNat, Int.reduceEq, Int.reduceNe, Int.reduceBEq, Int.reduceBNe, Int.reduceMul, Int.reduceSub, reduceIte, reduceCtorEq, qeaV, declsV, quantsV, freesV, statesV, symsV, nodesV, transsV, slotsV, valsV, List.length_map, e8, decide_true])))
      exact fin _ _ hR.symm
    have e8 : ((8 : Int) < b.length) = False := by simp; omega
    rw [show decide ((b.length : Int) ≤ 8) = true by simp; omega, Bool.true_and] at hR
    by_cases h20 : (20 : Int) < vals.length
    · have e20 : ((20 : Int) < vals.length) = True := by simp; omega
      rw [show decide ((vals.length : Int) ≤ 20) = false by simp; omega, Bool.false_and] at hR
      (try (simp -implicitDefEqProofs only [go_sem, Nat.reduceAdd, Nat.reduceSub, Nat.reduceMul, Nat.reduceLT, Nat.reduceLeDiff, Nat.reduceEqDiff, Nat.reduceBEq, Int.reduceNeg, Int.reduceAdd, Int.reduceLT, Int.reduceLE, Int.reduceToNat, Int.reduceEq, Int.reduceNe, Int.reduceBEq, Int.reduceBNe, Int.reduceMul, Int.reduceSub, reduceIte, reduceCtorEq, qeaV, declsV, quantsV, freesV, statesV, symsV, nodesV, transsV, slotsV, valsV, List.length_map, e8, e20, decide_true, decide_false])); repeat' ((first | refine at_guard (fun hb => ?_) (fun hb => ?_) | refine ⟨fun hb => ?_, fun hb => ?_⟩ | refine at_call (hf) rfl rfl ?_ | fail) <;> (try (simp -implicitDefEqProofs only [go_sem, Nat.reduceAdd, Nat.reduceSub, Nat.reduceMul, Nat.reduceLT, Nat.reduceLeDiff, Nat.reduceEqDiff, Nat.reduceBEq, Int.reduceNeg, Int.reduceAdd, Int.reduceLT, Int.reduceLE, Int.reduceToNat, Int.reduceEq, Int.reduceNe, Int.reduceBEq, Int.reduceBNe, Int.reduceMul, Int.reduceSub, reduceIte, reduceCtorEq, qeaV, declsV, quantsV, freesV, statesV, symsV, nodesV, transsV, slotsV, valsV, List.length_map, e8, e20, decide_true, decide_false])))
      exact fin _ _ hR.symm
    have e20 : ((20 : Int) < vals.length) = False := by simp; omega
    rw [show decide ((vals.length : Int) ≤ 20) = true by simp; omega, Bool.true_and] at hR
    have hbc := ref05_Right_pc (G := G) b (by omega)
    simp only [slotsV] at hbc
    (try (simp -implicitDefEqProofs only [go_sem, Nat.reduceAdd, Nat.reduceSub, Nat.reduceMul, Nat.reduceLT, Nat.reduceLeDiff, Nat.reduceEqDiff, Nat.reduceBEq, Int.reduceNeg, Int.reduceAdd, Int.reduceLT, Int.reduceLE, Int.reduceToNat, Int.reduceEq, Int.reduceNe, Int.reduceBEq, Int.reduceBNe, Int.reduceMul, Int.reduceSub, reduceIte, reduceCtorEq, qeaV, declsV, quantsV, freesV, statesV, symsV, nodesV, transsV, slotsV, valsV, List.length_map, e8, e20, decide_false])); repeat' ((first | refine at_guard (fun hb => ?_) (fun hb => ?_) | refine ⟨fun hb => ?_, fun hb => ?_⟩ | refine at_call (hf) rfl rfl ?_ | fail) <;> (try (simp -implicitDefEqProofs only [go_sem, Nat.reduceAdd, Nat.reduceSub, Nat.reduceMul, Nat.reduceLT, Nat.reduceLeDiff, Nat.reduceEqDiff, Nat.reduceBEq, Int.reduceNeg, Int.reduceAdd, Int.reduceLT, Int.reduceLE, Int.reduceToNat, Int.reduceEq, Int.reduceNe, Int.reduceBEq, Int.reduceBNe, Int.reduceMul, Int.reduceSub, reduceIte, reduceCtorEq, qeaV, declsV, quantsV, freesV, statesV, symsV, nodesV, transsV, slotsV, valsV, List.length_map, e8, e20, decide_false])))
    refine at_loop (fun n st => ∃ i : Nat, i + n = vals.length ∧ st = ⟨40, [(1, .seq 5 (b.map slotV)), (2, .seq 4 (vals.map valV)), (3, .ref 3 0 0), (7, iv i)], [(3, ⟨false, t_api_Qea, 9, [qeaV q]⟩)]⟩ ∧ ∀ j v, j < i → vals[j]? = some v → decide ((v.str.length : Int) ≤ 1000) = true) vals.length ⟨0, by simp, rfl, fun j v hj => by omega⟩ ?_
    rintro I hI n st ⟨i, hi, rfl, hno⟩
    simp -implicitDefEqProofs only [go_sem, Nat.reduceAdd, Nat.reduceSub, Nat.reduceMul, Nat.reduceLT, Nat.reduceLeDiff, Nat.reduceEqDiff, Nat.reduceBEq, Int.reduceNeg, Int.reduceAdd, Int.reduceLT, Int.reduceLE, Int.reduceToNat, Int.reduceEq, Int.reduceNe, Int.reduceBEq, Int.reduceBNe, Int.reduceMul, Int.reduceSub, reduceIte, reduceCtorEq, List.length_map]
    refine ⟨fun hlt => ?_, fun hge => ?_⟩
    · have hlt' : i < vals.length := by omega
      obtain ⟨v, hv, _⟩ := at_some hlt'
      have hw := wrap_succ hlt' (by omega)
      have hnext : decide ((v.str.length : Int) ≤ 1000) = true → again I n ⟨40, [(1, .seq 5 (b.map slotV)), (2, .seq 4 (vals.map valV)), (3, .ref 3 0 0), (7, iv (i + 1 : Nat))], [(3, ⟨false, t_api_Qea, 9, [qeaV q]⟩)]⟩ := fun hv' => at_again (n - 1) (by omega) (hI _ _ ⟨i + 1, by omega, rfl, allI_step (p := fun _ (v : Val) => decide ((v.str.length : Int) ≤ 1000)) hv hv' hno⟩)
      have hbad : decide ((v.str.length : Int) ≤ 1000) = false → w = false := fun hv' => by rw [← hR, shortV, allI_false (p := fun _ (v : Val) => decide ((v.str.length : Int) ≤ 1000)) hv hv', Bool.false_and]
      clear hno
      by_cases hl : (1000 : Int) < v.str.length
      · have el : ((1000 : Int) < v.str.length) = True := by simp; omega
        have := fin false [] 
        (try (simp -implicitDefEqProofs only [go_sem, Nat.reduceAdd, Nat.reduceSub, Nat.reduceMul, Nat.reduceLT, Nat.reduceLeDiff, Nat.reduceEqDiff, Nat.reduceBEq, Int.reduceNeg, Int.reduceAdd, Int.reduceLT, Int.reduceLE, Int.reduceToNat, Int.reduceEq, Int.reduceNe, Int.reduceBEq, Int.reduceBNe, Int.reduceMul, Int.reduceSub, reduceIte, reduceCtorEq, aiaddr_map hv, valV, el, decide_true])); repeat' ((first | refine at_guard (fun hb => ?_) (fun hb => ?_) | refine ⟨fun hb => ?_, fun hb => ?_⟩ | fail) <;> (try (simp -implicitDefEqProofs only [go_sem, Nat.reduceAdd, Nat.reduceSub, Nat.reduceMul, Nat.reduceLT, Nat.reduceLeDiff, Nat.reduceEqDiff, Nat.reduceBEq, Int.reduceNeg, Int.reduceAdd, Int.reduceLT, Int.reduceLE, Int.reduceToNat, Int.reduceEq, Int.reduceNe, Int.reduceBEq, Int.reduceBNe, Int.reduceMul, Int.reduceSub, reduceIte, reduceCtorEq, aiaddr_map hv, valV, el, decide_true])))
        exact fin _ _ (hbad (by simp; omega))
      · have el : ((1000 : Int) < v.str.length) = False := by simp; omega
        (try (simp -implicitDefEqProofs only [go_sem, Nat.reduceAdd, Nat.reduceSub, Nat.reduceMul, Nat.reduceLT, Nat.reduceLeDiff, Nat.reduceEqDiff, Nat.reduceBEq, Int.reduceNeg, Int.reduceAdd, Int.reduceLT, Int.reduceLE, Int.reduceToNat, Int.reduceEq, Int.reduceNe, Int.reduceBEq, Int.reduceBNe, Int.reduceMul, Int.reduceSub, reduceIte, reduceCtorEq, aiaddr_map hv, valV, el, decide_false, hw])); repeat' ((first | refine at_guard (fun hb => ?_) (fun hb => ?_) | refine ⟨fun hb => ?_, fun hb => ?_⟩ | fail) <;> (try (simp -implicitDefEqProofs only [go_sem, Nat.reduceAdd, Nat.reduceSub, Nat.reduceMul, Nat.reduceLT, Nat.reduceLeDiff, Nat.reduceEqDiff, Nat.reduceBEq, Int.reduceNeg, Int.reduceAdd, Int.reduceLT, Int.reduceLE, Int.reduceToNat, Int.reduceEq, Int.reduceNe, Int.reduceBEq, Int.reduceBNe, Int.reduceMul, Int.reduceSub, reduceIte, reduceCtorEq, aiaddr_map hv, valV, el, decide_false, hw])))
        exact hnext (by simp; omega)
    · rw [show shortV vals = true from allI_all (p := fun _ (v : Val) => decide ((v.str.length : Int) ≤ 1000)) (by omega) hno, Bool.true_and] at hR
      clear hI hno
      generalize rightR q = b1 at *
      generalize bindOk b = b2 at *
      cases b1
      · (try (simp -implicitDefEqProofs only [go_sem, Nat.reduceAdd, Nat.reduceSub, Nat.reduceMul, Nat.reduceLT, Nat.reduceLeDiff, Nat.reduceEqDiff, Nat.reduceBEq, Int.reduceNeg, Int.reduceAdd, Int.reduceLT, Int.reduceLE, Int.reduceToNat, Int.reduceEq, Int.reduceNe, Int.reduceBEq, Int.reduceBNe, Int.reduceMul, Int.reduceSub, reduceIte, reduceCtorEq, qeaV, declsV, quantsV, freesV, statesV, symsV, nodesV, transsV])); repeat' ((first | refine at_guard (fun hb => ?_) (fun hb => ?_) | refine ⟨fun hb => ?_, fun hb => ?_⟩ | refine at_call (hrc) rfl rfl ?_ | fail) <;> (try (simp -implicitDefEqProofs only [go_sem, Nat.reduceAdd, Nat.reduceSub, Nat.reduceMul, Nat.reduceLT, Nat.reduceLeDiff, Nat.reduceEqDiff, Nat.reduceBEq, Int.reduceNeg, Int.reduceAdd, Int.reduceLT, Int.reduceLE, Int.reduceToNat, Int.reduceEq, Int.reduceNe, Int.reduceBEq, Int.reduceBNe, Int.reduceMul, Int.reduceSub, reduceIte, reduceCtorEq, qeaV, declsV, quantsV, freesV, statesV, symsV, nodesV, transsV])))
        exact fin _ _ (by rw [← hR]; rfl)
      · (try (simp -implicitDefEqProofs only [go_sem, Nat.reduceAdd, Nat.reduceSub, Nat.reduceMul, Nat.reduceLT, Nat.reduceLeDiff, Nat.reduceEqDiff, Nat.reduceBEq, Int.reduceNeg, Int.reduceAdd, Int.reduceLT, Int.reduceLE, Int.reduceToNat, Int.reduceEq, Int.reduceNe, Int.reduceBEq, Int.reduceBNe, Int.reduceMul, Int.reduceSub, reduceIte, reduceCtorEq, qeaV, declsV, quantsV, freesV, statesV, symsV, nodesV, transsV])); repeat' ((first | refine at_guard (fun hb => ?_) (fun hb => ?_) | refine ⟨fun hb => ?_, fun hb => ?_⟩ | refine at_call (hrc) rfl rfl ?_ | refine at_call (hbc) rfl rfl ?_ | fail) <;> (try (simp -implicitDefEqProofs only [go_sem, Nat.reduceAdd, Nat.reduceSub, Nat.reduceMul, Nat.reduceLT, Nat.reduceLeDiff, Nat.reduceEqDiff, Nat.reduceBEq, Int.reduceNeg, Int.reduceAdd, Int.reduceLT, Int.reduceLE, Int.reduceToNat, Int.reduceEq, Int.reduceNe, Int.reduceBEq, Int.reduceBNe, Int.reduceMul, Int.reduceSub, reduceIte, reduceCtorEq, qeaV, declsV, quantsV, freesV, statesV, symsV, nodesV, transsV])))
        exact fin _ _ (by rw [← hR]; rfl)
structure Q64 (q : QeaT) : Prop where
  nodes : ∀ x ∈ q.nodes, i64 x.value.int
theorem setsR_len {q : QeaT} {b : List SlotT} {vals : List Val} : ∀ (l : List SetT) (out : List Val), (setsR q b vals l out).1.length ≤ out.length
  | [], out => by rw [setsR]; exact Nat.le_refl _
  | s :: r, out => by
    rw [setsR]
    split
    · simp
    · have := setsR_len (q := q) (b := b) (vals := vals) r (out.set s.free.toNat (ev q b vals s.expr.toNat).1)
      simpa using this
theorem law16_EvalTrans_pc (hG : errG G) (q : QeaT) (h64 : Q64 q) (n : Int) (b : List SlotT) (b64 : ∀ s ∈ b, i64 s.value.int) (vals : List Val) (v64 : ∀ v ∈ vals, i64 v.int) : PureC Tryz.prog G n_proctorlaw16_EvalTrans [qeaV q, iv n, slotsV b, valsV vals] (.bool true) := by
  have ha := law16_awake_pc hG
  have hsm := law16_small_pc (G := G) q b vals
  refine pc_proctorlaw16_EvalTrans (Runs.of fun Φ h => ?_)
  unfold c_proctorlaw16_EvalTrans
  cases hs : smallB q b vals with
  | false =>
    rw [hs] at hsm
    simp only [qeaV, declsV, quantsV, freesV, statesV, symsV, nodesV, transsV, slotsV, valsV] at hsm
    (try (simp -implicitDefEqProofs only [go_sem, Nat.reduceAdd, Nat.reduceSub, Nat.reduceMul, Nat.reduceLT, Nat.reduceLeDiff, Nat.reduceEqDiff, Nat.reduceBEq, Int.reduceNeg, Int.reduceAdd, Int.reduceLT, Int.reduceLE, Int.reduceToNat, Int.reduceEq, Int.reduceNe, Int.reduceBEq, Int.reduceBNe, Int.reduceMul, Int.reduceSub, reduceIte, reduceCtorEq, qeaV, declsV, quantsV, freesV, statesV, symsV, nodesV, transsV, slotsV, valsV])); repeat' ((first | refine at_guard (fun hb => ?_) (fun hb => ?_) | refine ⟨fun hb => ?_, fun hb => ?_⟩ | refine at_call (hsm) rfl rfl ?_ | refine at_call (ha) rfl rfl ?_ | fail) <;> (try (simp -implicitDefEqProofs only [go_sem, Nat.reduceAdd, Nat.reduceSub, Nat.reduceMul, Nat.reduceLT, Nat.reduceLeDiff, Nat.reduceEqDiff, Nat.reduceBEq, Int.reduceNeg, Int.reduceAdd, Int.reduceLT, Int.reduceLE, Int.reduceToNat, Int.reduceEq, Int.reduceNe, Int.reduceBEq, Int.reduceBNe, Int.reduceMul, Int.reduceSub, reduceIte, reduceCtorEq, qeaV, declsV, quantsV, freesV, statesV, symsV, nodesV, transsV, slotsV, valsV])))
    exact h _ ⟨_, _, rfl, rfl, .refl _⟩
  | true =>
    rw [hs] at hsm
    unfold smallB at hs
    simp only [Bool.and_eq_true, decide_eq_true_eq] at hs
    obtain ⟨hq, hb8, hv20, _, hright, hbind⟩ := hs
    have hfew := few_of q hq
    have hfl : q.frees.length < 9223372036854775807 := by have := hfew.frees; omega
    have hvl : vals.length < 9223372036854775807 := by omega
    have hfc := ref16_Fits_pc (G := G) q vals hvl hfl
    by_cases hbad : at? q.trans n = none ∨ fitsR vals q.frees = false
    · have c0 : ((0 : Nat) : Int) = 0 := rfl
      have h1 := eval_Guard_bad (G := G) q b vals hvl hfl n hbad
      have h2 := eval_Sets_bad (G := G) q b vals hvl hfl n hbad
      cases hat : at? q.trans n with
      | none =>
        simp only [qeaV, declsV, quantsV, freesV, statesV, symsV, nodesV, transsV, slotsV, valsV] at hsm hfc h1 h2
        rcases at?_none hat with h3 | h3
        · have e1 : (n < 0) = True := by simp; exact h3
          (try (simp -implicitDefEqProofs only [go_sem, Nat.reduceAdd, Nat.reduceSub, Nat.reduceMul, Nat.reduceLT, Nat.reduceLeDiff, Nat.reduceEqDiff, Nat.reduceBEq, Int.reduceNeg, Int.reduceAdd, Int.reduceLT, Int.reduceLE, Int.reduceToNat, Int.reduceEq, Int.reduceNe, Int.reduceBEq, Int.reduceBNe, Int.reduceMul, Int.reduceSub, reduceIte, reduceCtorEq, qeaV, declsV, quantsV, freesV, statesV, symsV, nodesV, transsV, slotsV, valsV, e1, c0, decide_true])); repeat' ((first | refine at_guard (fun hb => ?_) (fun hb => ?_) | refine ⟨fun hb => ?_, fun hb => ?_⟩ | refine at_call (hsm) rfl rfl ?_ | refine at_call (h1) rfl rfl ?_ | refine at_call (h2) rfl rfl ?_ | refine at_call (ha) rfl rfl ?_ | fail) <;> (try (simp -implicitDefEqProofs only [go_sem, Nat.reduceAdd, Nat.reduceSub, Nat.reduceMul, Nat.reduceLT, Nat.reduceLeDiff, Nat.reduceEqDiff, Nat.reduceBEq, Int.reduceNeg, Int.reduceAdd, Int.reduceLT, Int.reduceLE, Int.reduceToNat, Int.reduceEq, Int.reduceNe, Int.reduceBEq, Int.reduceBNe, Int.reduceMul, Int.reduceSub, reduceIte, reduceCtorEq, qeaV, declsV, quantsV, freesV, statesV, symsV, nodesV, transsV, slotsV, valsV, e1, c0, decide_true])))
          exact h _ ⟨_, _, rfl, rfl, .refl _⟩
        · have e1 : (n < 0) = False := by simp; omega
          have e2 : ((q.trans.length : Int) ≤ n) = True := by simp; exact h3
          (try (simp -implicitDefEqProofs only [go_sem, Nat.reduceAdd, Nat.reduceSub, Nat.reduceMul, Nat.reduceLT, Nat.reduceLeDiff, Nat.reduceEqDiff, Nat.reduceBEq, Int.reduceNeg, Int.reduceAdd, Int.reduceLT, Int.reduceLE, Int.reduceToNat, Int.reduceEq, Int.reduceNe, Int.reduceBEq, Int.reduceBNe, Int.reduceMul, Int.reduceSub, reduceIte, reduceCtorEq, qeaV, declsV, quantsV, freesV, statesV, symsV, nodesV, transsV, slotsV, valsV, List.length_map, e1, e2, c0, decide_true, decide_false])); repeat' ((first | refine at_guard (fun hb => ?_) (fun hb => ?_) | refine ⟨fun hb => ?_, fun hb => ?_⟩ | refine at_call (hsm) rfl rfl ?_ | refine at_call (h1) rfl rfl ?_ | refine at_call (h2) rfl rfl ?_ | refine at_call (ha) rfl rfl ?_ | fail) <;> (try (simp -implicitDefEqProofs only [go_sem, Nat.reduceAdd, Nat.reduceSub, Nat.reduceMul, Nat.reduceLT, Nat.reduceLeDiff, Nat.reduceEqDiff, Nat.reduceBEq, Int.reduceNeg, Int.reduceAdd, Int.reduceLT, Int.reduceLE, Int.reduceToNat, Int.reduceEq, Int.reduceNe, Int.reduceBEq, Int.reduceBNe, Int.reduceMul, Int.reduceSub, reduceIte, reduceCtorEq, qeaV, declsV, quantsV, freesV, statesV, symsV, nodesV, transsV, slotsV, valsV, List.length_map, e1, e2, c0, decide_true, decide_false])))
          exact h _ ⟨_, _, rfl, rfl, .refl _⟩
      | some t =>
        have hff : fitsR vals q.frees = false := by
          rcases hbad with h | h
          · rw [hat] at h; cases h
          · exact h
        rw [hff] at hfc
        obtain ⟨i, rfl, hi⟩ := at?_some hat
        have hlt := (List.getElem?_eq_some_iff.1 hi).1
        have e1 : ((i : Int) < 0) = False := by simp
        have e2 : ((q.trans.length : Int) ≤ i) = False := by simp; omega
        simp only [qeaV, declsV, quantsV, freesV, statesV, symsV, nodesV, transsV, slotsV, valsV] at hsm hfc h1 h2
        (try (simp -implicitDefEqProofs only [go_sem, Nat.reduceAdd, Nat.reduceSub, Nat.reduceMul, Nat.reduceLT, Nat.reduceLeDiff, Nat.reduceEqDiff, Nat.reduceBEq, Int.reduceNeg, Int.reduceAdd, Int.reduceLT, Int.reduceLE, Int.reduceToNat, Int.reduceEq, Int.reduceNe, Int.reduceBEq, Int.reduceBNe, Int.reduceMul, Int.reduceSub, reduceIte, reduceCtorEq, qeaV, declsV, quantsV, freesV, statesV, symsV, nodesV, transsV, slotsV, valsV, List.length_map, e1, e2, c0, decide_false])); repeat' ((first | refine at_guard (fun hb => ?_) (fun hb => ?_) | refine ⟨fun hb => ?_, fun hb => ?_⟩ | refine at_call (hsm) rfl rfl ?_ | refine at_call (h1) rfl rfl ?_ | refine at_call (h2) rfl rfl ?_ | refine at_call (hfc) rfl rfl ?_ | refine at_call (ha) rfl rfl ?_ | fail) <;> (try (simp -implicitDefEqProofs only [go_sem, Nat.reduceAdd, Nat.reduceSub, Nat.reduceMul, Nat.reduceLT, Nat.reduceLeDiff, Nat.reduceEqDiff, Nat.reduceBEq, Int.reduceNeg, Int.reduceAdd, Int.reduceLT, Int.reduceLE, Int.reduceToNat, Int.reduceEq, Int.reduceNe, Int.reduceBEq, Int.reduceBNe, Int.reduceMul, Int.reduceSub, reduceIte, reduceCtorEq, qeaV, declsV, quantsV, freesV, statesV, symsV, nodesV, transsV, slotsV, valsV, List.length_map, e1, e2, c0, decide_false])))
        exact h _ ⟨_, _, rfl, rfl, .refl _⟩
    · have hff : fitsR vals q.frees = true := by
        cases e : fitsR vals q.frees with
        | true => rfl
        | false => exact absurd (.inr e) hbad
      cases hat : at? q.trans n with
      | none => exact absurd (.inl hat) hbad
      | some t =>
        obtain ⟨i, rfl, hi⟩ := at?_some hat
        have hlt := (List.getElem?_eq_some_iff.1 hi).1
        have htm := List.mem_of_getElem? hi
        have hS := safe_of q h64.nodes
        have hE := env_of (b := b) (vals := vals) hbind (by omega) (by omega) hff b64 v64
        obtain ⟨ok1, ok2⟩ := trans_ok hright htm
        rw [← hE.fit] at ok2
        have hsl : t.sets.length ≤ 1000000 := hfew.sets t htm
        have h1 := eval_Guard_pc hG hS hE hff hfl i t hi ok1
        have h2 := eval_Sets_pc hG hS hE hff hfl i t hi ok2 hsl
        have h3 := ref16_Guard_pc (G := G) hS hE i t hi ok1
        have h4 := ref16_Sets_pc (G := G) hS hE i t hi ok2 hsl
        have hlen := setsR_len (q := q) (b := b) (vals := vals) t.sets vals
        have h5 := law16_same_pc (G := G) (setsR q b vals t.sets vals).1 (setsR q b vals t.sets vals).1 (by omega) (by omega)
        rw [decide_eq_true rfl] at h5
        rw [hff] at hfc
        generalize setsR q b vals t.sets vals = m at *
        generalize guardR q b vals t = g at *
        obtain ⟨m1, m2⟩ := m
        obtain ⟨g1, g2⟩ := g
        have e1 : ((i : Int) < 0) = False := by simp
        have e2 : ((q.trans.length : Int) ≤ i) = False := by simp; omega
        simp only [qeaV, declsV, quantsV, freesV, statesV, symsV, nodesV, transsV, slotsV, valsV] at hsm hfc h1 h2 h3 h4 h5
        (try (simp -implicitDefEqProofs only [go_sem, Nat.reduceAdd, Nat.reduceSub, Nat.reduceMul, Nat.reduceLT, Nat.reduceLeDiff, Nat.reduceEqDiff, Nat.reduceBEq, Int.reduceNeg, Int.reduceAdd, Int.reduceLT, Int.reduceLE, Int.reduceToNat, Int.reduceEq, Int.reduceNe, Int.reduceBEq, Int.reduceBNe, Int.reduceMul, Int.reduceSub, reduceIte, reduceCtorEq, qeaV, declsV, quantsV, freesV, statesV, symsV, nodesV, transsV, slotsV, valsV, List.length_map, e1, e2, decide_false])); repeat' ((first | refine at_guard (fun hb => ?_) (fun hb => ?_) | refine ⟨fun hb => ?_, fun hb => ?_⟩ | refine at_call (hsm) rfl rfl ?_ | refine at_call (h1) rfl rfl ?_ | refine at_call (h2) rfl rfl ?_ | refine at_call (hfc) rfl rfl ?_ | refine at_call (h3) rfl rfl ?_ | refine at_call (h4) rfl rfl ?_ | refine at_call (h5) rfl rfl ?_ | refine at_call (ha) rfl rfl ?_ | fail) <;> (try (simp -implicitDefEqProofs only [go_sem, Nat.reduceAdd, Nat.reduceSub, Nat.reduceMul, Nat.reduceLT, Nat.reduceLeDiff, Nat.reduceEqDiff, Nat.reduceBEq, Int.reduceNeg, Int.reduceAdd, Int.reduceLT, Int.reduceLE, Int.reduceToNat, Int.reduceEq, Int.reduceNe, Int.reduceBEq, Int.reduceBNe, Int.reduceMul, Int.reduceSub, reduceIte, reduceCtorEq, qeaV, declsV, quantsV, freesV, statesV, symsV, nodesV, transsV, slotsV, valsV, List.length_map, e1, e2, decide_false])))
        exact h _ ⟨_, _, rfl, rfl, .refl _⟩
end Go.Proofs.YtdfdiglnpekcpabGreatDoor.Ab
