/-
  The law EvalValues. No claim is proved here.
-/
import Derived.Test.YtdfdiglnpekcpabDoorQV13
import Derived.Test.YtdfdiglnpekcpabDoorQV15
namespace Go.Proofs.YtdfdiglnpekcpabDoor.Ab
open Go Go.RowKit
set_option linter.unusedSimpArgs false
set_option maxHeartbeats 4000000
set_option maxRecDepth 100000
variable {G : Nat → Option AV}
theorem eval_Value_bad (q : QeaT) (b : List SlotT) (vals : List Val) (hql : q.nodes.length ≤ 1000000) (hk : vals.length < 9223372036854775807) (hl : q.frees.length < 9223372036854775807) (n : Int) (h : kindS q n = 0 ∨ fitsR vals q.frees = false) :
    PureC Tryd.prog G n_eval_Value [qeaV q, iv n, slotsV b, valsV vals] (.tup [valV v0, iv 1]) := by
  have hfc := eval_Fits_pc (G := G) q vals hk hl
  have hkc := core_Kind_pc (G := G) q hql n
  simp only [qeaV, declsV, quantsV, freesV, statesV, symsV, nodesV, transsV, valsV] at hfc hkc
  refine pc_eval_Value (Runs.of fun Φ hh => ?_)
  unfold c_eval_Value
  cases hff : fitsR vals q.frees with
  | false =>
    rw [hff] at hfc
    (try (simp -implicitDefEqProofs only [go_sem, Nat.reduceAdd, Nat.reduceSub, Nat.reduceMul, Nat.reduceLT, Nat.reduceLeDiff, Nat.reduceEqDiff, Nat.reduceBEq, Int.reduceNeg, Int.reduceAdd, Int.reduceLT, Int.reduceLE, Int.reduceToNat, Int.reduceEq, Int.reduceNe, Int.reduceBEq, Int.reduceBNe, Int.reduceMul, Int.reduceSub, reduceIte, reduceCtorEq, qeaV, declsV, quantsV, freesV, statesV, symsV, nodesV, transsV, valsV, slotsV])); repeat' ((first | refine at_guard (fun hb => ?_) (fun hb => ?_) | refine ⟨fun hb => ?_, fun hb => ?_⟩ | refine at_call (hfc) rfl rfl ?_ | fail) <;> (try (simp -implicitDefEqProofs only [go_sem, Nat.reduceAdd, Nat.reduceSub, Nat.reduceMul, Nat.reduceLT, Nat.reduceLeDiff, Nat.reduceEqDiff, Nat.reduceBEq, Int.reduceNeg, Int.reduceAdd, Int.reduceLT, Int.reduceLE, Int.reduceToNat, Int.reduceEq, Int.reduceNe, Int.reduceBEq, Int.reduceBNe, Int.reduceMul, Int.reduceSub, reduceIte, reduceCtorEq, qeaV, declsV, quantsV, freesV, statesV, symsV, nodesV, transsV, valsV, slotsV])))
    exact hh _ ⟨_, _, rfl, rfl, .refl _⟩
  | true =>
    have hk0 : kindS q n = 0 := by
      rcases h with h | h
      · exact h
      · rw [hff] at h; cases h
    rw [hff] at hfc
    rw [hk0] at hkc
    (try (simp -implicitDefEqProofs only [go_sem, Nat.reduceAdd, Nat.reduceSub, Nat.reduceMul, Nat.reduceLT, Nat.reduceLeDiff, Nat.reduceEqDiff, Nat.reduceBEq, Int.reduceNeg, Int.reduceAdd, Int.reduceLT, Int.reduceLE, Int.reduceToNat, Int.reduceEq, Int.reduceNe, Int.reduceBEq, Int.reduceBNe, Int.reduceMul, Int.reduceSub, reduceIte, reduceCtorEq, qeaV, declsV, quantsV, freesV, statesV, symsV, nodesV, transsV, valsV, slotsV])); repeat' ((first | refine at_guard (fun hb => ?_) (fun hb => ?_) | refine ⟨fun hb => ?_, fun hb => ?_⟩ | refine at_call (hfc) rfl rfl ?_ | refine at_call (hkc) rfl rfl ?_ | fail) <;> (try (simp -implicitDefEqProofs only [go_sem, Nat.reduceAdd, Nat.reduceSub, Nat.reduceMul, Nat.reduceLT, Nat.reduceLeDiff, Nat.reduceEqDiff, Nat.reduceBEq, Int.reduceNeg, Int.reduceAdd, Int.reduceLT, Int.reduceLE, Int.reduceToNat, Int.reduceEq, Int.reduceNe, Int.reduceBEq, Int.reduceBNe, Int.reduceMul, Int.reduceSub, reduceIte, reduceCtorEq, qeaV, declsV, quantsV, freesV, statesV, symsV, nodesV, transsV, valsV, slotsV])))
    exact hh _ ⟨_, _, rfl, rfl, .refl _⟩
theorem law16_EvalValues_pc (hG : errG G) (q : QeaT) (h64 : Q64 q) (n : Int) (b : List SlotT) (b64 : ∀ s ∈ b, i64 s.value.int) (vals : List Val) (v64 : ∀ v ∈ vals, i64 v.int) : PureC Tryd.prog G n_proctorlaw16_EvalValues [qeaV q, iv n, slotsV b, valsV vals] (.bool true) := by
  have ha := law16_awake_pc hG
  have hsm := law16_small_pc (G := G) q b vals
  refine pc_proctorlaw16_EvalValues (Runs.of fun Φ h => ?_)
  unfold c_proctorlaw16_EvalValues
  cases hs : smallB q b vals with
  | false =>
    rw [hs] at hsm
    simp only [qeaV, declsV, quantsV, freesV, statesV, symsV, nodesV, transsV, slotsV, valsV] at hsm
    (try (simp -implicitDefEqProofs only [go_sem, Nat.reduceAdd, Nat.reduceSub, Nat.reduceMul, Nat.reduceLT, Nat.reduceLeDiff, Nat.reduceEqDiff, Nat.reduceBEq, Int.reduceNeg, Int.reduceAdd, Int.reduceLT, Int.reduceLE, Int.reduceToNat, Int.reduceEq, Int.reduceNe, Int.reduceBEq, Int.reduceBNe, Int.reduceMul, Int.reduceSub, reduceIte, reduceCtorEq, qeaV, declsV, quantsV, freesV, statesV, symsV, nodesV, transsV, slotsV, valsV])); repeat' ((first | refine at_guard (fun hb => ?_) (fun hb => ?_) | refine ⟨fun hb => ?_, fun hb => ?_⟩ | refine at_call (hsm) rfl rfl ?_ | refine at_call (ha) rfl rfl ?_ | fail) <;> (try (simp -implicitDefEqProofs only [go_sem, Nat.reduceAdd, Nat.reduceSub, Nat.reduceMul, Nat.reduceLT, Nat.reduceLeDiff, Nat.reduceEqDiff, Nat.reduceBEq, Int.reduceNeg, Int.reduceAdd, Int.reduceLT, Int.reduceLE, Int.reduceToNat, Int.reduceEq, Int.reduceNe, Int.reduceBEq, Int.reduceBNe, Int.reduceMul, Int.reduceSub, reduceIte, reduceCtorEq, qeaV, declsV, quantsV, freesV, statesV, symsV, nodesV, transsV, slotsV, valsV])))
    exact h _ ⟨_, _, rfl, rfl, .refl _⟩
  | true =>
    rw [hs] at hsm
    unfold smallB at hs
    simp only [Bool.and_eq_true, decide_eq_true_eq] at hs
    obtain ⟨hq, hb8, hv20, _, hright, hbind⟩ := hs
    have hfew := few_of q hq
    have hfl : q.frees.length < 9223372036854775807 := by have := hfew.frees; omega
    have hvl : vals.length < 9223372036854775807 := by omega
    have hql : q.nodes.length ≤ 1000000 := by have := hfew.nodes; omega
    have hfc := ref16_Fits_pc (G := G) q vals hvl hfl
    have hfe := eval_Fits_pc (G := G) q vals hvl hfl
    cases hff : fitsR vals q.frees with
    | false =>
      rw [hff] at hfc hfe
      have h1 := eval_Value_bad (G := G) q b vals hql hvl hfl n (.inr hff)
      simp only [qeaV, declsV, quantsV, freesV, statesV, symsV, nodesV, transsV, slotsV, valsV, valV] at hsm hfc hfe h1
      (try (simp -implicitDefEqProofs only [go_sem, Nat.reduceAdd, Nat.reduceSub, Nat.reduceMul, Nat.reduceLT, Nat.reduceLeDiff, Nat.reduceEqDiff, Nat.reduceBEq, Int.reduceNeg, Int.reduceAdd, Int.reduceLT, Int.reduceLE, Int.reduceToNat, Int.reduceEq, Int.reduceNe, Int.reduceBEq, Int.reduceBNe, Int.reduceMul, Int.reduceSub, reduceIte, reduceCtorEq, qeaV, declsV, quantsV, freesV, statesV, symsV, nodesV, transsV, slotsV, valsV])); repeat' ((first | refine at_guard (fun hb => ?_) (fun hb => ?_) | refine ⟨fun hb => ?_, fun hb => ?_⟩ | refine at_call (hsm) rfl rfl ?_ | refine at_call (h1) rfl rfl ?_ | refine at_call (hfc) rfl rfl ?_ | refine at_call (hfe) rfl rfl ?_ | refine at_call (ha) rfl rfl ?_ | fail) <;> (try (simp -implicitDefEqProofs only [go_sem, Nat.reduceAdd, Nat.reduceSub, Nat.reduceMul, Nat.reduceLT, Nat.reduceLeDiff, Nat.reduceEqDiff, Nat.reduceBEq, Int.reduceNeg, Int.reduceAdd, Int.reduceLT, Int.reduceLE, Int.reduceToNat, Int.reduceEq, Int.reduceNe, Int.reduceBEq, Int.reduceBNe, Int.reduceMul, Int.reduceSub, reduceIte, reduceCtorEq, qeaV, declsV, quantsV, freesV, statesV, symsV, nodesV, transsV, slotsV, valsV])))
      exact h _ ⟨_, _, rfl, rfl, .refl _⟩
    | true =>
      rw [hff] at hfc hfe
      cases hat : at? q.nodes n with
      | none =>
        have hlen : (exprs q).length = q.nodes.length := exL_length q q.nodes.length (Nat.le_refl _)
        have hkn : kindS q n = 0 := by
          unfold kindS
          cases hx : at? (exprs q) n with
          | none => rfl
          | some e =>
            obtain ⟨i, rfl, hi⟩ := at?_some hx
            have := (List.getElem?_eq_some_iff.1 hi).1
            rcases at?_none hat with h3 | h3 <;> omega
        have h1 := eval_Value_bad (G := G) q b vals hql hvl hfl n (.inl hkn)
        simp only [qeaV, declsV, quantsV, freesV, statesV, symsV, nodesV, transsV, slotsV, valsV, valV] at hsm hfc hfe h1
        rcases at?_none hat with h3 | h3
        · have e1 : (n < 0) = True := by simp; exact h3
          (try (simp -implicitDefEqProofs only [go_sem, Nat.reduceAdd, Nat.reduceSub, Nat.reduceMul, Nat.reduceLT, Nat.reduceLeDiff, Nat.reduceEqDiff, Nat.reduceBEq, Int.reduceNeg, Int.reduceAdd, Int.reduceLT, Int.reduceLE, Int.reduceToNat, Int.reduceEq, Int.reduceNe, Int.reduceBEq, Int.reduceBNe, Int.reduceMul, Int.reduceSub, reduceIte, reduceCtorEq, qeaV, declsV, quantsV, freesV, statesV, symsV, nodesV, transsV, slotsV, valsV, e1, decide_true])); repeat' ((first | refine at_guard (fun hb => ?_) (fun hb => ?_) | refine ⟨fun hb => ?_, fun hb => ?_⟩ | refine at_call (hsm) rfl rfl ?_ | refine at_call (h1) rfl rfl ?_ | refine at_call (hfc) rfl rfl ?_ | refine at_call (hfe) rfl rfl ?_ | refine at_call (ha) rfl rfl ?_ | fail) <;> (try (simp -implicitDefEqProofs only [go_sem, Nat.reduceAdd, Nat.reduceSub, Nat.reduceMul, Nat.reduceLT, Nat.reduceLeDiff, Nat.reduceEqDiff, Nat.reduceBEq, Int.reduceNeg, Int.reduceAdd, Int.reduceLT, Int.reduceLE, Int.reduceToNat, Int.reduceEq, Int.reduceNe, Int.reduceBEq, Int.reduceBNe, Int.reduceMul, Int.reduceSub, reduceIte, reduceCtorEq, qeaV, declsV, quantsV, freesV, statesV, symsV, nodesV, transsV, slotsV, valsV, e1, decide_true])))
          exact h _ ⟨_, _, rfl, rfl, .refl _⟩
        · have e1 : (n < 0) = False := by simp; omega
          have e2 : ((q.nodes.length : Int) ≤ n) = True := by simp; exact h3
          (try (simp -implicitDefEqProofs only [go_sem, Nat.reduceAdd, Nat.reduceSub, Nat.reduceMul, Nat.reduceLT, Nat.reduceLeDiff, Nat.reduceEqDiff, Nat.reduceBEq, Int.reduceNeg, Int.reduceAdd, Int.reduceLT, Int.reduceLE, Int.reduceToNat, Int.reduceEq, Int.reduceNe, Int.reduceBEq, Int.reduceBNe, Int.reduceMul, Int.reduceSub, reduceIte, reduceCtorEq, qeaV, declsV, quantsV, freesV, statesV, symsV, nodesV, transsV, slotsV, valsV, List.length_map, e1, e2, decide_true, decide_false])); repeat' ((first | refine at_guard (fun hb => ?_) (fun hb => ?_) | refine ⟨fun hb => ?_, fun hb => ?_⟩ | refine at_call (hsm) rfl rfl ?_ | refine at_call (h1) rfl rfl ?_ | refine at_call (hfc) rfl rfl ?_ | refine at_call (hfe) rfl rfl ?_ | refine at_call (ha) rfl rfl ?_ | fail) <;> (try (simp -implicitDefEqProofs only [go_sem, Nat.reduceAdd, Nat.reduceSub, Nat.reduceMul, Nat.reduceLT, Nat.reduceLeDiff, Nat.reduceEqDiff, Nat.reduceBEq, Int.reduceNeg, Int.reduceAdd, Int.reduceLT, Int.reduceLE, Int.reduceToNat, Int.reduceEq, Int.reduceNe, Int.reduceBEq, Int.reduceBNe, Int.reduceMul, Int.reduceSub, reduceIte, reduceCtorEq, qeaV, declsV, quantsV, freesV, statesV, symsV, nodesV, transsV, slotsV, valsV, List.length_map, e1, e2, decide_true, decide_false])))
          exact h _ ⟨_, _, rfl, rfl, .refl _⟩
      | some x =>
        obtain ⟨i, rfl, hi⟩ := at?_some hat
        have hlt := (List.getElem?_eq_some_iff.1 hi).1
        have hS := safe_of q h64.nodes
        have hE := env_of (b := b) (vals := vals) hbind (by omega) (by omega) hff b64 v64
        have hki := all_kinds hright i hlt
        have h1 := eval_Value_pc hG hql hS hE hff hfl i hki
        have h2 := ref16_Value_pc (G := G) hS hE i hki
        generalize ev q b vals i = r at *
        obtain ⟨⟨k, m, s, bt⟩, er⟩ := r
        unfold vt at h1 h2
        have e1 : ((i : Int) < 0) = False := by simp
        have e2 : ((q.nodes.length : Int) ≤ i) = False := by simp; omega
        simp only [qeaV, declsV, quantsV, freesV, statesV, symsV, nodesV, transsV, slotsV, valsV, valV] at hsm hfc hfe h1 h2
        (try (simp -implicitDefEqProofs only [go_sem, Nat.reduceAdd, Nat.reduceSub, Nat.reduceMul, Nat.reduceLT, Nat.reduceLeDiff, Nat.reduceEqDiff, Nat.reduceBEq, Int.reduceNeg, Int.reduceAdd, Int.reduceLT, Int.reduceLE, Int.reduceToNat, Int.reduceEq, Int.reduceNe, Int.reduceBEq, Int.reduceBNe, Int.reduceMul, Int.reduceSub, reduceIte, reduceCtorEq, qeaV, declsV, quantsV, freesV, statesV, symsV, nodesV, transsV, slotsV, valsV, List.length_map, e1, e2, decide_false, beq_self_eq_true, Bool.and_self])); repeat' ((first | refine at_guard (fun hb => ?_) (fun hb => ?_) | refine ⟨fun hb => ?_, fun hb => ?_⟩ | refine at_call (hsm) rfl rfl ?_ | refine at_call (h1) rfl rfl ?_ | refine at_call (hfc) rfl rfl ?_ | refine at_call (hfe) rfl rfl ?_ | refine at_call (h2) rfl rfl ?_ | refine at_call (ha) rfl rfl ?_ | fail) <;> (try (simp -implicitDefEqProofs only [go_sem, Nat.reduceAdd, Nat.reduceSub, Nat.reduceMul, Nat.reduceLT, Nat.reduceLeDiff, Nat.reduceEqDiff, Nat.reduceBEq, Int.reduceNeg, Int.reduceAdd, Int.reduceLT, Int.reduceLE, Int.reduceToNat, Int.reduceEq, Int.reduceNe, Int.reduceBEq, Int.reduceBNe, Int.reduceMul, Int.reduceSub, reduceIte, reduceCtorEq, qeaV, declsV, quantsV, freesV, statesV, symsV, nodesV, transsV, slotsV, valsV, List.length_map, e1, e2, decide_false, beq_self_eq_true, Bool.and_self])))
        exact h _ ⟨_, _, rfl, rfl, .refl _⟩
end Go.Proofs.YtdfdiglnpekcpabDoor.Ab
