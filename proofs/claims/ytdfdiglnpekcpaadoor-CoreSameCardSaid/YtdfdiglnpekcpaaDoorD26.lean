/-
  core.Right, proctorref13.Right; the law CoreRight, awake. No claim is proved here.
-/
import Derived.Test.YtdfdiglnpekcpaaDoorD23
import Derived.Test.YtdfdiglnpekcpaaDoorD25
namespace Go.Proofs.YtdfdiglnpekcpaaDoor.Ab
open Go
set_option linter.unusedSimpArgs false
set_option maxHeartbeats 4000000
variable {G : Nat → Option AV}
theorem core_Right_pc (hG : words_global G) (q : QeaT) (hq : q.Few) : PureC Tryd.prog G n_core_Right [qeaV q] (.bool (rightC q)) := by
  have h1 := core_few_pc (G := G) q
  have h2 := core_head_pc hG q hq
  have h3 := core_trans_pc (G := G) q hq
  have h4 := core_symbols_pc (G := G) q hq
  refine pc_core_Right (Runs.of fun Φ h => ?_)
  unfold c_core_Right
  unfold rightC at h
  generalize fewS q = b1 at *
  generalize headC q = b2 at *
  generalize transC q (exprs q) standsS = b3 at *
  generalize symbolsC q = b4 at *
  simp only [qeaV, declsV, quantsV, freesV, statesV, symsV, nodesV, transsV] at h1 h2 h3 h4
  (try (simp -implicitDefEqProofs only [go_sem, Nat.reduceAdd, Nat.reduceSub, Nat.reduceMul, Nat.reduceLT, Nat.reduceLeDiff, Nat.reduceEqDiff, Nat.reduceBEq, Int.reduceNeg, Int.reduceAdd, Int.reduceLT, Int.reduceLE, Int.reduceToNat, Int.reduceEq, Int.reduceNe, Int.reduceBEq, Int.reduceBNe, Int.reduceMul, Int.reduceSub, reduceIte, reduceCtorEq, qeaV, declsV, quantsV, freesV, statesV, symsV, nodesV, transsV])); repeat' ((first | refine at_guard (fun hb => ?_) (fun hb => ?_) | refine ⟨fun hb => ?_, fun hb => ?_⟩ | refine at_call (h1) rfl rfl ?_ | refine at_call (h2) rfl rfl ?_ | refine at_call (h3) rfl rfl ?_ | refine at_call (h4) rfl rfl ?_ | fail) <;> (try (simp -implicitDefEqProofs only [go_sem, Nat.reduceAdd, Nat.reduceSub, Nat.reduceMul, Nat.reduceLT, Nat.reduceLeDiff, Nat.reduceEqDiff, Nat.reduceBEq, Int.reduceNeg, Int.reduceAdd, Int.reduceLT, Int.reduceLE, Int.reduceToNat, Int.reduceEq, Int.reduceNe, Int.reduceBEq, Int.reduceBNe, Int.reduceMul, Int.reduceSub, reduceIte, reduceCtorEq, qeaV, declsV, quantsV, freesV, statesV, symsV, nodesV, transsV])))
  all_goals (refine h _ ⟨_, _, rfl, rfl, fit_eq ?_⟩; clear h; first | rfl | simp_all)
def qAwake : QeaT := ⟨[113], [], [], [], [⟨[115], false, false⟩], 0, [], [], []⟩
def qNone : QeaT := ⟨[], [], [], [], [], 0, [], [], []⟩
theorem few_of (q : QeaT) (h : fewQ q = true) : q.Few := by
  unfold fewQ fewTop at h
  simp only [Bool.and_eq_true, decide_eq_true_eq] at h
  obtain ⟨⟨h1, h2, h3, h4, h5, h6, h7, h8⟩, h9, h10, h11, h12, h13⟩ := h
  refine ⟨by omega, fun d hd => ?_, by omega, by omega, by omega, by omega, fun s hs => ?_, by omega, by omega, fun t ht => ?_⟩
  · obtain ⟨i, hi⟩ := List.getElem?_of_mem hd
    have := allI_true.1 h9 i d hi
    unfold fewDecl at this
    simp only [Bool.and_eq_true, decide_eq_true_eq] at this
    omega
  · obtain ⟨i, hi⟩ := List.getElem?_of_mem hs
    have := allI_true.1 h10 i s hi
    unfold fewSym at this
    simp only [Bool.and_eq_true, decide_eq_true_eq] at this
    omega
  · obtain ⟨i, hi⟩ := List.getElem?_of_mem ht
    have := allI_true.1 h13 i t hi
    simp only [decide_eq_true_eq] at this
    omega
theorem law13_awake_pc (hG : words_global G) : PureC Tryd.prog G n_proctorlaw13_awake [] (.bool true) := by
  have h1 := core_Right_pc hG qAwake (few_of _ (by decide))
  have h2 := core_Plain_pc (G := G) qAwake (by decide)
  have h3 := core_Right_pc hG qNone (few_of _ (by decide))
  rw [show rightC qAwake = true by decide] at h1
  rw [show plainS qAwake = true by decide] at h2
  rw [show rightC qNone = false by decide] at h3
  have f1 : FitL [.agg [.str [113], .nils, .nils, .nils, .seq 3 [.agg [.str [115], .bool false, .bool false]], iv 0, .nils, .nils, .nils]] [qeaV qAwake] := by
    refine ⟨.agg _ _ rfl fun j c d hc hd => ?_, trivial⟩
    match j, hc, hd with
    | 0, hc, hd => cases hc; cases hd; exact .refl _
    | 1, hc, hd => cases hc; cases hd; exact .nil _
    | 2, hc, hd => cases hc; cases hd; exact .nil _
    | 3, hc, hd => cases hc; cases hd; exact .nil _
    | 4, hc, hd => cases hc; cases hd; exact .refl _
    | 5, hc, hd => cases hc; cases hd; exact .refl _
    | 6, hc, hd => cases hc; cases hd; exact .nil _
    | 7, hc, hd => cases hc; cases hd; exact .nil _
    | 8, hc, hd => cases hc; cases hd; exact .nil _
    | j + 9, hc, hd => cases hc
  have f3 : FitL [.agg [.str [], .nils, .nils, .nils, .nils, iv 0, .nils, .nils, .nils]] [qeaV qNone] := by
    refine ⟨.agg _ _ rfl fun j c d hc hd => ?_, trivial⟩
    match j, hc, hd with
    | 0, hc, hd => cases hc; cases hd; exact .refl _
    | 1, hc, hd => cases hc; cases hd; exact .nil _
    | 2, hc, hd => cases hc; cases hd; exact .nil _
    | 3, hc, hd => cases hc; cases hd; exact .nil _
    | 4, hc, hd => cases hc; cases hd; exact .nil _
    | 5, hc, hd => cases hc; cases hd; exact .refl _
    | 6, hc, hd => cases hc; cases hd; exact .nil _
    | 7, hc, hd => cases hc; cases hd; exact .nil _
    | 8, hc, hd => cases hc; cases hd; exact .nil _
    | j + 9, hc, hd => cases hc
  refine pc_proctorlaw13_awake (Runs.of fun Φ h => ?_)
  unfold c_proctorlaw13_awake
  (try (simp -implicitDefEqProofs only [go_sem, Nat.reduceAdd, Nat.reduceSub, Nat.reduceMul, Nat.reduceLT, Nat.reduceLeDiff, Nat.reduceEqDiff, Nat.reduceBEq, Int.reduceNeg, Int.reduceAdd, Int.reduceLT, Int.reduceLE, Int.reduceToNat, Int.reduceEq, Int.reduceNe, Int.reduceBEq, Int.reduceBNe, Int.reduceMul, Int.reduceSub, reduceIte, reduceCtorEq])); repeat' ((first | refine at_guard (fun hb => ?_) (fun hb => ?_) | refine ⟨fun hb => ?_, fun hb => ?_⟩ | (refine at_call_fit h1 rfl f1 rfl ?_) | (refine at_call_fit h2 rfl f1 rfl ?_) | (refine at_call_fit h3 rfl f3 rfl ?_) | fail) <;> (try (simp -implicitDefEqProofs only [go_sem, Nat.reduceAdd, Nat.reduceSub, Nat.reduceMul, Nat.reduceLT, Nat.reduceLeDiff, Nat.reduceEqDiff, Nat.reduceBEq, Int.reduceNeg, Int.reduceAdd, Int.reduceLT, Int.reduceLE, Int.reduceToNat, Int.reduceEq, Int.reduceNe, Int.reduceBEq, Int.reduceBNe, Int.reduceMul, Int.reduceSub, reduceIte, reduceCtorEq])))
  all_goals (refine h _ ⟨_, _, rfl, rfl, fit_eq ?_⟩; clear h; first | rfl | simp_all)
end Go.Proofs.YtdfdiglnpekcpaaDoor.Ab
