/-
  core.Right, proctorref13.Right; the law CoreRight, awake. No claim is proved here.
-/
import Derived.Test.YtdfdiglnpekcpabGreatDoorD24
import Derived.Test.YtdfdiglnpekcpabGreatDoorD23
import Derived.Test.YtdfdiglnpekcpabGreatDoorD25
namespace Go.Proofs.YtdfdiglnpekcpabGreatDoor.Ab
open Go
set_option linter.unusedSimpArgs false
set_option maxHeartbeats 4000000
variable {G : Nat → Option AV}
theorem core_Right_pc (hG : words_global G) (q : QeaT) (hq : q.Few) : PureC Tryz.prog G n_core_Right [qeaV q] (.bool (rightC q)) := by
  have h1 := core_few_pc (G := G) q
  have h2 := core_head_pc hG q hq
  have h3 := core_trans_pc (G := G) q hq
  have h4 := core_symbols_pc (G := G) q hq
  refine pc_core_Right (Runs.of fun Φ h => ?_)
  unfold c_core_Right
  unfold rightC at h
  generalize fewS q = b1 at *
  generalize headC q = b2 at *
  generalize transC q (exprs q) standsS = b3 at *
  generalize symbolsC q = b4 at *
  simp only [qeaV, declsV, quantsV, freesV, statesV, symsV, nodesV, transsV] at h1 h2 h3 h4
  (try (simp -implicitDefEqProofs only [go_sem, Nat.reduceAdd, Nat.reduceSub, Nat.reduceMul, Nat.reduceLT, Nat.reduceLeDiff, Nat.reduceEqDiff, Nat.reduceBEq, Int.reduceNeg, Int.reduceAdd, Int.reduceLT, Int.reduceLE, Int.reduceToNat, Int.reduceEq, Int.reduceNe, Int.reduceBEq, Int.reduceBNe, Int.reduceMul, Int.reduceSub, reduceIte, reduceCtorEq, qeaV, declsV, quantsV, freesV, statesV, symsV, nodesV, transsV])); repeat' ((first | refine at_guard (fun hb => ?_) (fun hb => ?_) | refine ⟨fun hb => ?_, fun hb => ?_⟩ | refine at_call (h1) rfl rfl ?_ | refine at_call (h2) rfl rfl ?_ | refine at_call (h3) rfl rfl ?_ | refine at_call (h4) rfl rfl ?_ | fail) <;> (try (simp -implicitDefEqProofs only [go_sem, Nat.reduceAdd, Nat.reduceSub, Nat.reduceMul, Nat.reduceLT, Nat.reduceLeDiff, Nat.reduceEqDiff, Nat.reduceBEq, Int.reduceNeg, Int.reduceAdd, Int.reduceLT, Int.reduceLE, Int.reduceToNat, Int.reduceEq, Int.reduceNe, Int.reduceBEq, Int.reduceBNe, Int.reduceMul, Int.reduceSub, reduceIte, reduceCtorEq, qeaV, declsV, quantsV, freesV, statesV, symsV, nodesV, transsV])))
  all_goals (refine h _ ⟨_, _, rfl, rfl, fit_eq ?_⟩; clear h; first | rfl | simp_all)
theorem ref13_Right_pc (q : QeaT) (hq : q.Few) : PureC Tryz.prog G n_proctorref13_Right [qeaV q] (.bool (rightR q)) := by
  have hck := ref07_Check_pc (G := G) q.decls (by have := hq.decls; omega) (fun d hd => by have := hq.types d hd; omega)
  have hnm := ref13_names_pc (G := G) q hq
  have htl := hq.trans
  refine pc_proctorref13_Right (Runs.of fun Φ h => ?_)
  unfold c_proctorref13_Right
  have fin : ∀ b heap, rightR q = b → Φ ⟨101, [(2, .bool b)], heap⟩ := fun b heap e => h _ ⟨_, _, rfl, rfl, fitB e.symm⟩
  clear h
  simp only [qeaV, declsV, quantsV, freesV, statesV, symsV, nodesV, transsV] at hck hnm
  cases hT : topR q with
  | false =>
    have hR : rightR q = false := by rw [rightR, hT, Bool.false_and]
    unfold topR fewS at hT
    generalize declCheck q.decls = dc at *
    generalize headR q = hd at *
    simp only [Bool.and_eq_false_imp, decide_eq_true_eq, decide_eq_false_iff_not, Bool.and_eq_true, beq_iff_eq] at hT
    (try (simp -implicitDefEqProofs only [go_sem, Nat.reduceAdd, Nat.reduceSub, Nat.reduceMul, Nat.reduceLT, Nat.reduceLeDiff, Nat.reduceEqDiff, Nat.reduceBEq, Int.reduceNeg, Int.reduceAdd, Int.reduceLT, Int.reduceLE, Int.reduceToNat, Int.reduceEq, Int.reduceNe, Int.reduceBEq, Int.reduceBNe, Int.reduceMul, Int.reduceSub, reduceIte, reduceCtorEq, qeaV, declsV, quantsV, freesV, statesV, symsV, nodesV, transsV, List.length_map])); repeat' ((first | refine at_guard (fun hb => ?_) (fun hb => ?_) | refine ⟨fun hb => ?_, fun hb => ?_⟩ | refine at_call (hck) rfl rfl ?_ | refine at_call (hnm) rfl rfl ?_ | fail) <;> (try (simp -implicitDefEqProofs only [go_sem, Nat.reduceAdd, Nat.reduceSub, Nat.reduceMul, Nat.reduceLT, Nat.reduceLeDiff, Nat.reduceEqDiff, Nat.reduceBEq, Int.reduceNeg, Int.reduceAdd, Int.reduceLT, Int.reduceLE, Int.reduceToNat, Int.reduceEq, Int.reduceNe, Int.reduceBEq, Int.reduceBNe, Int.reduceMul, Int.reduceSub, reduceIte, reduceCtorEq, qeaV, declsV, quantsV, freesV, statesV, symsV, nodesV, transsV, List.length_map])))
    all_goals first | exact fin _ _ hR | (exfalso; clear fin hck hnm; simp_all; omega) | (exfalso; clear fin hck hnm; simp_all; done)
  | true =>
    have hR : rightR q = (transAll q && symbolsR q) := by rw [rightR, hT, Bool.true_and]
    have hk : q.Kinds := by
      unfold topR at hT
      simp only [Bool.and_eq_true] at hT
      exact top_kinds hT.2.2.2.2
    unfold topR fewS at hT
    generalize declCheck q.decls = dc at *
    generalize headR q = hd at *
    simp only [decide_eq_true_eq, Bool.and_eq_true, beq_iff_eq] at hT
    obtain ⟨t1, ⟨t2, t3, t4, t5, t6, t7⟩, t8, t9, t10⟩ := hT
    subst t10
    (try (simp -implicitDefEqProofs only [go_sem, Nat.reduceAdd, Nat.reduceSub, Nat.reduceMul, Nat.reduceLT, Nat.reduceLeDiff, Nat.reduceEqDiff, Nat.reduceBEq, Int.reduceNeg, Int.reduceAdd, Int.reduceLT, Int.reduceLE, Int.reduceToNat, Int.reduceEq, Int.reduceNe, Int.reduceBEq, Int.reduceBNe, Int.reduceMul, Int.reduceSub, reduceIte, reduceCtorEq, qeaV, declsV, quantsV, freesV, statesV, symsV, nodesV, transsV, List.length_map, t1])); repeat' ((first | refine at_guard (fun hb => ?_) (fun hb => ?_) | refine ⟨fun hb => ?_, fun hb => ?_⟩ | refine at_call (hck) rfl rfl ?_ | refine at_call (hnm) rfl rfl ?_ | fail) <;> (try (simp -implicitDefEqProofs only [go_sem, Nat.reduceAdd, Nat.reduceSub, Nat.reduceMul, Nat.reduceLT, Nat.reduceLeDiff, Nat.reduceEqDiff, Nat.reduceBEq, Int.reduceNeg, Int.reduceAdd, Int.reduceLT, Int.reduceLE, Int.reduceToNat, Int.reduceEq, Int.reduceNe, Int.reduceBEq, Int.reduceBNe, Int.reduceMul, Int.reduceSub, reduceIte, reduceCtorEq, qeaV, declsV, quantsV, freesV, statesV, symsV, nodesV, transsV, List.length_map, t1])))
    all_goals first | (exfalso; clear fin hck hnm; simp at *; omega) | (exfalso; clear fin hck hnm; simp at *; done) | skip
    refine at_loop (fun n st => ∃ (i : Nat) (a : Int), i + n = q.trans.length ∧ st = ⟨101, [(1, .ref 1 0 0), (5, iv a), (6, iv i)], [(1, ⟨false, t_api_Qea, 9, [qeaV q]⟩)]⟩ ∧ 0 ≤ a ∧ a ≤ q.nodes.length ∧ (∀ j t, j < i → q.trans[j]? = some t → inR t.symbol q.symbols.length = true) ∧ allS (stepR q) q.trans 0 0 = allS (stepR q) (q.trans.drop i) i a) q.trans.length ⟨0, 0, by simp, rfl, by omega, by omega, fun j x hj => by omega, rfl⟩ ?_
    rintro I hI n st ⟨i, a, hi, rfl, h0, hl, hin, hno⟩
    simp -implicitDefEqProofs only [go_sem, Nat.reduceAdd, Nat.reduceSub, Nat.reduceMul, Nat.reduceLT, Nat.reduceLeDiff, Nat.reduceEqDiff, Nat.reduceBEq, Int.reduceNeg, Int.reduceAdd, Int.reduceLT, Int.reduceLE, Int.reduceToNat, Int.reduceEq, Int.reduceNe, Int.reduceBEq, Int.reduceBNe, Int.reduceMul, Int.reduceSub, reduceIte, reduceCtorEq, qeaV, declsV, quantsV, freesV, statesV, symsV, nodesV, transsV, List.length_map]
    refine ⟨fun hlt => ?_, fun hge => ?_⟩
    · have hlt' : i < q.trans.length := by omega
      obtain ⟨t, ht, hm⟩ := at_some hlt'
      have hw := wrap_succ hlt' (by omega)
      have hc := ref13_trans_pc (G := G) q hq hk t (by have := hq.sets t hm; omega) a h0 hl
      have hle := transR_le (t := t) h0 hl
      rw [allS_step ht] at hno
      unfold stepR at hno
      have hno' : (if (transR q t a).2 = true then allS (stepR q) (q.trans.drop (i + 1)) (i + 1) (transR q t a).1 else (false, (transR q t a).1)) = allS (stepR q) q.trans 0 0 := hno.symm
      clear hno
      generalize transR q t a = r at *
      obtain ⟨A, b⟩ := r
      dsimp only at hle hno'
      simp only [transV, setsV, qeaV, declsV, quantsV, freesV, statesV, symsV, nodesV, transsV, tupR] at hc
      cases b with
      | false =>
        have hbad : rightR q = false := by rw [hR, transAll, ← hno']; rfl
        (try (simp -implicitDefEqProofs only [go_sem, Nat.reduceAdd, Nat.reduceSub, Nat.reduceMul, Nat.reduceLT, Nat.reduceLeDiff, Nat.reduceEqDiff, Nat.reduceBEq, Int.reduceNeg, Int.reduceAdd, Int.reduceLT, Int.reduceLE, Int.reduceToNat, Int.reduceEq, Int.reduceNe, Int.reduceBEq, Int.reduceBNe, Int.reduceMul, Int.reduceSub, reduceIte, reduceCtorEq, aiaddr_map ht, transV, setsV, qeaV, declsV, quantsV, freesV, statesV, symsV, nodesV, transsV, List.length_map, hw])); repeat' ((first | refine at_guard (fun hb => ?_) (fun hb => ?_) | refine ⟨fun hb => ?_, fun hb => ?_⟩ | refine at_call (hc) rfl rfl ?_ | fail) <;> (try (simp -implicitDefEqProofs only [go_sem, Nat.reduceAdd, Nat.reduceSub, Nat.reduceMul, Nat.reduceLT, Nat.reduceLeDiff, Nat.reduceEqDiff, Nat.reduceBEq, Int.reduceNeg, Int.reduceAdd, Int.reduceLT, Int.reduceLE, Int.reduceToNat, Int.reduceEq, Int.reduceNe, Int.reduceBEq, Int.reduceBNe, Int.reduceMul, Int.reduceSub, reduceIte, reduceCtorEq, aiaddr_map ht, transV, setsV, qeaV, declsV, quantsV, freesV, statesV, symsV, nodesV, transsV, List.length_map, hw])))
        exact fin _ _ hbad
      | true =>
        obtain ⟨l1, l2, l3⟩ := hle rfl
        have hnext : again I n ⟨101, [(1, .ref 1 0 0), (5, iv A), (6, iv (i + 1 : Nat))], [(1, ⟨false, t_api_Qea, 9, [qeaV q]⟩)]⟩ := at_again (n - 1) (by omega) (hI _ _ ⟨i + 1, A, by omega, rfl, l1, l2, allI_step (p := fun _ (t : TransT) => inR t.symbol q.symbols.length) ht l3 hin, by rw [← hno', if_pos rfl]⟩)
        (try (simp -implicitDefEqProofs only [go_sem, Nat.reduceAdd, Nat.reduceSub, Nat.reduceMul, Nat.reduceLT, Nat.reduceLeDiff, Nat.reduceEqDiff, Nat.reduceBEq, Int.reduceNeg, Int.reduceAdd, Int.reduceLT, Int.reduceLE, Int.reduceToNat, Int.reduceEq, Int.reduceNe, Int.reduceBEq, Int.reduceBNe, Int.reduceMul, Int.reduceSub, reduceIte, reduceCtorEq, aiaddr_map ht, transV, setsV, qeaV, declsV, quantsV, freesV, statesV, symsV, nodesV, transsV, List.length_map, hw])); repeat' ((first | refine at_guard (fun hb => ?_) (fun hb => ?_) | refine ⟨fun hb => ?_, fun hb => ?_⟩ | refine at_call (hc) rfl rfl ?_ | fail) <;> (try (simp -implicitDefEqProofs only [go_sem, Nat.reduceAdd, Nat.reduceSub, Nat.reduceMul, Nat.reduceLT, Nat.reduceLeDiff, Nat.reduceEqDiff, Nat.reduceBEq, Int.reduceNeg, Int.reduceAdd, Int.reduceLT, Int.reduceLE, Int.reduceToNat, Int.reduceEq, Int.reduceNe, Int.reduceBEq, Int.reduceBNe, Int.reduceMul, Int.reduceSub, reduceIte, reduceCtorEq, aiaddr_map ht, transV, setsV, qeaV, declsV, quantsV, freesV, statesV, symsV, nodesV, transsV, List.length_map, hw])))
        exact hnext
    · have hs : ∀ t ∈ q.trans, inR t.symbol q.symbols.length = true := fun t ht => by
        obtain ⟨j, hj⟩ := List.getElem?_of_mem ht
        exact hin j t (by have := (List.getElem?_eq_some_iff.1 hj).1; omega) hj
      have hsy := ref13_symbols_pc (G := G) q hq hs
      rw [allS_end (by omega)] at hno
      have hA : transAll q = (a == (q.nodes.length : Int)) := by rw [transAll, hno]; rfl
      rw [hA] at hR
      simp only [qeaV, declsV, quantsV, freesV, statesV, symsV, nodesV, transsV] at hsy
      generalize symbolsR q = sy at *
      clear hI hin hno hA
      (try (simp -implicitDefEqProofs only [go_sem, Nat.reduceAdd, Nat.reduceSub, Nat.reduceMul, Nat.reduceLT, Nat.reduceLeDiff, Nat.reduceEqDiff, Nat.reduceBEq, Int.reduceNeg, Int.reduceAdd, Int.reduceLT, Int.reduceLE, Int.reduceToNat, Int.reduceEq, Int.reduceNe, Int.reduceBEq, Int.reduceBNe, Int.reduceMul, Int.reduceSub, reduceIte, reduceCtorEq, qeaV, declsV, quantsV, freesV, statesV, symsV, nodesV, transsV, List.length_map])); repeat' ((first | refine at_guard (fun hb => ?_) (fun hb => ?_) | refine ⟨fun hb => ?_, fun hb => ?_⟩ | refine at_call (hsy) rfl rfl ?_ | fail) <;> (try (simp -implicitDefEqProofs only [go_sem, Nat.reduceAdd, Nat.reduceSub, Nat.reduceMul, Nat.reduceLT, Nat.reduceLeDiff, Nat.reduceEqDiff, Nat.reduceBEq, Int.reduceNeg, Int.reduceAdd, Int.reduceLT, Int.reduceLE, Int.reduceToNat, Int.reduceEq, Int.reduceNe, Int.reduceBEq, Int.reduceBNe, Int.reduceMul, Int.reduceSub, reduceIte, reduceCtorEq, qeaV, declsV, quantsV, freesV, statesV, symsV, nodesV, transsV, List.length_map])))
      all_goals
        refine fin _ _ ?_
        rw [hR]
        clear hR fin hsy hck hnm
        simp_all
def qAwake : QeaT := ⟨[113], [], [], [], [⟨[115], false, false⟩], 0, [], [], []⟩
def qNone : QeaT := ⟨[], [], [], [], [], 0, [], [], []⟩
theorem few_of (q : QeaT) (h : fewQ q = true) : q.Few := by
  unfold fewQ fewTop at h
  simp only [Bool.and_eq_true, decide_eq_true_eq] at h
  obtain ⟨⟨h1, h2, h3, h4, h5, h6, h7, h8⟩, h9, h10, h11, h12, h13⟩ := h
  refine ⟨by omega, fun d hd => ?_, by omega, by omega, by omega, by omega, fun s hs => ?_, by omega, by omega, fun t ht => ?_⟩
  · obtain ⟨i, hi⟩ := List.getElem?_of_mem hd
    have := allI_true.1 h9 i d hi
    unfold fewDecl at this
    simp only [Bool.and_eq_true, decide_eq_true_eq] at this
    omega
  · obtain ⟨i, hi⟩ := List.getElem?_of_mem hs
    have := allI_true.1 h10 i s hi
    unfold fewSym at this
    simp only [Bool.and_eq_true, decide_eq_true_eq] at this
    omega
  · obtain ⟨i, hi⟩ := List.getElem?_of_mem ht
    have := allI_true.1 h13 i t hi
    simp only [decide_eq_true_eq] at this
    omega
theorem law13_awake_pc (hG : words_global G) : PureC Tryz.prog G n_proctorlaw13_awake [] (.bool true) := by
  have h1 := core_Right_pc hG qAwake (few_of _ (by decide))
  have h2 := core_Plain_pc (G := G) qAwake (by decide)
  have h3 := core_Right_pc hG qNone (few_of _ (by decide))
  rw [show rightC qAwake = true by decide] at h1
  rw [show plainS qAwake = true by decide] at h2
  rw [show rightC qNone = false by decide] at h3
  have f1 : FitL [.agg [.str [113], .nils, .nils, .nils, .seq 3 [.agg [.str [115], .bool false, .bool false]], iv 0, .nils, .nils, .nils]] [qeaV qAwake] := by
    refine ⟨.agg _ _ rfl fun j c d hc hd => ?_, trivial⟩
    match j, hc, hd with
    | 0, hc, hd => cases hc; cases hd; exact .refl _
    | 1, hc, hd => cases hc; cases hd; exact .nil _
    | 2, hc, hd => cases hc; cases hd; exact .nil _
    | 3, hc, hd => cases hc; cases hd; exact .nil _
    | 4, hc, hd => cases hc; cases hd; exact .refl _
    | 5, hc, hd => cases hc; cases hd; exact .refl _
    | 6, hc, hd => cases hc; cases hd; exact .nil _
    | 7, hc, hd => cases hc; cases hd; exact .nil _
    | 8, hc, hd => cases hc; cases hd; exact .nil _
    | j + 9, hc, hd => cases hc
  have f3 : FitL [.agg [.str [], .nils, .nils, .nils, .nils, iv 0, .nils, .nils, .nils]] [qeaV qNone] := by
    refine ⟨.agg _ _ rfl fun j c d hc hd => ?_, trivial⟩
    match j, hc, hd with
    | 0, hc, hd => cases hc; cases hd; exact .refl _
    | 1, hc, hd => cases hc; cases hd; exact .nil _
    | 2, hc, hd => cases hc; cases hd; exact .nil _
    | 3, hc, hd => cases hc; cases hd; exact .nil _
    | 4, hc, hd => cases hc; cases hd; exact .nil _
    | 5, hc, hd => cases hc; cases hd; exact .refl _
    | 6, hc, hd => cases hc; cases hd; exact .nil _
    | 7, hc, hd => cases hc; cases hd; exact .nil _
    | 8, hc, hd => cases hc; cases hd; exact .nil _
    | j + 9, hc, hd => cases hc
  refine pc_proctorlaw13_awake (Runs.of fun Φ h => ?_)
  unfold c_proctorlaw13_awake
  (try (simp -implicitDefEqProofs only [go_sem, Nat.reduceAdd, Nat.reduceSub, Nat.reduceMul, Nat.reduceLT, Nat.reduceLeDiff, Nat.reduceEqDiff, Nat.reduceBEq, Int.reduceNeg, Int.reduceAdd, Int.reduceLT, Int.reduceLE, Int.reduceToNat, Int.reduceEq, Int.reduceNe, Int.reduceBEq, Int.reduceBNe, Int.reduceMul, Int.reduceSub, reduceIte, reduceCtorEq])); repeat' ((first | refine at_guard (fun hb => ?_) (fun hb => ?_) | refine ⟨fun hb => ?_, fun hb => ?_⟩ | (refine at_call_fit h1 rfl f1 rfl ?_) | (refine at_call_fit h2 rfl f1 rfl ?_) | (refine at_call_fit h3 rfl f3 rfl ?_) | fail) <;> (try (simp -implicitDefEqProofs only [go_sem, Nat.reduceAdd, Nat.reduceSub, Nat.reduceMul, Nat.reduceLT, Nat.reduceLeDiff, Nat.reduceEqDiff, Nat.reduceBEq, Int.reduceNeg, Int.reduceAdd, Int.reduceLT, Int.reduceLE, Int.reduceToNat, Int.reduceEq, Int.reduceNe, Int.reduceBEq, Int.reduceBNe, Int.reduceMul, Int.reduceSub, reduceIte, reduceCtorEq])))
  all_goals (refine h _ ⟨_, _, rfl, rfl, fit_eq ?_⟩; clear h; first | rfl | simp_all)
end Go.Proofs.YtdfdiglnpekcpabGreatDoor.Ab
