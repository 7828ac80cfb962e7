/-
  core.head, proctorref13.names. No claim is proved here.
-/
import Derived.Test.YtdfdiglnpekcpaaDoorD18
import Derived.Test.YtdfdiglnpekcpaaDoorD16
namespace Go.Proofs.YtdfdiglnpekcpaaDoor.Ab
open Go
set_option linter.unusedSimpArgs false
set_option maxHeartbeats 4000000
variable {G : Nat → Option AV}
theorem take_map_succ {l : List Str} {k : Nat} {x : Str} (h : l[k]? = some x) : (l.take (k + 1)).map AV.str = (l.take k).map AV.str ++ [.str x] := by
  rw [List.take_add_one, h]
  simp
/-- The names of variables, and of states. -/
def QeaT.vars (q : QeaT) : List Str := q.quants.map (·.name) ++ q.frees.map (·.name)
def QeaT.names (q : QeaT) : List Str := q.states.map (·.name)
theorem vars_len (q : QeaT) : q.vars.length = q.quants.length + q.frees.length := by simp [QeaT.vars]
theorem vars_q {q : QeaT} {i : Nat} {y : QuantT} (h : q.quants[i]? = some y) : q.vars[i]? = some y.name := by
  have := (List.getElem?_eq_some_iff.1 h).1
  unfold QeaT.vars
  rw [List.getElem?_append_left (by simpa using this), List.getElem?_map, h]
  rfl
theorem vars_f {q : QeaT} {i : Nat} {y : FreeT} (h : q.frees[i]? = some y) : q.vars[q.quants.length + i]? = some y.name := by
  unfold QeaT.vars
  rw [List.getElem?_append_right (by simp), List.getElem?_map]
  simp [h]
theorem names_s {q : QeaT} {i : Nat} {y : StateT} (h : q.states[i]? = some y) : q.names[i]? = some y.name := by
  unfold QeaT.names
  rw [List.getElem?_map, h]
  rfl
theorem names_len (q : QeaT) : q.names.length = q.states.length := by simp [QeaT.names]
def headC (q : QeaT) : Bool :=
  (declCheck q.decls).1 == 0 && (nameOk q.name && (allI (nameOne q.vars) q.vars && (allI (nameOne q.names) q.names && (allI (fun _ (y : QuantT) => !(kindName y.type == [])) q.quants && (allI (fun _ (y : FreeT) => y.init.ok) q.frees && (decide (0 ≤ q.start) && decide (q.start < q.states.length)))))))
theorem take_len {l : List Str} {k : Nat} (h : k ≤ l.length) : ((l.take k).map AV.str).length = k := by simp; omega
theorem core_head_pc (hG : words_global G) (q : QeaT) (hq : q.Few) : PureC Tryd.prog G n_core_head [qeaV q] (.bool (headC q)) := by
  have h1 := hq.quants
  have h2 := hq.frees
  have h3 := hq.states
  have h4 := hq.decls
  have hvl := vars_len q
  have hnl := names_len q
  refine pc_core_head (Runs.of fun Φ h => ?_)
  unfold c_core_head
  try (simp -implicitDefEqProofs only [go_sem, Nat.reduceAdd, Nat.reduceSub, Nat.reduceMul, Nat.reduceLT, Nat.reduceLeDiff, Nat.reduceEqDiff, Nat.reduceBEq, Int.reduceNeg, Int.reduceAdd, Int.reduceLT, Int.reduceLE, Int.reduceToNat, Int.reduceEq, Int.reduceNe, Int.reduceBEq, Int.reduceBNe, Int.reduceMul, Int.reduceSub, reduceIte, reduceCtorEq, qeaV, declsV, quantsV, freesV, statesV, symsV, nodesV, transsV, List.length_map])
  refine at_loop (fun n st => ∃ i : Nat, i + n = q.quants.length ∧ st = ⟨96, [(1, .ref 1 0 0), (3, .arr 3 0 i), (4, .arr 4 0 0), (14, quantsV q.quants), (15, iv q.quants.length), (16, iv i)], [(1, ⟨false, t_api_Qea, 9, [qeaV q]⟩), (3, ⟨true, t_string, 1, (q.vars.take i).map AV.str⟩), (4, ⟨true, t_string, 1, []⟩)]⟩) q.quants.length ⟨0, by simp, rfl⟩ ?_
  rintro I hI n st ⟨i, hi, rfl⟩
  simp -implicitDefEqProofs only [go_sem, Nat.reduceAdd, Nat.reduceSub, Nat.reduceMul, Nat.reduceLT, Nat.reduceLeDiff, Nat.reduceEqDiff, Nat.reduceBEq, Int.reduceNeg, Int.reduceAdd, Int.reduceLT, Int.reduceLE, Int.reduceToNat, Int.reduceEq, Int.reduceNe, Int.reduceBEq, Int.reduceBNe, Int.reduceMul, Int.reduceSub, reduceIte, reduceCtorEq, qeaV, declsV, quantsV, freesV, statesV, symsV, nodesV, transsV, List.length_map]
  refine ⟨fun hlt => ?_, fun hge => ?_⟩
  · have hlt' : i < q.quants.length := by omega
    obtain ⟨y, hy, hm⟩ := at_some hlt'
    have hw := wrap_succ hlt' (by omega)
    have hbd : (i + 1) * 16 ≤ 140737488355328 := by omega
    have hnext : again I n ⟨96, [(1, .ref 1 0 0), (3, .arr 3 0 (i + 1)), (4, .arr 4 0 0), (14, quantsV q.quants), (15, iv q.quants.length), (16, iv (i + 1 : Nat))], [(1, ⟨false, t_api_Qea, 9, [qeaV q]⟩), (3, ⟨true, t_string, 1, (q.vars.take (i + 1)).map AV.str⟩), (4, ⟨true, t_string, 1, []⟩)]⟩ := at_again (n - 1) (by omega) (hI _ _ ⟨i + 1, by omega, rfl⟩)
    have hrl := take_len (l := q.vars) (k := i) (by omega)
    rw [take_map_succ (vars_q hy)] at hnext
    generalize (q.vars.take i).map AV.str = R at *
    (try (simp -implicitDefEqProofs only [go_sem, Nat.reduceAdd, Nat.reduceSub, Nat.reduceMul, Nat.reduceLT, Nat.reduceLeDiff, Nat.reduceEqDiff, Nat.reduceBEq, Int.reduceNeg, Int.reduceAdd, Int.reduceLT, Int.reduceLE, Int.reduceToNat, Int.reduceEq, Int.reduceNe, Int.reduceBEq, Int.reduceBNe, Int.reduceMul, Int.reduceSub, reduceIte, reduceCtorEq, aiaddr_map hy, quantV, hw, hrl, hbd])); repeat' ((first | refine at_guard (fun hb => ?_) (fun hb => ?_) | refine ⟨fun hb => ?_, fun hb => ?_⟩ | fail) <;> (try (simp -implicitDefEqProofs only [go_sem, Nat.reduceAdd, Nat.reduceSub, Nat.reduceMul, Nat.reduceLT, Nat.reduceLeDiff, Nat.reduceEqDiff, Nat.reduceBEq, Int.reduceNeg, Int.reduceAdd, Int.reduceLT, Int.reduceLE, Int.reduceToNat, Int.reduceEq, Int.reduceNe, Int.reduceBEq, Int.reduceBNe, Int.reduceMul, Int.reduceSub, reduceIte, reduceCtorEq, aiaddr_map hy, quantV, hw, hrl, hbd])))
    exact hnext
  · have : i = q.quants.length := by omega
    subst this
    clear hI
    try (simp -implicitDefEqProofs only [go_sem, Nat.reduceAdd, Nat.reduceSub, Nat.reduceMul, Nat.reduceLT, Nat.reduceLeDiff, Nat.reduceEqDiff, Nat.reduceBEq, Int.reduceNeg, Int.reduceAdd, Int.reduceLT, Int.reduceLE, Int.reduceToNat, Int.reduceEq, Int.reduceNe, Int.reduceBEq, Int.reduceBNe, Int.reduceMul, Int.reduceSub, reduceIte, reduceCtorEq, qeaV, declsV, quantsV, freesV, statesV, symsV, nodesV, transsV, List.length_map])
    refine at_loop (fun n st => ∃ i : Nat, i + n = q.frees.length ∧ st = ⟨96, [(1, .ref 1 0 0), (3, .arr 3 0 (q.quants.length + i)), (4, .arr 4 0 0), (27, freesV q.frees), (28, iv q.frees.length), (29, iv i)], [(1, ⟨false, t_api_Qea, 9, [qeaV q]⟩), (3, ⟨true, t_string, 1, (q.vars.take (q.quants.length + i)).map AV.str⟩), (4, ⟨true, t_string, 1, []⟩)]⟩) q.frees.length ⟨0, by simp, rfl⟩ ?_
    rintro I hI n st ⟨i, hi, rfl⟩
    simp -implicitDefEqProofs only [go_sem, Nat.reduceAdd, Nat.reduceSub, Nat.reduceMul, Nat.reduceLT, Nat.reduceLeDiff, Nat.reduceEqDiff, Nat.reduceBEq, Int.reduceNeg, Int.reduceAdd, Int.reduceLT, Int.reduceLE, Int.reduceToNat, Int.reduceEq, Int.reduceNe, Int.reduceBEq, Int.reduceBNe, Int.reduceMul, Int.reduceSub, reduceIte, reduceCtorEq, qeaV, declsV, quantsV, freesV, statesV, symsV, nodesV, transsV, List.length_map]
    refine ⟨fun hlt => ?_, fun hge => ?_⟩
    · have hlt' : i < q.frees.length := by omega
      obtain ⟨y, hy, hm⟩ := at_some hlt'
      have hw := wrap_succ hlt' (by omega)
      have hbd : (q.quants.length + i + 1) * 16 ≤ 140737488355328 := by omega
      have hnext : again I n ⟨96, [(1, .ref 1 0 0), (3, .arr 3 0 (q.quants.length + i + 1)), (4, .arr 4 0 0), (27, freesV q.frees), (28, iv q.frees.length), (29, iv (i + 1 : Nat))], [(1, ⟨false, t_api_Qea, 9, [qeaV q]⟩), (3, ⟨true, t_string, 1, (q.vars.take (q.quants.length + i + 1)).map AV.str⟩), (4, ⟨true, t_string, 1, []⟩)]⟩ := at_again (n - 1) (by omega) (hI _ _ ⟨i + 1, by omega, rfl⟩)
      have hrl := take_len (l := q.vars) (k := q.quants.length + i) (by omega)
      rw [take_map_succ (vars_f hy)] at hnext
      generalize (q.vars.take (q.quants.length + i)).map AV.str = R at *
      (try (simp -implicitDefEqProofs only [go_sem, Nat.reduceAdd, Nat.reduceSub, Nat.reduceMul, Nat.reduceLT, Nat.reduceLeDiff, Nat.reduceEqDiff, Nat.reduceBEq, Int.reduceNeg, Int.reduceAdd, Int.reduceLT, Int.reduceLE, Int.reduceToNat, Int.reduceEq, Int.reduceNe, Int.reduceBEq, Int.reduceBNe, Int.reduceMul, Int.reduceSub, reduceIte, reduceCtorEq, aiaddr_map hy, freeV, hw, hrl, hbd])); repeat' ((first | refine at_guard (fun hb => ?_) (fun hb => ?_) | refine ⟨fun hb => ?_, fun hb => ?_⟩ | fail) <;> (try (simp -implicitDefEqProofs only [go_sem, Nat.reduceAdd, Nat.reduceSub, Nat.reduceMul, Nat.reduceLT, Nat.reduceLeDiff, Nat.reduceEqDiff, Nat.reduceBEq, Int.reduceNeg, Int.reduceAdd, Int.reduceLT, Int.reduceLE, Int.reduceToNat, Int.reduceEq, Int.reduceNe, Int.reduceBEq, Int.reduceBNe, Int.reduceMul, Int.reduceSub, reduceIte, reduceCtorEq, aiaddr_map hy, freeV, hw, hrl, hbd])))
      exact hnext
    · have : i = q.frees.length := by omega
      subst this
      clear hI
      rw [List.take_of_length_le (show q.vars.length ≤ q.quants.length + q.frees.length by omega), ← hvl]
      try (simp -implicitDefEqProofs only [go_sem, Nat.reduceAdd, Nat.reduceSub, Nat.reduceMul, Nat.reduceLT, Nat.reduceLeDiff, Nat.reduceEqDiff, Nat.reduceBEq, Int.reduceNeg, Int.reduceAdd, Int.reduceLT, Int.reduceLE, Int.reduceToNat, Int.reduceEq, Int.reduceNe, Int.reduceBEq, Int.reduceBNe, Int.reduceMul, Int.reduceSub, reduceIte, reduceCtorEq, qeaV, declsV, quantsV, freesV, statesV, symsV, nodesV, transsV, List.length_map])
      refine at_loop (fun n st => ∃ i : Nat, i + n = q.states.length ∧ st = ⟨96, [(1, .ref 1 0 0), (3, .arr 3 0 q.vars.length), (4, .arr 4 0 i), (40, statesV q.states), (41, iv q.states.length), (42, iv i)], [(1, ⟨false, t_api_Qea, 9, [qeaV q]⟩), (3, ⟨true, t_string, 1, q.vars.map AV.str⟩), (4, ⟨true, t_string, 1, (q.names.take i).map AV.str⟩)]⟩) q.states.length ⟨0, by simp, rfl⟩ ?_
      rintro I hI n st ⟨i, hi, rfl⟩
      simp -implicitDefEqProofs only [go_sem, Nat.reduceAdd, Nat.reduceSub, Nat.reduceMul, Nat.reduceLT, Nat.reduceLeDiff, Nat.reduceEqDiff, Nat.reduceBEq, Int.reduceNeg, Int.reduceAdd, Int.reduceLT, Int.reduceLE, Int.reduceToNat, Int.reduceEq, Int.reduceNe, Int.reduceBEq, Int.reduceBNe, Int.reduceMul, Int.reduceSub, reduceIte, reduceCtorEq, qeaV, declsV, quantsV, freesV, statesV, symsV, nodesV, transsV, List.length_map]
      refine ⟨fun hlt => ?_, fun hge => ?_⟩
      · have hlt' : i < q.states.length := by omega
        obtain ⟨y, hy, hm⟩ := at_some hlt'
        have hw := wrap_succ hlt' (by omega)
        have hbd : (i + 1) * 16 ≤ 140737488355328 := by omega
        have hnext : again I n ⟨96, [(1, .ref 1 0 0), (3, .arr 3 0 q.vars.length), (4, .arr 4 0 (i + 1)), (40, statesV q.states), (41, iv q.states.length), (42, iv (i + 1 : Nat))], [(1, ⟨false, t_api_Qea, 9, [qeaV q]⟩), (3, ⟨true, t_string, 1, q.vars.map AV.str⟩), (4, ⟨true, t_string, 1, (q.names.take (i + 1)).map AV.str⟩)]⟩ := at_again (n - 1) (by omega) (hI _ _ ⟨i + 1, by omega, rfl⟩)
        have hrl := take_len (l := q.names) (k := i) (by omega)
        rw [take_map_succ (names_s hy)] at hnext
        generalize (q.names.take i).map AV.str = R at *
        (try (simp -implicitDefEqProofs only [go_sem, Nat.reduceAdd, Nat.reduceSub, Nat.reduceMul, Nat.reduceLT, Nat.reduceLeDiff, Nat.reduceEqDiff, Nat.reduceBEq, Int.reduceNeg, Int.reduceAdd, Int.reduceLT, Int.reduceLE, Int.reduceToNat, Int.reduceEq, Int.reduceNe, Int.reduceBEq, Int.reduceBNe, Int.reduceMul, Int.reduceSub, reduceIte, reduceCtorEq, aiaddr_map hy, stateV, hw, hrl, hbd])); repeat' ((first | refine at_guard (fun hb => ?_) (fun hb => ?_) | refine ⟨fun hb => ?_, fun hb => ?_⟩ | fail) <;> (try (simp -implicitDefEqProofs only [go_sem, Nat.reduceAdd, Nat.reduceSub, Nat.reduceMul, Nat.reduceLT, Nat.reduceLeDiff, Nat.reduceEqDiff, Nat.reduceBEq, Int.reduceNeg, Int.reduceAdd, Int.reduceLT, Int.reduceLE, Int.reduceToNat, Int.reduceEq, Int.reduceNe, Int.reduceBEq, Int.reduceBNe, Int.reduceMul, Int.reduceSub, reduceIte, reduceCtorEq, aiaddr_map hy, stateV, hw, hrl, hbd])))
        exact hnext
      · have : i = q.states.length := by omega
        subst this
        clear hI
        rw [List.take_of_length_le (show q.names.length ≤ q.states.length by omega), ← hnl]
        have hck := schema_Check_pc hG q.decls (by omega) (fun d hd => by have := hq.types d hd; omega)
        have hnm := schema_Name_pc hG q.name
        have hnv := core_names_pc hG q.vars (by omega)
        have hns := core_names_pc hG q.names (by omega)
        have haq := core_all_api_Quant_pc (G := G) n_core_head_1 [] (by kernel_rfl) okC_nil (fun _ (y : QuantT) => !(kindName y.type == [])) q.quants (fun i y _ => core_head_1_pc i y) (by omega)
        have haf := core_all_api_Free_pc (G := G) n_core_head_2 [] (by kernel_rfl) okC_nil (fun _ (y : FreeT) => y.init.ok) q.frees (fun i y _ => core_head_2_pc i y) (by omega)
        have htv : List.take q.vars.length (q.vars.map AV.str) = q.vars.map AV.str := List.take_of_length_le (by simp)
        have htn : List.take q.names.length (q.names.map AV.str) = q.names.map AV.str := List.take_of_length_le (by simp)
        have hlv : (q.vars.map AV.str).length = q.vars.length := by simp
        have hln : (q.names.map AV.str).length = q.names.length := by simp
        unfold headC at h
        generalize declCheck q.decls = dc at *
        generalize nameOk q.name = b1 at *
        generalize allI (nameOne q.vars) q.vars = b2 at *
        generalize allI (nameOne q.names) q.names = b3 at *
        generalize allI (fun _ (y : QuantT) => !(kindName y.type == [])) q.quants = b4 at *
        generalize allI (fun _ (y : FreeT) => y.init.ok) q.frees = b5 at *
        simp only [qeaV, declsV, quantsV, freesV, statesV, symsV, nodesV, transsV] at hck haq haf
        (try (simp -implicitDefEqProofs only [go_sem, Nat.reduceAdd, Nat.reduceSub, Nat.reduceMul, Nat.reduceLT, Nat.reduceLeDiff, Nat.reduceEqDiff, Nat.reduceBEq, Int.reduceNeg, Int.reduceAdd, Int.reduceLT, Int.reduceLE, Int.reduceToNat, Int.reduceEq, Int.reduceNe, Int.reduceBEq, Int.reduceBNe, Int.reduceMul, Int.reduceSub, reduceIte, reduceCtorEq, qeaV, declsV, quantsV, freesV, statesV, symsV, nodesV, transsV, List.length_map])); repeat' ((first | refine at_guard (fun hb => ?_) (fun hb => ?_) | refine ⟨fun hb => ?_, fun hb => ?_⟩ | refine at_call (hck) rfl rfl ?_ | refine at_call (hnm) rfl rfl ?_ | (refine at_call hnv ?_ rfl ?_; (focus (simp [viewC, flat, viewBs, viewB, viewK, hget, htv, hlv]; done))) | (refine at_call hns ?_ rfl ?_; (focus (simp [viewC, flat, viewBs, viewB, viewK, hget, htn, hln]; done))) | refine at_call (haq) rfl rfl ?_ | refine at_call (haf) rfl rfl ?_ | fail) <;> (try (simp -implicitDefEqProofs only [go_sem, Nat.reduceAdd, Nat.reduceSub, Nat.reduceMul, Nat.reduceLT, Nat.reduceLeDiff, Nat.reduceEqDiff, Nat.reduceBEq, Int.reduceNeg, Int.reduceAdd, Int.reduceLT, Int.reduceLE, Int.reduceToNat, Int.reduceEq, Int.reduceNe, Int.reduceBEq, Int.reduceBNe, Int.reduceMul, Int.reduceSub, reduceIte, reduceCtorEq, qeaV, declsV, quantsV, freesV, statesV, symsV, nodesV, transsV, List.length_map])))
        all_goals
          refine h _ ⟨_, _, rfl, rfl, fitB ?_⟩
          clear h hck hnm hnv hns haq haf htv htn hlv hln
          simp_all
          try (intros; omega)
def rightC (q : QeaT) : Bool := fewS q && (headC q && (transC q (exprs q) standsS && symbolsC q))
end Go.Proofs.YtdfdiglnpekcpaaDoor.Ab
