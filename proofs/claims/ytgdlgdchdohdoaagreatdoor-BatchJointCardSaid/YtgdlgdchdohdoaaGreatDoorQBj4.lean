/-
  proctorlaw44.BatchJoint: it hands back true. No claim is proved here.
-/
import Derived.Test.YtgdlgdchdohdoaaGreatDoorQBj3
namespace Go.Proofs.YtgdlgdchdohdoaaGreatDoor.Ab
open Go
set_option linter.unusedSimpArgs false
set_option maxHeartbeats 4000000
theorem least_take {l : List Oc} {i : Nat} {x : Oc} (h : l[i]? = some x) : least (l.take (i + 1)) = if i = 0 then x.vs.length else min (least (l.take i)) x.vs.length := by
  have hl : i < l.length := (List.getElem?_eq_some_iff.1 h).1
  have e : l.take (i + 1) = l.take i ++ [x] := by
    rw [List.take_add_one, h]
    rfl
  rw [e]
  split
  · rename_i h0
    subst h0
    simp [least, leastN]
  · cases hq : l.take i with
    | nil =>
      have : (l.take i).length = i := by simp; omega
      rw [hq] at this
      simp at this
      omega
    | cons o r => simp [least, leastN]
theorem law44_BatchJoint_pc (l : List Oc) : PureC Tryz.prog Gj n_proctorlaw44_BatchJoint [ocsV l] (.bool true) := by
  have haw := law44_awake_pc
  refine pc_proctorlaw44_BatchJoint (Runs.of fun Φ h => ?_)
  unfold c_proctorlaw44_BatchJoint
  by_cases h12 : (12 : Int) < l.length
  · (try (simp -implicitDefEqProofs only [go_sem, Nat.reduceAdd, Nat.reduceSub, Nat.reduceMul, Nat.reduceLT, Nat.reduceLeDiff, Nat.reduceEqDiff, Nat.reduceBEq, Int.reduceNeg, Int.reduceAdd, Int.reduceLT, Int.reduceLE, Int.reduceToNat, Int.reduceEq, Int.reduceNe, Int.reduceBEq, Int.reduceBNe, Int.reduceMul, Int.reduceSub, reduceIte, reduceCtorEq, ocsV, List.length_map, h12, decide_true])); repeat' ((first | refine at_guard (fun hb => ?_) (fun hb => ?_) | refine ⟨fun hb => ?_, fun hb => ?_⟩ | refine at_call (haw) rfl rfl ?_ | fail) <;> (try (simp -implicitDefEqProofs only [go_sem, Nat.reduceAdd, Nat.reduceSub, Nat.reduceMul, Nat.reduceLT, Nat.reduceLeDiff, Nat.reduceEqDiff, Nat.reduceBEq, Int.reduceNeg, Int.reduceAdd, Int.reduceLT, Int.reduceLE, Int.reduceToNat, Int.reduceEq, Int.reduceNe, Int.reduceBEq, Int.reduceBNe, Int.reduceMul, Int.reduceSub, reduceIte, reduceCtorEq, ocsV, List.length_map, h12, decide_true])))
    exact h _ ⟨_, _, rfl, rfl, .refl _⟩
  simp -implicitDefEqProofs only [go_sem, Nat.reduceAdd, Nat.reduceSub, Nat.reduceMul, Nat.reduceLT, Nat.reduceLeDiff, Nat.reduceEqDiff, Nat.reduceBEq, Int.reduceNeg, Int.reduceAdd, Int.reduceLT, Int.reduceLE, Int.reduceToNat, Int.reduceEq, Int.reduceNe, Int.reduceBEq, Int.reduceBNe, Int.reduceMul, Int.reduceSub, reduceIte, reduceCtorEq, ocsV, List.length_map, h12, decide_false]
  refine at_loop (fun n st => ∃ i : Nat, i + n = l.length ∧ st = ⟨88, [(0, .seq 5 (l.map ocV)), (3, iv (least (l.take i) : Nat)), (4, iv i)], []⟩ ∧ ∀ j o, j < i → l[j]? = some o → o.vs.length ≤ 100 ∧ rightV o.vs = true) l.length ⟨0, by simp, by rfl, fun j o hj => by omega⟩ ?_
  rintro I hI n st ⟨i, hi, rfl, hok⟩
  by_cases hlt : (i : Int) < l.length
  · have hlt' : i < l.length := by omega
    obtain ⟨x, hx, hm⟩ := at_some hlt'
    have hw := wrap_succ hlt' (by omega)
    by_cases c1 : (100 : Int) < x.vs.length
    · (try (simp -implicitDefEqProofs only [go_sem, Nat.reduceAdd, Nat.reduceSub, Nat.reduceMul, Nat.reduceLT, Nat.reduceLeDiff, Nat.reduceEqDiff, Nat.reduceBEq, Int.reduceNeg, Int.reduceAdd, Int.reduceLT, Int.reduceLE, Int.reduceToNat, Int.reduceEq, Int.reduceNe, Int.reduceBEq, Int.reduceBNe, Int.reduceMul, Int.reduceSub, reduceIte, reduceCtorEq, hlt, decide_true, List.length_map, aiaddr_ocs hx, ocV, c1])); repeat' ((first | refine at_guard (fun hb => ?_) (fun hb => ?_) | refine ⟨fun hb => ?_, fun hb => ?_⟩ | refine at_call (haw) rfl rfl ?_ | fail) <;> (try (simp -implicitDefEqProofs only [go_sem, Nat.reduceAdd, Nat.reduceSub, Nat.reduceMul, Nat.reduceLT, Nat.reduceLeDiff, Nat.reduceEqDiff, Nat.reduceBEq, Int.reduceNeg, Int.reduceAdd, Int.reduceLT, Int.reduceLE, Int.reduceToNat, Int.reduceEq, Int.reduceNe, Int.reduceBEq, Int.reduceBNe, Int.reduceMul, Int.reduceSub, reduceIte, reduceCtorEq, hlt, decide_true, List.length_map, aiaddr_ocs hx, ocV, c1])))
      exact h _ ⟨_, _, rfl, rfl, .refl _⟩
    have hR := ref32_Right_pc (G := Gj) x.vs (by omega)
    by_cases c2 : rightV x.vs = true
    · rw [c2] at hR
      have hst := least_take hx
      have good : ∀ j o, j < i + 1 → l[j]? = some o → o.vs.length ≤ 100 ∧ rightV o.vs = true := fun j o hj ho => by
        by_cases e : j = i
        · subst e; rw [hx] at ho; cases ho; exact ⟨by omega, c2⟩
        · exact hok j o (by omega) ho
      have fin : ∀ v : Int, v = (least (l.take (i + 1)) : Nat) → again I n ⟨88, [(0, .seq 5 (l.map ocV)), (3, iv v), (4, iv (i + 1 : Nat))], []⟩ := by
        rintro v rfl
        exact at_again (n - 1) (by omega) (hI _ _ ⟨i + 1, by omega, rfl, good⟩)
      by_cases hi0 : i = 0
      · subst hi0
        rw [if_pos rfl] at hst
        have e0 : (((0 : Nat) : Int) == 0) = true := rfl
        (try (simp -implicitDefEqProofs only [go_sem, Nat.reduceAdd, Nat.reduceSub, Nat.reduceMul, Nat.reduceLT, Nat.reduceLeDiff, Nat.reduceEqDiff, Nat.reduceBEq, Int.reduceNeg, Int.reduceAdd, Int.reduceLT, Int.reduceLE, Int.reduceToNat, Int.reduceEq, Int.reduceNe, Int.reduceBEq, Int.reduceBNe, Int.reduceMul, Int.reduceSub, reduceIte, reduceCtorEq, hlt, decide_true, decide_false, List.length_map, aiaddr_ocs hx, ocV, c1, hw, e0])); repeat' ((first | refine at_guard (fun hb => ?_) (fun hb => ?_) | refine ⟨fun hb => ?_, fun hb => ?_⟩ | refine at_call (hR) rfl rfl ?_ | fail) <;> (try (simp -implicitDefEqProofs only [go_sem, Nat.reduceAdd, Nat.reduceSub, Nat.reduceMul, Nat.reduceLT, Nat.reduceLeDiff, Nat.reduceEqDiff, Nat.reduceBEq, Int.reduceNeg, Int.reduceAdd, Int.reduceLT, Int.reduceLE, Int.reduceToNat, Int.reduceEq, Int.reduceNe, Int.reduceBEq, Int.reduceBNe, Int.reduceMul, Int.reduceSub, reduceIte, reduceCtorEq, hlt, decide_true, decide_false, List.length_map, aiaddr_ocs hx, ocV, c1, hw, e0])))
        exact fin _ (by rw [hst])
      · rw [if_neg hi0] at hst
        have e0 : ((i : Int) == 0) = false := by simp; omega
        by_cases hmin : (x.vs.length : Int) < (least (l.take i) : Nat)
        · (try (simp -implicitDefEqProofs only [go_sem, Nat.reduceAdd, Nat.reduceSub, Nat.reduceMul, Nat.reduceLT, Nat.reduceLeDiff, Nat.reduceEqDiff, Nat.reduceBEq, Int.reduceNeg, Int.reduceAdd, Int.reduceLT, Int.reduceLE, Int.reduceToNat, Int.reduceEq, Int.reduceNe, Int.reduceBEq, Int.reduceBNe, Int.reduceMul, Int.reduceSub, reduceIte, reduceCtorEq, hlt, decide_true, decide_false, List.length_map, aiaddr_ocs hx, ocV, c1, hw, e0, hmin])); repeat' ((first | refine at_guard (fun hb => ?_) (fun hb => ?_) | refine ⟨fun hb => ?_, fun hb => ?_⟩ | refine at_call (hR) rfl rfl ?_ | fail) <;> (try (simp -implicitDefEqProofs only [go_sem, Nat.reduceAdd, Nat.reduceSub, Nat.reduceMul, Nat.reduceLT, Nat.reduceLeDiff, Nat.reduceEqDiff, Nat.reduceBEq, Int.reduceNeg, Int.reduceAdd, Int.reduceLT, Int.reduceLE, Int.reduceToNat, Int.reduceEq, Int.reduceNe, Int.reduceBEq, Int.reduceBNe, Int.reduceMul, Int.reduceSub, reduceIte, reduceCtorEq, hlt, decide_true, decide_false, List.length_map, aiaddr_ocs hx, ocV, c1, hw, e0, hmin])))
          exact fin _ (by rw [hst]; omega)
        · (try (simp -implicitDefEqProofs only [go_sem, Nat.reduceAdd, Nat.reduceSub, Nat.reduceMul, Nat.reduceLT, Nat.reduceLeDiff, Nat.reduceEqDiff, Nat.reduceBEq, Int.reduceNeg, Int.reduceAdd, Int.reduceLT, Int.reduceLE, Int.reduceToNat, Int.reduceEq, Int.reduceNe, Int.reduceBEq, Int.reduceBNe, Int.reduceMul, Int.reduceSub, reduceIte, reduceCtorEq, hlt, decide_true, decide_false, List.length_map, aiaddr_ocs hx, ocV, c1, hw, e0, hmin])); repeat' ((first | refine at_guard (fun hb => ?_) (fun hb => ?_) | refine ⟨fun hb => ?_, fun hb => ?_⟩ | refine at_call (hR) rfl rfl ?_ | fail) <;> (try (simp -implicitDefEqProofs only [go_sem, Nat.reduceAdd, Nat.reduceSub, Nat.reduceMul, Nat.reduceLT, Nat.reduceLeDiff, Nat.reduceEqDiff, Nat.reduceBEq, Int.reduceNeg, Int.reduceAdd, Int.reduceLT, Int.reduceLE, Int.reduceToNat, Int.reduceEq, Int.reduceNe, Int.reduceBEq, Int.reduceBNe, Int.reduceMul, Int.reduceSub, reduceIte, reduceCtorEq, hlt, decide_true, decide_false, List.length_map, aiaddr_ocs hx, ocV, c1, hw, e0, hmin])))
          exact fin _ (by rw [hst]; omega)
    · rw [Bool.eq_false_iff.2 c2] at hR
      (try (simp -implicitDefEqProofs only [go_sem, Nat.reduceAdd, Nat.reduceSub, Nat.reduceMul, Nat.reduceLT, Nat.reduceLeDiff, Nat.reduceEqDiff, Nat.reduceBEq, Int.reduceNeg, Int.reduceAdd, Int.reduceLT, Int.reduceLE, Int.reduceToNat, Int.reduceEq, Int.reduceNe, Int.reduceBEq, Int.reduceBNe, Int.reduceMul, Int.reduceSub, reduceIte, reduceCtorEq, hlt, decide_true, decide_false, List.length_map, aiaddr_ocs hx, ocV, c1])); repeat' ((first | refine at_guard (fun hb => ?_) (fun hb => ?_) | refine ⟨fun hb => ?_, fun hb => ?_⟩ | refine at_call (hR) rfl rfl ?_ | refine at_call (haw) rfl rfl ?_ | fail) <;> (try (simp -implicitDefEqProofs only [go_sem, Nat.reduceAdd, Nat.reduceSub, Nat.reduceMul, Nat.reduceLT, Nat.reduceLeDiff, Nat.reduceEqDiff, Nat.reduceBEq, Int.reduceNeg, Int.reduceAdd, Int.reduceLT, Int.reduceLE, Int.reduceToNat, Int.reduceEq, Int.reduceNe, Int.reduceBEq, Int.reduceBNe, Int.reduceMul, Int.reduceSub, reduceIte, reduceCtorEq, hlt, decide_true, decide_false, List.length_map, aiaddr_ocs hx, ocV, c1])))
      exact h _ ⟨_, _, rfl, rfl, .refl _⟩
  have hil : i = l.length := by omega
  subst hil
  have hOk : OkL l := ⟨by omega, fun o ho => by
    obtain ⟨j, hj⟩ := List.getElem?_of_mem ho
    exact hok j o (List.getElem?_eq_some_iff.1 hj).1 hj⟩
  have hJ := batch_Joint_pc l hOk
  have hlen : (jointB l).length = least l := by simp [jointB]
  have hne : (((least l : Nat) : Int) == ((least l : Nat) : Int)) = true := by simp
  have hle := least_le (l := l)
  have h100 : least l ≤ 100 := by
    cases l with
    | nil => simp [least]
    | cons o r => exact Nat.le_trans (hle o List.mem_cons_self) (hOk.2 o List.mem_cons_self).1
  rw [List.take_of_length_le (Nat.le_refl _)]
  (try (simp -implicitDefEqProofs only [go_sem, Nat.reduceAdd, Nat.reduceSub, Nat.reduceMul, Nat.reduceLT, Nat.reduceLeDiff, Nat.reduceEqDiff, Nat.reduceBEq, Int.reduceNeg, Int.reduceAdd, Int.reduceLT, Int.reduceLE, Int.reduceToNat, Int.reduceEq, Int.reduceNe, Int.reduceBEq, Int.reduceBNe, Int.reduceMul, Int.reduceSub, reduceIte, reduceCtorEq, hlt, decide_false, List.length_map, ocsV, hlen, bne, hne])); repeat' ((first | refine at_guard (fun hb => ?_) (fun hb => ?_) | refine ⟨fun hb => ?_, fun hb => ?_⟩ | refine at_call (hJ) rfl rfl ?_ | fail) <;> (try (simp -implicitDefEqProofs only [go_sem, Nat.reduceAdd, Nat.reduceSub, Nat.reduceMul, Nat.reduceLT, Nat.reduceLeDiff, Nat.reduceEqDiff, Nat.reduceBEq, Int.reduceNeg, Int.reduceAdd, Int.reduceLT, Int.reduceLE, Int.reduceToNat, Int.reduceEq, Int.reduceNe, Int.reduceBEq, Int.reduceBNe, Int.reduceMul, Int.reduceSub, reduceIte, reduceCtorEq, hlt, decide_false, List.length_map, ocsV, hlen, bne, hne])))
  refine at_loop (fun n st => ∃ k : Nat, k + n = least l ∧ st = ⟨88, [(0, .seq 5 (l.map ocV)), (3, iv (least l : Nat)), (5, .seq 1 ((jointB l).map iv)), (6, iv k)], []⟩) (least l) ⟨0, by simp, rfl⟩ ?_
  rintro I hI n st ⟨k, hk, rfl⟩
  by_cases hlt : (k : Int) < (least l : Nat)
  · have hlt' : k < least l := by omega
    have hw := wrap_succ hlt' (by omega)
    simp -implicitDefEqProofs only [go_sem, Nat.reduceAdd, Nat.reduceSub, Nat.reduceMul, Nat.reduceLT, Nat.reduceLeDiff, Nat.reduceEqDiff, Nat.reduceBEq, Int.reduceNeg, Int.reduceAdd, Int.reduceLT, Int.reduceLE, Int.reduceToNat, Int.reduceEq, Int.reduceNe, Int.reduceBEq, Int.reduceBNe, Int.reduceMul, Int.reduceSub, reduceIte, reduceCtorEq, hlt, decide_true]
    refine at_loop (fun n st => ∃ i : Nat, i + n = l.length ∧ st = ⟨88, [(0, .seq 5 (l.map ocV)), (3, iv (least l : Nat)), (5, .seq 1 ((jointB l).map iv)), (6, iv k), (7, iv ((col (l.take i) k).foldl max 1)), (8, iv i)], []⟩) l.length ⟨0, by simp, by rfl⟩ ?_
    rintro J hJ m st ⟨i, hi, rfl⟩
    by_cases hlti : (i : Int) < l.length
    · have hlti' : i < l.length := by omega
      obtain ⟨x, hx, hm⟩ := at_some hlti'
      have hwi := wrap_succ hlti' (by omega)
      obtain ⟨v, hv, hcol⟩ := col_at hx (Nat.lt_of_lt_of_le hlt' (hle x hm))
      have fin : ∀ u : Int, u = (col (l.take (i + 1)) k).foldl max 1 → again J m ⟨88, [(0, .seq 5 (l.map ocV)), (3, iv (least l : Nat)), (5, .seq 1 ((jointB l).map iv)), (6, iv k), (7, iv u), (8, iv (i + 1 : Nat))], []⟩ := by
        rintro u rfl
        exact at_again (m - 1) (by omega) (hJ _ _ ⟨i + 1, by omega, rfl⟩)
      (try (simp -implicitDefEqProofs only [go_sem, Nat.reduceAdd, Nat.reduceSub, Nat.reduceMul, Nat.reduceLT, Nat.reduceLeDiff, Nat.reduceEqDiff, Nat.reduceBEq, Int.reduceNeg, Int.reduceAdd, Int.reduceLT, Int.reduceLE, Int.reduceToNat, Int.reduceEq, Int.reduceNe, Int.reduceBEq, Int.reduceBNe, Int.reduceMul, Int.reduceSub, reduceIte, reduceCtorEq, hlti, decide_true, List.length_map, aiaddr_ocs hx, ocV, hwi, aiaddr_map hv])); repeat' ((first | refine at_guard (fun hb => ?_) (fun hb => ?_) | refine ⟨fun hb => ?_, fun hb => ?_⟩ | fail) <;> (try (simp -implicitDefEqProofs only [go_sem, Nat.reduceAdd, Nat.reduceSub, Nat.reduceMul, Nat.reduceLT, Nat.reduceLeDiff, Nat.reduceEqDiff, Nat.reduceBEq, Int.reduceNeg, Int.reduceAdd, Int.reduceLT, Int.reduceLE, Int.reduceToNat, Int.reduceEq, Int.reduceNe, Int.reduceBEq, Int.reduceBNe, Int.reduceMul, Int.reduceSub, reduceIte, reduceCtorEq, hlti, decide_true, List.length_map, aiaddr_ocs hx, ocV, hwi, aiaddr_map hv])))
      refine fin _ ?_
      rw [hcol, List.foldl_append]
      simp only [List.foldl_cons, List.foldl_nil]
      split <;> omega
    · have hil : i = l.length := by omega
      subst hil
      have htk : l.take l.length = l := List.take_of_length_le (Nat.le_refl _)
      rw [htk]
      have hjk : (jointB l)[k]? = some ((col l k).foldl max 1) := by
        rw [← jnt_max (col l k) (colV_right fun q hq => by
          obtain ⟨o, ho, rfl⟩ := List.mem_map.1 hq
          exact ⟨Nat.lt_of_lt_of_le hlt' (hle o ho), rightV_mem (hOk.2 o ho).2⟩)]
        simp [jointB, hlt']
      (try (simp -implicitDefEqProofs only [go_sem, Nat.reduceAdd, Nat.reduceSub, Nat.reduceMul, Nat.reduceLT, Nat.reduceLeDiff, Nat.reduceEqDiff, Nat.reduceBEq, Int.reduceNeg, Int.reduceAdd, Int.reduceLT, Int.reduceLE, Int.reduceToNat, Int.reduceEq, Int.reduceNe, Int.reduceBEq, Int.reduceBNe, Int.reduceMul, Int.reduceSub, reduceIte, reduceCtorEq, hlti, decide_false, List.length_map, aiaddr_map hjk, hw, bne, beq_self_eq_true])); repeat' ((first | refine at_guard (fun hb => ?_) (fun hb => ?_) | refine ⟨fun hb => ?_, fun hb => ?_⟩ | fail) <;> (try (simp -implicitDefEqProofs only [go_sem, Nat.reduceAdd, Nat.reduceSub, Nat.reduceMul, Nat.reduceLT, Nat.reduceLeDiff, Nat.reduceEqDiff, Nat.reduceBEq, Int.reduceNeg, Int.reduceAdd, Int.reduceLT, Int.reduceLE, Int.reduceToNat, Int.reduceEq, Int.reduceNe, Int.reduceBEq, Int.reduceBNe, Int.reduceMul, Int.reduceSub, reduceIte, reduceCtorEq, hlti, decide_false, List.length_map, aiaddr_map hjk, hw, bne, beq_self_eq_true])))
      exact at_again (n - 1) (by omega) (hI _ _ ⟨k + 1, by omega, rfl⟩)
  · (try (simp -implicitDefEqProofs only [go_sem, Nat.reduceAdd, Nat.reduceSub, Nat.reduceMul, Nat.reduceLT, Nat.reduceLeDiff, Nat.reduceEqDiff, Nat.reduceBEq, Int.reduceNeg, Int.reduceAdd, Int.reduceLT, Int.reduceLE, Int.reduceToNat, Int.reduceEq, Int.reduceNe, Int.reduceBEq, Int.reduceBNe, Int.reduceMul, Int.reduceSub, reduceIte, reduceCtorEq, hlt, decide_false])); repeat' ((first | refine at_guard (fun hb => ?_) (fun hb => ?_) | refine ⟨fun hb => ?_, fun hb => ?_⟩ | refine at_call (haw) rfl rfl ?_ | fail) <;> (try (simp -implicitDefEqProofs only [go_sem, Nat.reduceAdd, Nat.reduceSub, Nat.reduceMul, Nat.reduceLT, Nat.reduceLeDiff, Nat.reduceEqDiff, Nat.reduceBEq, Int.reduceNeg, Int.reduceAdd, Int.reduceLT, Int.reduceLE, Int.reduceToNat, Int.reduceEq, Int.reduceNe, Int.reduceBEq, Int.reduceBNe, Int.reduceMul, Int.reduceSub, reduceIte, reduceCtorEq, hlt, decide_false])))
    exact h _ ⟨_, _, rfl, rfl, .refl _⟩
end Go.Proofs.YtgdlgdchdohdoaaGreatDoor.Ab
