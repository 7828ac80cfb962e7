/-
  batch.Joint and proctorlaw44.BatchJoint: what they hand back. No claim is proved here.
-/
import Derived.Test.YtgdlgdchdohdoaaGreatDoorQBj1
namespace Go.Proofs.YtgdlgdchdohdoaaGreatDoor.Ab
open Go
set_option linter.unusedSimpArgs false
set_option maxHeartbeats 4000000
/-- Outcomes that the law is about. -/
def OkL (l : List Oc) : Prop := l.length ≤ 12 ∧ ∀ o ∈ l, o.vs.length ≤ 100 ∧ rightV o.vs = true
def least (l : List Oc) : Nat := match l with | [] => 0 | o :: _ => leastN o.vs.length (l.map (·.vs))
theorem least_le {l : List Oc} : ∀ o ∈ l, least l ≤ o.vs.length := by
  intro o ho
  cases l with
  | nil => cases ho
  | cons x r => exact (leastN_spec ((x :: r).map (·.vs)) x.vs.length).2 _ (List.mem_map.2 ⟨o, ho, rfl⟩)
def col (l : List Oc) (k : Nat) : List Int := colV (l.map (·.vs)) k
def jointB (l : List Oc) : List Int := (List.range (least l)).map fun k => jnt (col l k)
theorem col_at {l : List Oc} {k i : Nat} {o : Oc} (h : l[i]? = some o) (hk : k < o.vs.length) : ∃ x, o.vs[k]? = some x ∧ col (l.take (i + 1)) k = col (l.take i) k ++ [x] := by
  refine ⟨o.vs[k], List.getElem?_eq_getElem hk, ?_⟩
  have e : l.take (i + 1) = l.take i ++ [o] := by
    have hl : i < l.length := (List.getElem?_eq_some_iff.1 h).1
    rw [List.take_add_one, h]
    rfl
  unfold col colV
  rw [e]
  simp [List.getElem?_eq_getElem hk]
theorem least_step {l : List Oc} {i a : Nat} {o : Oc} (h : l[i]? = some o) : leastN a ((l.take (i + 1)).map (·.vs)) = min (leastN a ((l.take i).map (·.vs))) o.vs.length := by
  have e : l.take (i + 1) = l.take i ++ [o] := by
    rw [List.take_add_one, h]
    rfl
  unfold leastN
  rw [e]
  simp
theorem aiaddr_ocs {H : List (Nat × Box)} {l : List Oc} {i : Nat} {x : Oc} (h : l[i]? = some x) : aiaddr H 5 (.seq 5 (l.map ocV)) (.int .i64 (i : Int)) = some (.eptr (ocV x) 0) :=
  aiaddr_seq _ (by omega) (by simp [h])
theorem batch_Joint_pc (l : List Oc) (hl : OkL l) : PureC Tryz.prog Gj n_batch_Joint [ocsV l] (.seq 1 ((jointB l).map iv)) := by
  obtain ⟨hlen, hok⟩ := hl
  refine pc_batch_Joint (Runs.of fun Φ h => ?_)
  unfold c_batch_Joint
  by_cases hnil : l = []
  · subst hnil
    have e0 : (((0 : Nat) : Int) == 0) = true := rfl
    (try (simp -implicitDefEqProofs only [go_sem, Nat.reduceAdd, Nat.reduceSub, Nat.reduceMul, Nat.reduceLT, Nat.reduceLeDiff, Nat.reduceEqDiff, Nat.reduceBEq, Int.reduceNeg, Int.reduceAdd, Int.reduceLT, Int.reduceLE, Int.reduceToNat, Int.reduceEq, Int.reduceNe, Int.reduceBEq, Int.reduceBNe, Int.reduceMul, Int.reduceSub, reduceIte, reduceCtorEq, ocsV, List.map_nil, e0])); repeat' ((first | refine at_guard (fun hb => ?_) (fun hb => ?_) | refine ⟨fun hb => ?_, fun hb => ?_⟩ | fail) <;> (try (simp -implicitDefEqProofs only [go_sem, Nat.reduceAdd, Nat.reduceSub, Nat.reduceMul, Nat.reduceLT, Nat.reduceLeDiff, Nat.reduceEqDiff, Nat.reduceBEq, Int.reduceNeg, Int.reduceAdd, Int.reduceLT, Int.reduceLE, Int.reduceToNat, Int.reduceEq, Int.reduceNe, Int.reduceBEq, Int.reduceBNe, Int.reduceMul, Int.reduceSub, reduceIte, reduceCtorEq, ocsV, List.map_nil, e0])))
    exact h _ ⟨_, _, rfl, rfl, .refl _⟩
  obtain ⟨o0, r, rfl⟩ : ∃ o r, l = o :: r := by
    cases l with
    | nil => exact absurd rfl hnil
    | cons o r => exact ⟨o, r, rfl⟩
  have h0 : (o0 :: r)[0]? = some o0 := rfl
  have hne : (((o0 :: r).length : Int) == 0) = false := by simp; omega
  have ha0 := aiaddr_ocs (H := []) h0
  have hL : ((o0 :: r).map ocV).length = (o0 :: r).length := List.length_map _
  generalize hll : o0 :: r = l at *
  have hleast : least l = leastN o0.vs.length (l.map (·.vs)) := by rw [← hll]; rfl
  have hpos : 0 < l.length := by rw [← hll]; simp
  have hz : ((l.length : Int) == 0) = false := by simp; omega
  have ha : ∀ H, aiaddr H 5 (.seq 5 (l.map ocV)) (.int .i64 0) = some (.eptr (ocV o0) 0) := fun H => aiaddr_seq _ (by omega) (by simp [h0])
  (try (simp -implicitDefEqProofs only [go_sem, Nat.reduceAdd, Nat.reduceSub, Nat.reduceMul, Nat.reduceLT, Nat.reduceLeDiff, Nat.reduceEqDiff, Nat.reduceBEq, Int.reduceNeg, Int.reduceAdd, Int.reduceLT, Int.reduceLE, Int.reduceToNat, Int.reduceEq, Int.reduceNe, Int.reduceBEq, Int.reduceBNe, Int.reduceMul, Int.reduceSub, reduceIte, reduceCtorEq, ocsV, List.length_map, hz, ha, ocV])); repeat' ((first | refine at_guard (fun hb => ?_) (fun hb => ?_) | refine ⟨fun hb => ?_, fun hb => ?_⟩ | fail) <;> (try (simp -implicitDefEqProofs only [go_sem, Nat.reduceAdd, Nat.reduceSub, Nat.reduceMul, Nat.reduceLT, Nat.reduceLeDiff, Nat.reduceEqDiff, Nat.reduceBEq, Int.reduceNeg, Int.reduceAdd, Int.reduceLT, Int.reduceLE, Int.reduceToNat, Int.reduceEq, Int.reduceNe, Int.reduceBEq, Int.reduceBNe, Int.reduceMul, Int.reduceSub, reduceIte, reduceCtorEq, ocsV, List.length_map, hz, ha, ocV])))
  refine at_loop (fun n st => ∃ i : Nat, i + n = l.length ∧ st = ⟨64, [(0, .seq 5 (l.map ocV)), (3, iv (leastN o0.vs.length ((l.take i).map (·.vs)) : Nat)), (19, .seq 5 (l.map ocV)), (20, iv l.length), (21, iv i)], [(2, ⟨true, t_int, 1, []⟩)]⟩) l.length ⟨0, by simp, by rfl⟩ ?_
  rintro I hI n st ⟨i, hi, rfl⟩
  simp -implicitDefEqProofs only [go_sem, Nat.reduceAdd, Nat.reduceSub, Nat.reduceMul, Nat.reduceLT, Nat.reduceLeDiff, Nat.reduceEqDiff, Nat.reduceBEq, Int.reduceNeg, Int.reduceAdd, Int.reduceLT, Int.reduceLE, Int.reduceToNat, Int.reduceEq, Int.reduceNe, Int.reduceBEq, Int.reduceBNe, Int.reduceMul, Int.reduceSub, reduceIte, reduceCtorEq]
  refine ⟨fun hlt => ?_, fun hge => ?_⟩
  · have hlt' : i < l.length := by omega
    obtain ⟨x, hx, hm⟩ := at_some hlt'
    have hw := wrap_succ hlt' (by omega)
    have hst := least_step (a := o0.vs.length) hx
    have fin : ∀ v : Int, v = (leastN o0.vs.length ((l.take (i + 1)).map (·.vs)) : Nat) → again I n ⟨64, [(0, .seq 5 (l.map ocV)), (3, iv v), (19, .seq 5 (l.map ocV)), (20, iv l.length), (21, iv (i + 1 : Nat))], [(2, ⟨true, t_int, 1, []⟩)]⟩ := by
      rintro v rfl
      exact at_again (n - 1) (by omega) (hI _ _ ⟨i + 1, by omega, rfl⟩)
    (try (simp -implicitDefEqProofs only [go_sem, Nat.reduceAdd, Nat.reduceSub, Nat.reduceMul, Nat.reduceLT, Nat.reduceLeDiff, Nat.reduceEqDiff, Nat.reduceBEq, Int.reduceNeg, Int.reduceAdd, Int.reduceLT, Int.reduceLE, Int.reduceToNat, Int.reduceEq, Int.reduceNe, Int.reduceBEq, Int.reduceBNe, Int.reduceMul, Int.reduceSub, reduceIte, reduceCtorEq, aiaddr_ocs hx, ocV, hw, List.length_map])); repeat' ((first | refine at_guard (fun hb => ?_) (fun hb => ?_) | refine ⟨fun hb => ?_, fun hb => ?_⟩ | fail) <;> (try (simp -implicitDefEqProofs only [go_sem, Nat.reduceAdd, Nat.reduceSub, Nat.reduceMul, Nat.reduceLT, Nat.reduceLeDiff, Nat.reduceEqDiff, Nat.reduceBEq, Int.reduceNeg, Int.reduceAdd, Int.reduceLT, Int.reduceLE, Int.reduceToNat, Int.reduceEq, Int.reduceNe, Int.reduceBEq, Int.reduceBNe, Int.reduceMul, Int.reduceSub, reduceIte, reduceCtorEq, aiaddr_ocs hx, ocV, hw, List.length_map])))
    refine fin _ ?_
    rw [hst]
    split <;> omega
  have hil : i = l.length := by omega
  subst hil
  rw [List.take_of_length_le (Nat.le_refl _), ← hleast]
  have hle := least_le (l := l)
  try (simp -implicitDefEqProofs only [go_sem, Nat.reduceAdd, Nat.reduceSub, Nat.reduceMul, Nat.reduceLT, Nat.reduceLeDiff, Nat.reduceEqDiff, Nat.reduceBEq, Int.reduceNeg, Int.reduceAdd, Int.reduceLT, Int.reduceLE, Int.reduceToNat, Int.reduceEq, Int.reduceNe, Int.reduceBEq, Int.reduceBNe, Int.reduceMul, Int.reduceSub, reduceIte, reduceCtorEq])
  refine at_loop (fun n st => ∃ k : Nat, k + n = least l ∧ st = ⟨64, [(0, .seq 5 (l.map ocV)), (6, .arr 6 0 k), (31, iv (least l : Nat)), (32, iv k)], [(2, ⟨true, t_int, 1, []⟩), (6, ⟨true, t_int, 1, ((List.range k).map fun j => jnt (col l j)).map iv⟩)]⟩) (least l) ⟨0, by simp, rfl⟩ ?_
  rintro I hI n st ⟨k, hk, rfl⟩
  have hk100 : least l ≤ 100 := Nat.le_trans (hle o0 (List.mem_of_getElem? h0)) (hok o0 (List.mem_of_getElem? h0)).1
  simp -implicitDefEqProofs only [go_sem, Nat.reduceAdd, Nat.reduceSub, Nat.reduceMul, Nat.reduceLT, Nat.reduceLeDiff, Nat.reduceEqDiff, Nat.reduceBEq, Int.reduceNeg, Int.reduceAdd, Int.reduceLT, Int.reduceLE, Int.reduceToNat, Int.reduceEq, Int.reduceNe, Int.reduceBEq, Int.reduceBNe, Int.reduceMul, Int.reduceSub, reduceIte, reduceCtorEq]
  refine ⟨fun hlt => ?_, fun hge => ?_⟩
  · have hlt' : k < least l := by omega
    have hw := wrap_succ hlt' (by omega)
    refine at_loop (fun n st => ∃ i : Nat, i + n = l.length ∧ st = ⟨64, [(0, .seq 5 (l.map ocV)), (6, .arr 6 0 k), (7, iv k), (8, .arr 8 0 i), (31, iv (least l : Nat)), (32, iv k), (35, .seq 5 (l.map ocV)), (36, iv l.length), (37, iv i)],
        [(2, ⟨true, t_int, 1, []⟩), (6, ⟨true, t_int, 1, ((List.range k).map fun j => jnt (col l j)).map iv⟩), (8, ⟨true, t_int, 1, (col (l.take i) k).map iv⟩)]⟩) l.length ⟨0, by simp, by simp -implicitDefEqProofs only [go_sem, Nat.reduceAdd, Nat.reduceSub, Nat.reduceMul, Nat.reduceLT, Nat.reduceLeDiff, Nat.reduceEqDiff, Nat.reduceBEq, Int.reduceNeg, Int.reduceAdd, Int.reduceLT, Int.reduceLE, Int.reduceToNat, Int.reduceEq, Int.reduceNe, Int.reduceBEq, Int.reduceBNe, Int.reduceMul, Int.reduceSub, reduceIte, reduceCtorEq, List.length_map]; rfl⟩ ?_
    rintro J hJ m st ⟨i, hi, rfl⟩
    have hcl : (col (l.take i) k).length = i := by unfold col colV; simp; omega
    simp -implicitDefEqProofs only [go_sem, Nat.reduceAdd, Nat.reduceSub, Nat.reduceMul, Nat.reduceLT, Nat.reduceLeDiff, Nat.reduceEqDiff, Nat.reduceBEq, Int.reduceNeg, Int.reduceAdd, Int.reduceLT, Int.reduceLE, Int.reduceToNat, Int.reduceEq, Int.reduceNe, Int.reduceBEq, Int.reduceBNe, Int.reduceMul, Int.reduceSub, reduceIte, reduceCtorEq]
    refine ⟨fun hlti => ?_, fun hgei => ?_⟩
    · have hlti' : i < l.length := by omega
      obtain ⟨x, hx, hm⟩ := at_some hlti'
      have hwi := wrap_succ hlti' (by omega)
      obtain ⟨v, hv, hcol⟩ := col_at hx (Nat.lt_of_lt_of_le hlt' (hle x hm))
      have hv14 := rightV_mem (hok x hm).2 v (List.mem_of_getElem? hv)
      obtain ⟨s, hs, hn⟩ := verdict_Name_pc (G := Gj) rfl v hv14
      have hb1 : (i + 1) * 8 ≤ 140737488355328 := by omega
      have hs' : s.isEmpty = false := by cases s with | nil => exact absurd rfl hs | cons => rfl
      have hse : (s == []) = false := by cases s with | nil => exact absurd rfl hs | cons => rfl
      (try (simp -implicitDefEqProofs only [go_sem, Nat.reduceAdd, Nat.reduceSub, Nat.reduceMul, Nat.reduceLT, Nat.reduceLeDiff, Nat.reduceEqDiff, Nat.reduceBEq, Int.reduceNeg, Int.reduceAdd, Int.reduceLT, Int.reduceLE, Int.reduceToNat, Int.reduceEq, Int.reduceNe, Int.reduceBEq, Int.reduceBNe, Int.reduceMul, Int.reduceSub, reduceIte, reduceCtorEq, aiaddr_ocs hx, ocV, hwi, aiaddr_map hv, List.length_map, List.length_append, hcl, hb1, Nat.mul_one, hse])); repeat' ((first | refine at_guard (fun hb => ?_) (fun hb => ?_) | refine ⟨fun hb => ?_, fun hb => ?_⟩ | refine at_call (hn) rfl rfl ?_ | fail) <;> (try (simp -implicitDefEqProofs only [go_sem, Nat.reduceAdd, Nat.reduceSub, Nat.reduceMul, Nat.reduceLT, Nat.reduceLeDiff, Nat.reduceEqDiff, Nat.reduceBEq, Int.reduceNeg, Int.reduceAdd, Int.reduceLT, Int.reduceLE, Int.reduceToNat, Int.reduceEq, Int.reduceNe, Int.reduceBEq, Int.reduceBNe, Int.reduceMul, Int.reduceSub, reduceIte, reduceCtorEq, aiaddr_ocs hx, ocV, hwi, aiaddr_map hv, List.length_map, List.length_append, hcl, hb1, Nat.mul_one, hse])))
      refine at_again (m - 1) (by omega) (hJ _ _ ⟨i + 1, by omega, ?_⟩)
      rw [hcol]
      simp
    · have hil : i = l.length := by omega
      subst hil
      have htk : l.take l.length = l := List.take_of_length_le (Nat.le_refl _)
      rw [htk] at hcl ⊢
      have hj := batch_joint_pc (G := Gj) (col l k) (by omega)
      have hb1 : (k + 1) * 8 ≤ 140737488355328 := by omega
      have htm : ((col l k).map iv).take l.length = (col l k).map iv := List.take_of_length_le (by simp [hcl])
      (try (simp -implicitDefEqProofs only [go_sem, Nat.reduceAdd, Nat.reduceSub, Nat.reduceMul, Nat.reduceLT, Nat.reduceLeDiff, Nat.reduceEqDiff, Nat.reduceBEq, Int.reduceNeg, Int.reduceAdd, Int.reduceLT, Int.reduceLE, Int.reduceToNat, Int.reduceEq, Int.reduceNe, Int.reduceBEq, Int.reduceBNe, Int.reduceMul, Int.reduceSub, reduceIte, reduceCtorEq, hw, List.length_map, List.length_append, List.length_range, hb1, Nat.mul_one])); repeat' ((first | refine at_guard (fun hb => ?_) (fun hb => ?_) | refine ⟨fun hb => ?_, fun hb => ?_⟩ | (refine at_call hj ?_ rfl ?_; (focus (simp [viewC, flat, viewBs, viewB, viewK, hget, htm, hcl]; done))) | fail) <;> (try (simp -implicitDefEqProofs only [go_sem, Nat.reduceAdd, Nat.reduceSub, Nat.reduceMul, Nat.reduceLT, Nat.reduceLeDiff, Nat.reduceEqDiff, Nat.reduceBEq, Int.reduceNeg, Int.reduceAdd, Int.reduceLT, Int.reduceLE, Int.reduceToNat, Int.reduceEq, Int.reduceNe, Int.reduceBEq, Int.reduceBNe, Int.reduceMul, Int.reduceSub, reduceIte, reduceCtorEq, hw, List.length_map, List.length_append, List.length_range, hb1, Nat.mul_one])))
      refine at_again (n - 1) (by omega) (hI _ _ ⟨k + 1, by omega, ?_⟩)
      simp [List.range_succ]
  · have hkl : k = least l := by omega
    subst hkl
    refine h _ ⟨_, _, rfl, ?_, .refl _⟩
    unfold jointB
    simp [view, hget, one, resVs, eget, List.take_of_length_le]
end Go.Proofs.YtgdlgdchdohdoaaGreatDoor.Ab
