/-
  report.Worst and proctorlaw42's example: what they hand back. No claim is proved here.
-/
import Derived.Test.YtdfdiglnpekcpaaDoorB3
namespace Go.Proofs.YtdfdiglnpekcpaaDoor.Ab
open Go
set_option linter.unusedSimpArgs false

/-- An outcome. -/
structure Oc where
  vs : List Int
  part : Int
  err : Int
  line : Int
  col : Int
def ocV (o : Oc) : AV := .agg [ivs o.vs, iv o.part, iv o.err, iv o.line, iv o.col]
def Oc.last (o : Oc) : Int := (cntAt o.vs o.vs.length).la

theorem Worst_1_pc (a b : Oc) (ha : a.vs.length < 9223372036854775807) (hb : b.vs.length < 9223372036854775807) : PureC Tryd.prog G1 n_report_Worst_1 [ocV a, ocV b] (.bool (decide (b.last < a.last))) := by
  refine pc_report_Worst_1 (Runs.of fun Φ h => ?_)
  unfold c_report_Worst_1
  simp -implicitDefEqProofs only [go_sem, Nat.reduceAdd, Nat.reduceSub, Nat.reduceMul, Nat.reduceLT, Nat.reduceLeDiff, Nat.reduceEqDiff, Nat.reduceBEq, Int.reduceNeg, Int.reduceAdd, Int.reduceLT, Int.reduceLE, Int.reduceToNat, Int.reduceEq, Int.reduceNe, Int.reduceBEq, Int.reduceBNe, Int.reduceMul, Int.reduceSub, reduceIte, reduceCtorEq, ocV, ivs]
  refine at_call (Of_pc a.vs ha) rfl rfl ?_
  simp -implicitDefEqProofs only [go_sem, Nat.reduceAdd, Nat.reduceSub, Nat.reduceMul, Nat.reduceLT, Nat.reduceLeDiff, Nat.reduceEqDiff, Nat.reduceBEq, Int.reduceNeg, Int.reduceAdd, Int.reduceLT, Int.reduceLE, Int.reduceToNat, Int.reduceEq, Int.reduceNe, Int.reduceBEq, Int.reduceBNe, Int.reduceMul, Int.reduceSub, reduceIte, reduceCtorEq, cntV]
  refine at_call (Of_pc b.vs hb) rfl rfl ?_
  simp -implicitDefEqProofs only [go_sem, Nat.reduceAdd, Nat.reduceSub, Nat.reduceMul, Nat.reduceLT, Nat.reduceLeDiff, Nat.reduceEqDiff, Nat.reduceBEq, Int.reduceNeg, Int.reduceAdd, Int.reduceLT, Int.reduceLE, Int.reduceToNat, Int.reduceEq, Int.reduceNe, Int.reduceBEq, Int.reduceBNe, Int.reduceMul, Int.reduceSub, reduceIte, reduceCtorEq, cntV]
  exact h _ ⟨_, _, rfl, rfl, .refl _⟩
def ocsV (l : List Oc) : AV := .seq 5 (l.map ocV)
theorem aiaddr_ocs {H : List (Nat × Box)} {l : List Oc} {i : Nat} {x : Oc} (h : l[i]? = some x) : aiaddr H 5 (.seq 5 (l.map ocV)) (.int .i64 (i : Int)) = some (.eptr (ocV x) 0) :=
  aiaddr_seq _ (by omega) (by simp [h])
theorem Best_Outcome_pc (bet : Oc → Oc → Bool) (f : Nat) (hf : bodyB Tryd.prog f = true) (l : List Oc) (hb : ∀ a ∈ l, ∀ b ∈ l, PureC Tryd.prog G1 f [ocV a, ocV b] (.bool (bet a b))) (hl : l.length < 9223372036854775807) :
    PureC Tryd.prog G1 n_report_Best_driver_Outcome [ocsV l, .fn f []] (iv (place (bestAt bet l l.length))) := by
  refine pc_report_Best_driver_Outcome (Runs.of fun Φ h => ?_)
  unfold c_report_Best_driver_Outcome
  simp -implicitDefEqProofs only [go_sem, Nat.reduceAdd, Nat.reduceSub, Nat.reduceMul, Nat.reduceLT, Nat.reduceLeDiff, Nat.reduceEqDiff, Nat.reduceBEq, Int.reduceNeg, Int.reduceAdd, Int.reduceLT, Int.reduceLE, Int.reduceToNat, Int.reduceEq, Int.reduceNe, Int.reduceBEq, Int.reduceBNe, Int.reduceMul, Int.reduceSub, reduceIte, reduceCtorEq, ocsV, List.length_map]
  refine at_loop (fun n st => ∃ i : Nat, i + n = l.length ∧ st = ⟨29, [(0, ocsV l), (1, .fn f []), (5, iv (place (bestAt bet l i))), (8, ocsV l), (9, iv l.length), (10, iv i)], []⟩) l.length ⟨0, by simp, rfl⟩ ?_
  rintro I hI n st ⟨i, hi, rfl⟩
  simp -implicitDefEqProofs only [go_sem, Nat.reduceAdd, Nat.reduceSub, Nat.reduceMul, Nat.reduceLT, Nat.reduceLeDiff, Nat.reduceEqDiff, Nat.reduceBEq, Int.reduceNeg, Int.reduceAdd, Int.reduceLT, Int.reduceLE, Int.reduceToNat, Int.reduceEq, Int.reduceNe, Int.reduceBEq, Int.reduceBNe, Int.reduceMul, Int.reduceSub, reduceIte, reduceCtorEq, ocsV]
  refine ⟨fun hlt => ?_, fun hge => ?_⟩
  · have hlt' : i < l.length := by omega
    obtain ⟨x, hx⟩ : ∃ x, l[i]? = some x := ⟨l[i], List.getElem?_eq_getElem hlt'⟩
    have hw : IntKind.i64.wrap ((i : Int) + 1) = ((i + 1 : Nat) : Int) := by rw [wrap_i64 (by omega) (by omega)]; omega
    have fin : ∀ v : Int, v = place (bestAt bet l (i + 1)) → again I n ⟨29, [(0, .seq 5 (l.map ocV)), (1, .fn f []), (5, iv v), (8, .seq 5 (l.map ocV)), (9, iv l.length), (10, iv (i + 1 : Nat))], []⟩ := by
      rintro v rfl
      exact at_again (n - 1) (by omega) (hI _ _ ⟨i + 1, by omega, rfl⟩)
    simp -implicitDefEqProofs only [go_sem, Nat.reduceAdd, Nat.reduceSub, Nat.reduceMul, Nat.reduceLT, Nat.reduceLeDiff, Nat.reduceEqDiff, Nat.reduceBEq, Int.reduceNeg, Int.reduceAdd, Int.reduceLT, Int.reduceLE, Int.reduceToNat, Int.reduceEq, Int.reduceNe, Int.reduceBEq, Int.reduceBNe, Int.reduceMul, Int.reduceSub, reduceIte, reduceCtorEq, aiaddr_ocs hx, ocV, ivs]
    cases hp : bestAt bet l i with
    | none =>
      have hn : bestAt bet l (i + 1) = some i := by simp [bestAt, hp]
      simp -implicitDefEqProofs only [go_sem, Nat.reduceAdd, Nat.reduceSub, Nat.reduceMul, Nat.reduceLT, Nat.reduceLeDiff, Nat.reduceEqDiff, Nat.reduceBEq, Int.reduceNeg, Int.reduceAdd, Int.reduceLT, Int.reduceLE, Int.reduceToNat, Int.reduceEq, Int.reduceNe, Int.reduceBEq, Int.reduceBNe, Int.reduceMul, Int.reduceSub, reduceIte, reduceCtorEq, place, hw, ocV, ivs]
      exact fin _ (by rw [hn]; rfl)
    | some p =>
      have hpi := bestAt_lt bet l i p hp
      obtain ⟨y, hy⟩ : ∃ y, l[p]? = some y := ⟨l[p], List.getElem?_eq_getElem (by omega)⟩
      have hn : bestAt bet l (i + 1) = if bet x y then some i else some p := by simp [bestAt, hp, hx, hy]
      have h0 : ¬ ((p : Int) < 0) := by omega
      simp -implicitDefEqProofs only [go_sem, Nat.reduceAdd, Nat.reduceSub, Nat.reduceMul, Nat.reduceLT, Nat.reduceLeDiff, Nat.reduceEqDiff, Nat.reduceBEq, Int.reduceNeg, Int.reduceAdd, Int.reduceLT, Int.reduceLE, Int.reduceToNat, Int.reduceEq, Int.reduceNe, Int.reduceBEq, Int.reduceBNe, Int.reduceMul, Int.reduceSub, reduceIte, reduceCtorEq, place, h0, aiaddr_ocs hy, ocV, ivs]
      refine ⟨hf, at_call (hb x (List.mem_of_getElem? hx) y (List.mem_of_getElem? hy)) rfl rfl ?_⟩
      cases hB : bet x y
      all_goals rw [hB] at hn
      all_goals simp -implicitDefEqProofs only [go_sem, Nat.reduceAdd, Nat.reduceSub, Nat.reduceMul, Nat.reduceLT, Nat.reduceLeDiff, Nat.reduceEqDiff, Nat.reduceBEq, Int.reduceNeg, Int.reduceAdd, Int.reduceLT, Int.reduceLE, Int.reduceToNat, Int.reduceEq, Int.reduceNe, Int.reduceBEq, Int.reduceBNe, Int.reduceMul, Int.reduceSub, reduceIte, reduceCtorEq, hw]
      all_goals exact fin _ (by rw [hn]; rfl)
  · have : i = l.length := by omega
    subst this
    exact h _ ⟨_, _, rfl, rfl, .refl _⟩
end Go.Proofs.YtdfdiglnpekcpaaDoor.Ab
