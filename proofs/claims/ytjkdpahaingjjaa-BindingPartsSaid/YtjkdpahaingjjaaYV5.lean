/-
  binding, proctorref05: what a binding has; which may be. eval, proctorref16: whether values fit. No claim is proved here.
-/
import Derived.Test.YtjkdpahaingjjaaYD8
namespace Go.Proofs.Ytjkdpahaingjjaa.Ab
open Go
set_option linter.unusedSimpArgs false
set_option maxHeartbeats 4000000
set_option maxRecDepth 100000
variable {G : Nat → Option AV}
structure SlotT where
  var : Int
  value : Val
deriving DecidableEq
def slotV (s : SlotT) : AV := .agg [iv s.var, iv s.value.kind, iv s.value.int, .str s.value.str, .bool s.value.bool]
def slotsV (l : List SlotT) : AV := .seq 5 (l.map slotV)
def valsV (l : List Val) : AV := .seq 4 (l.map valV)
/-- What a binding has for a variable. -/
def getR (l : List SlotT) (v : Int) : Val × Bool := match l.find? (fun s => s.var == v) with | some s => (s.value, true) | none => (v0, false)
def vbt (r : Val × Bool) : AV := .tup [valV r.1, .bool r.2]
theorem getR_yes {x : SlotT} {r : List SlotT} {v : Int} (h : (x.var == v) = true) : getR (x :: r) v = (x.value, true) := by simp [getR, List.find?_cons, h]
theorem getR_no {x : SlotT} {r : List SlotT} {v : Int} (h : (x.var == v) = false) : getR (x :: r) v = getR r v := by simp [getR, List.find?_cons, h]
theorem binding_Get_pc (l : List SlotT) (hl : l.length < 9223372036854775807) (v : Int) : PureC Try.prog G n_binding_Get [slotsV l, iv v] (vbt (getR l v)) := by
  refine pc_binding_Get (Runs.of fun Φ h => ?_)
  unfold c_binding_Get
  simp -implicitDefEqProofs only [go_sem, Nat.reduceAdd, Nat.reduceSub, Nat.reduceMul, Nat.reduceLT, Nat.reduceLeDiff, Nat.reduceEqDiff, Nat.reduceBEq, Int.reduceNeg, Int.reduceAdd, Int.reduceLT, Int.reduceLE, Int.reduceToNat, Int.reduceEq, Int.reduceNe, Int.reduceBEq, Int.reduceBNe, Int.reduceMul, Int.reduceSub, reduceIte, reduceCtorEq, slotsV, List.length_map]
  refine at_loop (fun n st => ∃ i : Nat, i + n = l.length ∧ st = ⟨22, [(1, iv v), (4, .ref 4 0 0), (8, .seq 5 (l.map slotV)), (9, iv l.length), (10, iv i)], [(4, ⟨false, t_api_Value, 4, [valV v0]⟩)]⟩ ∧ getR (l.drop i) v = getR l v) l.length ⟨0, by simp, rfl, rfl⟩ ?_
  rintro I hI n st ⟨i, hi, rfl, hno⟩
  simp -implicitDefEqProofs only [go_sem, Nat.reduceAdd, Nat.reduceSub, Nat.reduceMul, Nat.reduceLT, Nat.reduceLeDiff, Nat.reduceEqDiff, Nat.reduceBEq, Int.reduceNeg, Int.reduceAdd, Int.reduceLT, Int.reduceLE, Int.reduceToNat, Int.reduceEq, Int.reduceNe, Int.reduceBEq, Int.reduceBNe, Int.reduceMul, Int.reduceSub, reduceIte, reduceCtorEq]
  refine ⟨fun hlt => ?_, fun hge => ?_⟩
  · have hlt' : i < l.length := by omega
    obtain ⟨x, hx, hm⟩ := at_some hlt'
    have hw := wrap_succ hlt' (by omega)
    rw [drop_at hx] at hno
    cases hv : x.var == v with
    | true =>
      rw [getR_yes hv] at hno
      (try (simp -implicitDefEqProofs only [go_sem, Nat.reduceAdd, Nat.reduceSub, Nat.reduceMul, Nat.reduceLT, Nat.reduceLeDiff, Nat.reduceEqDiff, Nat.reduceBEq, Int.reduceNeg, Int.reduceAdd, Int.reduceLT, Int.reduceLE, Int.reduceToNat, Int.reduceEq, Int.reduceNe, Int.reduceBEq, Int.reduceBNe, Int.reduceMul, Int.reduceSub, reduceIte, reduceCtorEq, aiaddr_map hx, slotV, valV, hv])); repeat' ((first | refine at_guard (fun hb => ?_) (fun hb => ?_) | refine ⟨fun hb => ?_, fun hb => ?_⟩ | fail) <;> (try (simp -implicitDefEqProofs only [go_sem, Nat.reduceAdd, Nat.reduceSub, Nat.reduceMul, Nat.reduceLT, Nat.reduceLeDiff, Nat.reduceEqDiff, Nat.reduceBEq, Int.reduceNeg, Int.reduceAdd, Int.reduceLT, Int.reduceLE, Int.reduceToNat, Int.reduceEq, Int.reduceNe, Int.reduceBEq, Int.reduceBNe, Int.reduceMul, Int.reduceSub, reduceIte, reduceCtorEq, aiaddr_map hx, slotV, valV, hv])))
      exact h _ ⟨_, _, rfl, rfl, fit_eq (by rw [← hno]; rfl)⟩
    | false =>
      rw [getR_no hv] at hno
      (try (simp -implicitDefEqProofs only [go_sem, Nat.reduceAdd, Nat.reduceSub, Nat.reduceMul, Nat.reduceLT, Nat.reduceLeDiff, Nat.reduceEqDiff, Nat.reduceBEq, Int.reduceNeg, Int.reduceAdd, Int.reduceLT, Int.reduceLE, Int.reduceToNat, Int.reduceEq, Int.reduceNe, Int.reduceBEq, Int.reduceBNe, Int.reduceMul, Int.reduceSub, reduceIte, reduceCtorEq, aiaddr_map hx, slotV, valV, hv, hw])); repeat' ((first | refine at_guard (fun hb => ?_) (fun hb => ?_) | refine ⟨fun hb => ?_, fun hb => ?_⟩ | fail) <;> (try (simp -implicitDefEqProofs only [go_sem, Nat.reduceAdd, Nat.reduceSub, Nat.reduceMul, Nat.reduceLT, Nat.reduceLeDiff, Nat.reduceEqDiff, Nat.reduceBEq, Int.reduceNeg, Int.reduceAdd, Int.reduceLT, Int.reduceLE, Int.reduceToNat, Int.reduceEq, Int.reduceNe, Int.reduceBEq, Int.reduceBNe, Int.reduceMul, Int.reduceSub, reduceIte, reduceCtorEq, aiaddr_map hx, slotV, valV, hv, hw])))
      exact at_again (n - 1) (by omega) (hI _ _ ⟨i + 1, by omega, rfl, hno⟩)
  · have : i = l.length := by omega
    subst this
    rw [List.drop_of_length_le (Nat.le_refl _)] at hno
    simp -implicitDefEqProofs only [go_sem, Nat.reduceAdd, Nat.reduceSub, Nat.reduceMul, Nat.reduceLT, Nat.reduceLeDiff, Nat.reduceEqDiff, Nat.reduceBEq, Int.reduceNeg, Int.reduceAdd, Int.reduceLT, Int.reduceLE, Int.reduceToNat, Int.reduceEq, Int.reduceNe, Int.reduceBEq, Int.reduceBNe, Int.reduceMul, Int.reduceSub, reduceIte, reduceCtorEq, valV]
    exact h _ ⟨_, _, rfl, rfl, fit_eq (by rw [← hno]; rfl)⟩
/-- Which bindings may be. -/
def slotOk (l : List SlotT) (i : Nat) (s : SlotT) : Bool := decide (0 ≤ s.var) && (decide (s.var ≤ 7) && (s.value.ok && (i == 0 || match l[i - 1]? with | none => true | some p => decide (p.var < s.var))))
def bindOk (l : List SlotT) : Bool := allI (slotOk l) l
theorem ref05_Right_pc (l : List SlotT) (hl : l.length < 9223372036854775807) : PureC Try.prog G n_proctorref05_Right [slotsV l] (.bool (bindOk l)) := by
  refine pc_proctorref05_Right (Runs.of fun Φ h => ?_)
  unfold c_proctorref05_Right
  simp -implicitDefEqProofs only [go_sem, Nat.reduceAdd, Nat.reduceSub, Nat.reduceMul, Nat.reduceLT, Nat.reduceLeDiff, Nat.reduceEqDiff, Nat.reduceBEq, Int.reduceNeg, Int.reduceAdd, Int.reduceLT, Int.reduceLE, Int.reduceToNat, Int.reduceEq, Int.reduceNe, Int.reduceBEq, Int.reduceBNe, Int.reduceMul, Int.reduceSub, reduceIte, reduceCtorEq, slotsV, List.length_map]
  refine at_loop (fun n st => ∃ i : Nat, i + n = l.length ∧ st = ⟨51, [(0, .seq 5 (l.map slotV)), (3, iv i)], []⟩ ∧ ∀ j x, j < i → l[j]? = some x → slotOk l j x = true) l.length ⟨0, by simp, rfl, fun j x hj => by omega⟩ ?_
  rintro I hI n st ⟨i, hi, rfl, hno⟩
  simp -implicitDefEqProofs only [go_sem, Nat.reduceAdd, Nat.reduceSub, Nat.reduceMul, Nat.reduceLT, Nat.reduceLeDiff, Nat.reduceEqDiff, Nat.reduceBEq, Int.reduceNeg, Int.reduceAdd, Int.reduceLT, Int.reduceLE, Int.reduceToNat, Int.reduceEq, Int.reduceNe, Int.reduceBEq, Int.reduceBNe, Int.reduceMul, Int.reduceSub, reduceIte, reduceCtorEq, List.length_map]
  refine ⟨fun hlt => ?_, fun hge => ?_⟩
  · have hlt' : i < l.length := by omega
    obtain ⟨x, hx, hm⟩ := at_some hlt'
    have hw := wrap_succ hlt' (by omega)
    have hok := ref03_Right_pc (G := G) x.value
    have hnext : slotOk l i x = true → again I n ⟨51, [(0, .seq 5 (l.map slotV)), (3, iv (i + 1 : Nat))], []⟩ := fun hv => at_again (n - 1) (by omega) (hI _ _ ⟨i + 1, by omega, rfl, allI_step (p := slotOk l) hx hv hno⟩)
    have hbad : slotOk l i x = false → bindOk l = false := fun hv => allI_false (p := slotOk l) hx hv
    unfold slotOk at hnext hbad
    generalize bindOk l = R at *
    clear hno
    simp only [valV] at hok
    by_cases h0 : i = 0
    · subst h0
      (try (simp -implicitDefEqProofs only [go_sem, Nat.reduceAdd, Nat.reduceSub, Nat.reduceMul, Nat.reduceLT, Nat.reduceLeDiff, Nat.reduceEqDiff, Nat.reduceBEq, Int.reduceNeg, Int.reduceAdd, Int.reduceLT, Int.reduceLE, Int.reduceToNat, Int.reduceEq, Int.reduceNe, Int.reduceBEq, Int.reduceBNe, Int.reduceMul, Int.reduceSub, reduceIte, reduceCtorEq, aiaddr_map hx, slotV, valV, hw])); repeat' ((first | refine at_guard (fun hb => ?_) (fun hb => ?_) | refine ⟨fun hb => ?_, fun hb => ?_⟩ | refine at_call (hok) rfl rfl ?_ | fail) <;> (try (simp -implicitDefEqProofs only [go_sem, Nat.reduceAdd, Nat.reduceSub, Nat.reduceMul, Nat.reduceLT, Nat.reduceLeDiff, Nat.reduceEqDiff, Nat.reduceBEq, Int.reduceNeg, Int.reduceAdd, Int.reduceLT, Int.reduceLE, Int.reduceToNat, Int.reduceEq, Int.reduceNe, Int.reduceBEq, Int.reduceBNe, Int.reduceMul, Int.reduceSub, reduceIte, reduceCtorEq, aiaddr_map hx, slotV, valV, hw])))
      all_goals first
        | (refine h _ ⟨_, _, rfl, rfl, fitB (hbad ?_).symm⟩; clear h hnext hbad hok hI; simp_all; done)
        | (refine hnext ?_; clear h hnext hbad hok hI; simp_all; done)
        | (exfalso; clear h hnext hbad hok hI; simp_all; done)
        | (refine h _ ⟨_, _, rfl, rfl, fitB (hbad ?_).symm⟩; clear h hnext hbad hok hI; simp_all; omega)
        | (refine hnext ?_; clear h hnext hbad hok hI; simp_all; omega)
        | (exfalso; clear h hnext hbad hok hI; simp_all; omega)
    · obtain ⟨p, hp, _⟩ := at_some (l := l) (i := i - 1) (by omega)
      have hw1 : IntKind.i64.wrap ((i : Int) - 1) = ((i - 1 : Nat) : Int) := by rw [wrap_i64 (by omega) (by omega)]; omega
      have hpos : ((0 : Int) < (i : Int)) = True := by simp; omega
      rw [hp] at hnext hbad
      have hi0 : (i == 0) = false := by simpa using h0
      rw [hi0] at hnext hbad
      (try (simp -implicitDefEqProofs only [go_sem, Nat.reduceAdd, Nat.reduceSub, Nat.reduceMul, Nat.reduceLT, Nat.reduceLeDiff, Nat.reduceEqDiff, Nat.reduceBEq, Int.reduceNeg, Int.reduceAdd, Int.reduceLT, Int.reduceLE, Int.reduceToNat, Int.reduceEq, Int.reduceNe, Int.reduceBEq, Int.reduceBNe, Int.reduceMul, Int.reduceSub, reduceIte, reduceCtorEq, aiaddr_map hx, aiaddr_map hp, slotV, valV, hw, hw1, hpos, decide_true])); repeat' ((first | refine at_guard (fun hb => ?_) (fun hb => ?_) | refine ⟨fun hb => ?_, fun hb => ?_⟩ | refine at_call (hok) rfl rfl ?_ | fail) <;> (try (simp -implicitDefEqProofs only [go_sem, Nat.reduceAdd, Nat.reduceSub, Nat.reduceMul, Nat.reduceLT, Nat.reduceLeDiff, Nat.reduceEqDiff, Nat.reduceBEq, Int.reduceNeg, Int.reduceAdd, Int.reduceLT, Int.reduceLE, Int.reduceToNat, Int.reduceEq, Int.reduceNe, Int.reduceBEq, Int.reduceBNe, Int.reduceMul, Int.reduceSub, reduceIte, reduceCtorEq, aiaddr_map hx, aiaddr_map hp, slotV, valV, hw, hw1, hpos, decide_true])))
      all_goals first
        | (refine h _ ⟨_, _, rfl, rfl, fitB (hbad ?_).symm⟩; clear h hnext hbad hok hI; simp_all; done)
        | (refine hnext ?_; clear h hnext hbad hok hI; simp_all; done)
        | (exfalso; clear h hnext hbad hok hI; simp_all; done)
        | (refine h _ ⟨_, _, rfl, rfl, fitB (hbad ?_).symm⟩; clear h hnext hbad hok hI; simp_all; omega)
        | (refine hnext ?_; clear h hnext hbad hok hI; simp_all; omega)
        | (exfalso; clear h hnext hbad hok hI; simp_all; omega)
  · exact h _ ⟨_, _, rfl, rfl, fitB (allI_all (by omega) hno).symm⟩
end Go.Proofs.Ytjkdpahaingjjaa.Ab
