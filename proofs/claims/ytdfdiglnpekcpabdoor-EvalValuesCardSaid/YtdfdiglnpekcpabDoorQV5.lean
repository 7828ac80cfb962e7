/-
  binding, proctorref05: what a binding has; which may be. eval, proctorref16: whether values fit. No claim is proved here.
-/
import Derived.Test.YtdfdiglnpekcpabDoorQV4
import Derived.Test.YtdfdiglnpekcpabDoorQD8
namespace Go.Proofs.YtdfdiglnpekcpabDoor.Ab
open Go
set_option linter.unusedSimpArgs false
set_option maxHeartbeats 4000000
set_option maxRecDepth 100000
variable {G : Nat → Option AV}
structure SlotT where
  var : Int
  value : Val
deriving DecidableEq
def slotV (s : SlotT) : AV := .agg [iv s.var, iv s.value.kind, iv s.value.int, .str s.value.str, .bool s.value.bool]
def slotsV (l : List SlotT) : AV := .seq 5 (l.map slotV)
def valsV (l : List Val) : AV := .seq 4 (l.map valV)
/-- What a binding has for a variable. -/
def getR (l : List SlotT) (v : Int) : Val × Bool := match l.find? (fun s => s.var == v) with | some s => (s.value, true) | none => (v0, false)
def vbt (r : Val × Bool) : AV := .tup [valV r.1, .bool r.2]
theorem getR_yes {x : SlotT} {r : List SlotT} {v : Int} (h : (x.var == v) = true) : getR (x :: r) v = (x.value, true) := by simp [getR, List.find?_cons, h]
theorem getR_no {x : SlotT} {r : List SlotT} {v : Int} (h : (x.var == v) = false) : getR (x :: r) v = getR r v := by simp [getR, List.find?_cons, h]
theorem binding_Get_pc (l : List SlotT) (hl : l.length < 9223372036854775807) (v : Int) : PureC Tryd.prog G n_binding_Get [slotsV l, iv v] (vbt (getR l v)) := by
  refine pc_binding_Get (Runs.of fun Φ h => ?_)
  unfold c_binding_Get
  simp -implicitDefEqProofs only [go_sem, Nat.reduceAdd, Nat.reduceSub, Nat.reduceMul, Nat.reduceLT, Nat.reduceLeDiff, Nat.reduceEqDiff, Nat.reduceBEq, Int.reduceNeg, Int.reduceAdd, Int.reduceLT, Int.reduceLE, Int.reduceToNat, Int.reduceEq, Int.reduceNe, Int.reduceBEq, Int.reduceBNe, Int.reduceMul, Int.reduceSub, reduceIte, reduceCtorEq, slotsV, List.length_map]
  refine at_loop (fun n st => ∃ i : Nat, i + n = l.length ∧ st = ⟨22, [(1, iv v), (4, .ref 4 0 0), (8, .seq 5 (l.map slotV)), (9, iv l.length), (10, iv i)], [(4, ⟨false, t_api_Value, 4, [valV v0]⟩)]⟩ ∧ getR (l.drop i) v = getR l v) l.length ⟨0, by simp, rfl, rfl⟩ ?_
  rintro I hI n st ⟨i, hi, rfl, hno⟩
  simp -implicitDefEqProofs only [go_sem, Nat.reduceAdd, Nat.reduceSub, Nat.reduceMul, Nat.reduceLT, Nat.reduceLeDiff, Nat.reduceEqDiff, Nat.reduceBEq, Int.reduceNeg, Int.reduceAdd, Int.reduceLT, Int.reduceLE, Int.reduceToNat, Int.reduceEq, Int.reduceNe, Int.reduceBEq, Int.reduceBNe, Int.reduceMul, Int.reduceSub, reduceIte, reduceCtorEq]
  refine ⟨fun hlt => ?_, fun hge => ?_⟩
  · have hlt' : i < l.length := by omega
    obtain ⟨x, hx, hm⟩ := at_some hlt'
    have hw := wrap_succ hlt' (by omega)
    rw [drop_at hx] at hno
    cases hv : x.var == v with
    | true =>
      rw [getR_yes hv] at hno
      (try (simp -implicitDefEqProofs only [go_sem, Nat.reduceAdd, Nat.reduceSub, Nat.reduceMul, Nat.reduceLT, Nat.reduceLeDiff, Nat.reduceEqDiff, Nat.reduceBEq, Int.reduceNeg, Int.reduceAdd, Int.reduceLT, Int.reduceLE, Int.reduceToNat, Int.reduceEq, Int.reduceNe, Int.reduceBEq, Int.reduceBNe, Int.reduceMul, Int.reduceSub, reduceIte, reduceCtorEq, aiaddr_map hx, slotV, valV, hv])); repeat' ((first | refine at_guard (fun hb => ?_) (fun hb => ?_) | refine ⟨fun hb => ?_, fun hb => ?_⟩ | fail) <;> (try (simp -implicitDefEqProofs only [go_sem, Nat.reduceAdd, Nat.reduceSub, Nat.reduceMul, Nat.reduceLT, Nat.reduceLeDiff, Nat.reduceEqDiff, Nat.reduceBEq, Int.reduceNeg, Int.reduceAdd, Int.reduceLT, Int.reduceLE, Int.reduceToNat, Int.reduceEq, Int.reduceNe, Int.reduceBEq, Int.reduceBNe, Int.reduceMul, Int.reduceSub, reduceIte, reduceCtorEq, aiaddr_map hx, slotV, valV, hv])))
      exact h _ ⟨_, _, rfl, rfl, fit_eq (by rw [← hno]; rfl)⟩
    | false =>
      rw [getR_no hv] at hno
      (try (simp -implicitDefEqProofs only [go_sem, Nat.reduceAdd, Nat.reduceSub, Nat.reduceMul, Nat.reduceLT, Nat.reduceLeDiff, Nat.reduceEqDiff, Nat.reduceBEq, Int.reduceNeg, Int.reduceAdd, Int.reduceLT, Int.reduceLE, Int.reduceToNat, Int.reduceEq, Int.reduceNe, Int.reduceBEq, Int.reduceBNe, Int.reduceMul, Int.reduceSub, reduceIte, reduceCtorEq, aiaddr_map hx, slotV, valV, hv, hw])); repeat' ((first | refine at_guard (fun hb => ?_) (fun hb => ?_) | refine ⟨fun hb => ?_, fun hb => ?_⟩ | fail) <;> (try (simp -implicitDefEqProofs only [go_sem, Nat.reduceAdd, Nat.reduceSub, Nat.reduceMul, Nat.reduceLT, Nat.reduceLeDiff, Nat.reduceEqDiff, Nat.reduceBEq, Int.reduceNeg, Int.reduceAdd, Int.reduceLT, Int.reduceLE, Int.reduceToNat, Int.reduceEq, Int.reduceNe, Int.reduceBEq, Int.reduceBNe, Int.reduceMul, Int.reduceSub, reduceIte, reduceCtorEq, aiaddr_map hx, slotV, valV, hv, hw])))
      exact at_again (n - 1) (by omega) (hI _ _ ⟨i + 1, by omega, rfl, hno⟩)
  · have : i = l.length := by omega
    subst this
    rw [List.drop_of_length_le (Nat.le_refl _)] at hno
    simp -implicitDefEqProofs only [go_sem, Nat.reduceAdd, Nat.reduceSub, Nat.reduceMul, Nat.reduceLT, Nat.reduceLeDiff, Nat.reduceEqDiff, Nat.reduceBEq, Int.reduceNeg, Int.reduceAdd, Int.reduceLT, Int.reduceLE, Int.reduceToNat, Int.reduceEq, Int.reduceNe, Int.reduceBEq, Int.reduceBNe, Int.reduceMul, Int.reduceSub, reduceIte, reduceCtorEq, valV]
    exact h _ ⟨_, _, rfl, rfl, fit_eq (by rw [← hno]; rfl)⟩
theorem ref05_Get_pc (l : List SlotT) (hl : l.length < 9223372036854775807) (v : Int) : PureC Tryd.prog G n_proctorref05_Get [slotsV l, iv v] (vbt (getR l v)) := by
  refine pc_proctorref05_Get (Runs.of fun Φ h => ?_)
  unfold c_proctorref05_Get
  simp -implicitDefEqProofs only [go_sem, Nat.reduceAdd, Nat.reduceSub, Nat.reduceMul, Nat.reduceLT, Nat.reduceLeDiff, Nat.reduceEqDiff, Nat.reduceBEq, Int.reduceNeg, Int.reduceAdd, Int.reduceLT, Int.reduceLE, Int.reduceToNat, Int.reduceEq, Int.reduceNe, Int.reduceBEq, Int.reduceBNe, Int.reduceMul, Int.reduceSub, reduceIte, reduceCtorEq, slotsV, List.length_map]
  refine at_loop (fun n st => ∃ i : Nat, i + n = l.length ∧ st = ⟨26, [(0, .seq 5 (l.map slotV)), (1, iv v), (4, .ref 4 0 0), (6, iv i)], [(4, ⟨false, t_api_Value, 4, [valV v0]⟩)]⟩ ∧ getR (l.drop i) v = getR l v) l.length ⟨0, by simp, rfl, rfl⟩ ?_
  rintro I hI n st ⟨i, hi, rfl, hno⟩
  simp -implicitDefEqProofs only [go_sem, Nat.reduceAdd, Nat.reduceSub, Nat.reduceMul, Nat.reduceLT, Nat.reduceLeDiff, Nat.reduceEqDiff, Nat.reduceBEq, Int.reduceNeg, Int.reduceAdd, Int.reduceLT, Int.reduceLE, Int.reduceToNat, Int.reduceEq, Int.reduceNe, Int.reduceBEq, Int.reduceBNe, Int.reduceMul, Int.reduceSub, reduceIte, reduceCtorEq, List.length_map]
  refine ⟨fun hlt => ?_, fun hge => ?_⟩
  · have hlt' : i < l.length := by omega
    obtain ⟨x, hx, hm⟩ := at_some hlt'
    have hw := wrap_succ hlt' (by omega)
    rw [drop_at hx] at hno
    cases hv : x.var == v with
    | true =>
      rw [getR_yes hv] at hno
      (try (simp -implicitDefEqProofs only [go_sem, Nat.reduceAdd, Nat.reduceSub, Nat.reduceMul, Nat.reduceLT, Nat.reduceLeDiff, Nat.reduceEqDiff, Nat.reduceBEq, Int.reduceNeg, Int.reduceAdd, Int.reduceLT, Int.reduceLE, Int.reduceToNat, Int.reduceEq, Int.reduceNe, Int.reduceBEq, Int.reduceBNe, Int.reduceMul, Int.reduceSub, reduceIte, reduceCtorEq, aiaddr_map hx, slotV, valV, hv])); repeat' ((first | refine at_guard (fun hb => ?_) (fun hb => ?_) | refine ⟨fun hb => ?_, fun hb => ?_⟩ | fail) <;> (try (simp -implicitDefEqProofs only [go_sem, Nat.reduceAdd, Nat.reduceSub, Nat.reduceMul, Nat.reduceLT, Nat.reduceLeDiff, Nat.reduceEqDiff, Nat.reduceBEq, Int.reduceNeg, Int.reduceAdd, Int.reduceLT, Int.reduceLE, Int.reduceToNat, Int.reduceEq, Int.reduceNe, Int.reduceBEq, Int.reduceBNe, Int.reduceMul, Int.reduceSub, reduceIte, reduceCtorEq, aiaddr_map hx, slotV, valV, hv])))
      exact h _ ⟨_, _, rfl, rfl, fit_eq (by rw [← hno]; rfl)⟩
    | false =>
      rw [getR_no hv] at hno
      (try (simp -implicitDefEqProofs only [go_sem, Nat.reduceAdd, Nat.reduceSub, Nat.reduceMul, Nat.reduceLT, Nat.reduceLeDiff, Nat.reduceEqDiff, Nat.reduceBEq, Int.reduceNeg, Int.reduceAdd, Int.reduceLT, Int.reduceLE, Int.reduceToNat, Int.reduceEq, Int.reduceNe, Int.reduceBEq, Int.reduceBNe, Int.reduceMul, Int.reduceSub, reduceIte, reduceCtorEq, aiaddr_map hx, slotV, valV, hv, hw])); repeat' ((first | refine at_guard (fun hb => ?_) (fun hb => ?_) | refine ⟨fun hb => ?_, fun hb => ?_⟩ | fail) <;> (try (simp -implicitDefEqProofs only [go_sem, Nat.reduceAdd, Nat.reduceSub, Nat.reduceMul, Nat.reduceLT, Nat.reduceLeDiff, Nat.reduceEqDiff, Nat.reduceBEq, Int.reduceNeg, Int.reduceAdd, Int.reduceLT, Int.reduceLE, Int.reduceToNat, Int.reduceEq, Int.reduceNe, Int.reduceBEq, Int.reduceBNe, Int.reduceMul, Int.reduceSub, reduceIte, reduceCtorEq, aiaddr_map hx, slotV, valV, hv, hw])))
      exact at_again (n - 1) (by omega) (hI _ _ ⟨i + 1, by omega, rfl, hno⟩)
  · have : i = l.length := by omega
    subst this
    rw [List.drop_of_length_le (Nat.le_refl _)] at hno
    simp -implicitDefEqProofs only [go_sem, Nat.reduceAdd, Nat.reduceSub, Nat.reduceMul, Nat.reduceLT, Nat.reduceLeDiff, Nat.reduceEqDiff, Nat.reduceBEq, Int.reduceNeg, Int.reduceAdd, Int.reduceLT, Int.reduceLE, Int.reduceToNat, Int.reduceEq, Int.reduceNe, Int.reduceBEq, Int.reduceBNe, Int.reduceMul, Int.reduceSub, reduceIte, reduceCtorEq, valV]
    exact h _ ⟨_, _, rfl, rfl, fit_eq (by rw [← hno]; rfl)⟩
/-- Which bindings may be. -/
def slotOk (l : List SlotT) (i : Nat) (s : SlotT) : Bool := decide (0 ≤ s.var) && (decide (s.var ≤ 7) && (s.value.ok && (i == 0 || match l[i - 1]? with | none => true | some p => decide (p.var < s.var))))
def bindOk (l : List SlotT) : Bool := allI (slotOk l) l
theorem ref05_Right_pc (l : List SlotT) (hl : l.length < 9223372036854775807) : PureC Tryd.prog G n_proctorref05_Right [slotsV l] (.bool (bindOk l)) := by
  refine pc_proctorref05_Right (Runs.of fun Φ h => ?_)
  unfold c_proctorref05_Right
  simp -implicitDefEqProofs only [go_sem, Nat.reduceAdd, Nat.reduceSub, Nat.reduceMul, Nat.reduceLT, Nat.reduceLeDiff, Nat.reduceEqDiff, Nat.reduceBEq, Int.reduceNeg, Int.reduceAdd, Int.reduceLT, Int.reduceLE, Int.reduceToNat, Int.reduceEq, Int.reduceNe, Int.reduceBEq, Int.reduceBNe, Int.reduceMul, Int.reduceSub, reduceIte, reduceCtorEq, slotsV, List.length_map]
  refine at_loop (fun n st => ∃ i : Nat, i + n = l.length ∧ st = ⟨51, [(0, .seq 5 (l.map slotV)), (3, iv i)], []⟩ ∧ ∀ j x, j < i → l[j]? = some x → slotOk l j x = true) l.length ⟨0, by simp, rfl, fun j x hj => by omega⟩ ?_
  rintro I hI n st ⟨i, hi, rfl, hno⟩
  simp -implicitDefEqProofs only [go_sem, Nat.reduceAdd, Nat.reduceSub, Nat.reduceMul, Nat.reduceLT, Nat.reduceLeDiff, Nat.reduceEqDiff, Nat.reduceBEq, Int.reduceNeg, Int.reduceAdd, Int.reduceLT, Int.reduceLE, Int.reduceToNat, Int.reduceEq, Int.reduceNe, Int.reduceBEq, Int.reduceBNe, Int.reduceMul, Int.reduceSub, reduceIte, reduceCtorEq, List.length_map]
  refine ⟨fun hlt => ?_, fun hge => ?_⟩
  · have hlt' : i < l.length := by omega
    obtain ⟨x, hx, hm⟩ := at_some hlt'
    have hw := wrap_succ hlt' (by omega)
    have hok := ref03_Right_pc (G := G) x.value
    have hnext : slotOk l i x = true → again I n ⟨51, [(0, .seq 5 (l.map slotV)), (3, iv (i + 1 : Nat))], []⟩ := fun hv => at_again (n - 1) (by omega) (hI _ _ ⟨i + 1, by omega, rfl, allI_step (p := slotOk l) hx hv hno⟩)
    have hbad : slotOk l i x = false → bindOk l = false := fun hv => allI_false (p := slotOk l) hx hv
    unfold slotOk at hnext hbad
    generalize bindOk l = R at *
    clear hno
    simp only [valV] at hok
    by_cases h0 : i = 0
    · subst h0
      (try (simp -implicitDefEqProofs only [go_sem, Nat.reduceAdd, Nat.reduceSub, Nat.reduceMul, Nat.reduceLT, Nat.reduceLeDiff, Nat.reduceEqDiff, Nat.reduceBEq, Int.reduceNeg, Int.reduceAdd, Int.reduceLT, Int.reduceLE, Int.reduceToNat, Int.reduceEq, Int.reduceNe, Int.reduceBEq, Int.reduceBNe, Int.reduceMul, Int.reduceSub, reduceIte, reduceCtorEq, aiaddr_map hx, slotV, valV, hw])); repeat' ((first | refine at_guard (fun hb => ?_) (fun hb => ?_) | refine ⟨fun hb => ?_, fun hb => ?_⟩ | refine at_call (hok) rfl rfl ?_ | fail) <;> (try (simp -implicitDefEqProofs only [go_sem, Nat.reduceAdd, Nat.reduceSub, Nat.reduceMul, Nat.reduceLT, Nat.reduceLeDiff, Nat.reduceEqDiff, Nat.reduceBEq, Int.reduceNeg, Int.reduceAdd, Int.reduceLT, Int.reduceLE, Int.reduceToNat, Int.reduceEq, Int.reduceNe, Int.reduceBEq, Int.reduceBNe, Int.reduceMul, Int.reduceSub, reduceIte, reduceCtorEq, aiaddr_map hx, slotV, valV, hw])))
      all_goals first
        | (refine h _ ⟨_, _, rfl, rfl, fitB (hbad ?_).symm⟩; clear h hnext hbad hok hI; simp_all; done)
        | (refine hnext ?_; clear h hnext hbad hok hI; simp_all; done)
        | (exfalso; clear h hnext hbad hok hI; simp_all; done)
        | (refine h _ ⟨_, _, rfl, rfl, fitB (hbad ?_).symm⟩; clear h hnext hbad hok hI; simp_all; omega)
        | (refine hnext ?_; clear h hnext hbad hok hI; simp_all; omega)
        | (exfalso; clear h hnext hbad hok hI; simp_all; omega)
    · obtain ⟨p, hp, _⟩ := at_some (l := l) (i := i - 1) (by omega)
      have hw1 : IntKind.i64.wrap ((i : Int) - 1) = ((i - 1 : Nat) : Int) := by rw [wrap_i64 (by omega) (by omega)]; omega
      have hpos : ((0 : Int) < (i : Int)) = True := by simp; omega
      rw [hp] at hnext hbad
      have hi0 : (i == 0) = false := by simpa using h0
      rw [hi0] at hnext hbad
      (try (simp -implicitDefEqProofs only [go_sem, Nat.reduceAdd, Nat.reduceSub, Nat.reduceMul, Nat.reduceLT, Nat.reduceLeDiff, Nat.reduceEqDiff, Nat.reduceBEq, Int.reduceNeg, Int.reduceAdd, Int.reduceLT, Int.reduceLE, Int.reduceToNat, Int.reduceEq, Int.reduceNe, Int.reduceBEq, Int.reduceBNe, Int.reduceMul, Int.reduceSub, reduceIte, reduceCtorEq, aiaddr_map hx, aiaddr_map hp, slotV, valV, hw, hw1, hpos, decide_true])); repeat' ((first | refine at_guard (fun hb => ?_) (fun hb => ?_) | refine ⟨fun hb => ?_, fun hb => ?_⟩ | refine at_call (hok) rfl rfl ?_ | fail) <;> (try (simp -implicitDefEqProofs only [go_sem, Nat.reduceAdd, Nat.reduceSub, Nat.reduceMul, Nat.reduceLT, Nat.reduceLeDiff, Nat.reduceEqDiff, Nat.reduceBEq, Int.reduceNeg, Int.reduceAdd, Int.reduceLT, Int.reduceLE, Int.reduceToNat, Int.reduceEq, Int.reduceNe, Int.reduceBEq, Int.reduceBNe, Int.reduceMul, Int.reduceSub, reduceIte, reduceCtorEq, aiaddr_map hx, aiaddr_map hp, slotV, valV, hw, hw1, hpos, decide_true])))
      all_goals first
        | (refine h _ ⟨_, _, rfl, rfl, fitB (hbad ?_).symm⟩; clear h hnext hbad hok hI; simp_all; done)
        | (refine hnext ?_; clear h hnext hbad hok hI; simp_all; done)
        | (exfalso; clear h hnext hbad hok hI; simp_all; done)
        | (refine h _ ⟨_, _, rfl, rfl, fitB (hbad ?_).symm⟩; clear h hnext hbad hok hI; simp_all; omega)
        | (refine hnext ?_; clear h hnext hbad hok hI; simp_all; omega)
        | (exfalso; clear h hnext hbad hok hI; simp_all; omega)
  · exact h _ ⟨_, _, rfl, rfl, fitB (allI_all (by omega) hno).symm⟩
/-- Do values fit free variables? -/
def fitOne (v : Val) (f : FreeT) : Bool := v.ok && v.kind == f.init.kind
def fitsR (vals : List Val) (l : List FreeT) : Bool := vals.length == l.length && (vals.zip l).all fun x => fitOne x.1 x.2
theorem fitsR_len {vals : List Val} {l : List FreeT} (h : ¬ vals.length = l.length) : fitsR vals l = false := by simp [fitsR, h]
theorem fitsR_false {vals : List Val} {l : List FreeT} {i : Nat} {v : Val} {f : FreeT} (hv : vals[i]? = some v) (hf : l[i]? = some f) (h : fitOne v f = false) : fitsR vals l = false := by
  unfold fitsR
  rw [Bool.and_eq_false_iff]
  right
  rw [List.all_eq_false]
  exact ⟨(v, f), List.mem_of_getElem? (i := i) (by rw [List.getElem?_zip_eq_some]; exact ⟨hv, hf⟩), by simp [h]⟩
theorem fitsR_true {vals : List Val} {l : List FreeT} (hl : vals.length = l.length) (h : ∀ (i : Nat) v f, vals[i]? = some v → l[i]? = some f → fitOne v f = true) : fitsR vals l = true := by
  unfold fitsR
  rw [Bool.and_eq_true]
  refine ⟨by simpa using hl, ?_⟩
  rw [List.all_eq_true]
  rintro ⟨v, f⟩ hm
  obtain ⟨i, hi⟩ := List.getElem?_of_mem hm
  rw [List.getElem?_zip_eq_some] at hi
  exact h i v f hi.1 hi.2
theorem fitsR_at {vals : List Val} {l : List FreeT} (h : fitsR vals l = true) : vals.length = l.length ∧ ∀ (i : Nat) v f, vals[i]? = some v → l[i]? = some f → v.ok = true ∧ v.kind = f.init.kind := by
  unfold fitsR at h
  rw [Bool.and_eq_true, List.all_eq_true] at h
  refine ⟨by simpa using h.1, fun i v f hv hf => ?_⟩
  have := h.2 (v, f) (List.mem_of_getElem? (i := i) (by rw [List.getElem?_zip_eq_some]; exact ⟨hv, hf⟩))
  simpa [fitOne] using this
theorem eval_Fits_1_pc (v : Val) (f : FreeT) : PureC Tryd.prog G n_eval_Fits_1 [valV v, freeV f] (.bool (fitOne v f)) := by
  have hok := value_Right_pc (G := G) v
  refine pc_eval_Fits_1 (Runs.of fun Φ h => ?_)
  unfold c_eval_Fits_1
  unfold fitOne at h
  simp only [valV] at hok
  cases hv : v.ok <;> rw [hv] at hok h <;> ((try (simp -implicitDefEqProofs only [go_sem, Nat.reduceAdd, Nat.reduceSub, Nat.reduceMul, Nat.reduceLT, Nat.reduceLeDiff, Nat.reduceEqDiff, Nat.reduceBEq, Int.reduceNeg, Int.reduceAdd, Int.reduceLT, Int.reduceLE, Int.reduceToNat, Int.reduceEq, Int.reduceNe, Int.reduceBEq, Int.reduceBNe, Int.reduceMul, Int.reduceSub, reduceIte, reduceCtorEq, valV, freeV])); repeat' ((first | refine at_guard (fun hb => ?_) (fun hb => ?_) | refine ⟨fun hb => ?_, fun hb => ?_⟩ | refine at_call (hok) rfl rfl ?_ | fail) <;> (try (simp -implicitDefEqProofs only [go_sem, Nat.reduceAdd, Nat.reduceSub, Nat.reduceMul, Nat.reduceLT, Nat.reduceLeDiff, Nat.reduceEqDiff, Nat.reduceBEq, Int.reduceNeg, Int.reduceAdd, Int.reduceLT, Int.reduceLE, Int.reduceToNat, Int.reduceEq, Int.reduceNe, Int.reduceBEq, Int.reduceBNe, Int.reduceMul, Int.reduceSub, reduceIte, reduceCtorEq, valV, freeV])))) <;> exact h _ ⟨_, _, rfl, rfl, .refl _⟩
theorem EqualFunc_fits_pc (vals : List Val) (l : List FreeT) (hk : vals.length < 9223372036854775807) (_hl : l.length < 9223372036854775807) : PureC Tryd.prog G n_slices_EqualFunc_api_Value_api_Free_api_Value_api_Free [valsV vals, .seq 5 (l.map freeV), .fn n_eval_Fits_1 []] (.bool (fitsR vals l)) := by
  refine pc_slices_EqualFunc_api_Value_api_Free_api_Value_api_Free (Runs.of fun Φ h => ?_)
  unfold c_slices_EqualFunc_api_Value_api_Free_api_Value_api_Free
  by_cases hvl : vals.length = l.length
  · have e0 : ((vals.length : Int) != (l.length : Int)) = false := by simp [hvl]
    simp -implicitDefEqProofs only [go_sem, Nat.reduceAdd, Nat.reduceSub, Nat.reduceMul, Nat.reduceLT, Nat.reduceLeDiff, Nat.reduceEqDiff, Nat.reduceBEq, Int.reduceNeg, Int.reduceAdd, Int.reduceLT, Int.reduceLE, Int.reduceToNat, Int.reduceEq, Int.reduceNe, Int.reduceBEq, Int.reduceBNe, Int.reduceMul, Int.reduceSub, reduceIte, reduceCtorEq, valsV, List.length_map, e0]
    refine at_loop (fun n st => ∃ i : Nat, i + n = vals.length ∧ st = ⟨32, [(1, .seq 5 (l.map freeV)), (2, .fn n_eval_Fits_1 []), (15, .seq 4 (vals.map valV)), (16, iv vals.length), (17, iv i)], []⟩ ∧ ∀ j v f, j < i → vals[j]? = some v → l[j]? = some f → fitOne v f = true) vals.length ⟨0, by simp, rfl, fun j v f hj => by omega⟩ ?_
    rintro I hI n st ⟨i, hi, rfl, hno⟩
    simp -implicitDefEqProofs only [go_sem, Nat.reduceAdd, Nat.reduceSub, Nat.reduceMul, Nat.reduceLT, Nat.reduceLeDiff, Nat.reduceEqDiff, Nat.reduceBEq, Int.reduceNeg, Int.reduceAdd, Int.reduceLT, Int.reduceLE, Int.reduceToNat, Int.reduceEq, Int.reduceNe, Int.reduceBEq, Int.reduceBNe, Int.reduceMul, Int.reduceSub, reduceIte, reduceCtorEq]
    refine ⟨fun hlt => ?_, fun hge => ?_⟩
    · have hlt' : i < vals.length := by omega
      obtain ⟨v, hv, _⟩ := at_some hlt'
      obtain ⟨f, hf, _⟩ := at_some (l := l) (i := i) (by omega)
      have hw := wrap_succ hlt' (by omega)
      have hc := eval_Fits_1_pc (G := G) v f
      have hnext : fitOne v f = true → again I n ⟨32, [(1, .seq 5 (l.map freeV)), (2, .fn n_eval_Fits_1 []), (15, .seq 4 (vals.map valV)), (16, iv vals.length), (17, iv (i + 1 : Nat))], []⟩ := fun hv' => at_again (n - 1) (by omega) (hI _ _ ⟨i + 1, by omega, rfl, fun j v' f' hj h1 h2 => by
        by_cases e : j = i
        · subst e; rw [hv] at h1; cases h1; rw [hf] at h2; cases h2; exact hv'
        · exact hno j v' f' (by omega) h1 h2⟩)
      have hbad : fitOne v f = false → fitsR vals l = false := fun hv' => fitsR_false hv hf hv'
      clear hno
      generalize fitOne v f = b at *
      generalize fitsR vals l = R at *
      have hb : bodyB Tryd.prog n_eval_Fits_1 = true := by kernel_rfl
      simp only [valV, freeV] at hc
      cases b
      all_goals
        (try (simp -implicitDefEqProofs only [go_sem, Nat.reduceAdd, Nat.reduceSub, Nat.reduceMul, Nat.reduceLT, Nat.reduceLeDiff, Nat.reduceEqDiff, Nat.reduceBEq, Int.reduceNeg, Int.reduceAdd, Int.reduceLT, Int.reduceLE, Int.reduceToNat, Int.reduceEq, Int.reduceNe, Int.reduceBEq, Int.reduceBNe, Int.reduceMul, Int.reduceSub, reduceIte, reduceCtorEq, aiaddr_map hv, aiaddr_map hf, valV, freeV, hw])); repeat' ((first | refine at_guard (fun hb => ?_) (fun hb => ?_) | refine ⟨fun hb => ?_, fun hb => ?_⟩ | (refine ⟨hb, at_call hc rfl rfl ?_⟩) | fail) <;> (try (simp -implicitDefEqProofs only [go_sem, Nat.reduceAdd, Nat.reduceSub, Nat.reduceMul, Nat.reduceLT, Nat.reduceLeDiff, Nat.reduceEqDiff, Nat.reduceBEq, Int.reduceNeg, Int.reduceAdd, Int.reduceLT, Int.reduceLE, Int.reduceToNat, Int.reduceEq, Int.reduceNe, Int.reduceBEq, Int.reduceBNe, Int.reduceMul, Int.reduceSub, reduceIte, reduceCtorEq, aiaddr_map hv, aiaddr_map hf, valV, freeV, hw])))
        first | exact hnext rfl | exact h _ ⟨_, _, rfl, rfl, fitB (hbad rfl).symm⟩
    · exact h _ ⟨_, _, rfl, rfl, fitB (fitsR_true hvl fun j v f h1 h2 => hno j v f (by have := (List.getElem?_eq_some_iff.1 h1).1; omega) h1 h2).symm⟩
  · have e0 : ((vals.length : Int) != (l.length : Int)) = true := by simp; omega
    simp -implicitDefEqProofs only [go_sem, Nat.reduceAdd, Nat.reduceSub, Nat.reduceMul, Nat.reduceLT, Nat.reduceLeDiff, Nat.reduceEqDiff, Nat.reduceBEq, Int.reduceNeg, Int.reduceAdd, Int.reduceLT, Int.reduceLE, Int.reduceToNat, Int.reduceEq, Int.reduceNe, Int.reduceBEq, Int.reduceBNe, Int.reduceMul, Int.reduceSub, reduceIte, reduceCtorEq, valsV, List.length_map, e0]
    exact h _ ⟨_, _, rfl, rfl, fitB (fitsR_len hvl).symm⟩
theorem eval_Fits_pc (q : QeaT) (vals : List Val) (hk : vals.length < 9223372036854775807) (hl : q.frees.length < 9223372036854775807) : PureC Tryd.prog G n_eval_Fits [qeaV q, valsV vals] (.bool (fitsR vals q.frees)) := by
  have hc := EqualFunc_fits_pc (G := G) vals q.frees hk hl
  refine pc_eval_Fits (Runs.of fun Φ h => ?_)
  unfold c_eval_Fits
  (try (simp -implicitDefEqProofs only [go_sem, Nat.reduceAdd, Nat.reduceSub, Nat.reduceMul, Nat.reduceLT, Nat.reduceLeDiff, Nat.reduceEqDiff, Nat.reduceBEq, Int.reduceNeg, Int.reduceAdd, Int.reduceLT, Int.reduceLE, Int.reduceToNat, Int.reduceEq, Int.reduceNe, Int.reduceBEq, Int.reduceBNe, Int.reduceMul, Int.reduceSub, reduceIte, reduceCtorEq, qeaV, declsV, quantsV, freesV, statesV, symsV, nodesV, transsV])); repeat' ((first | refine at_guard (fun hb => ?_) (fun hb => ?_) | refine ⟨fun hb => ?_, fun hb => ?_⟩ | refine at_call (hc) rfl rfl ?_ | fail) <;> (try (simp -implicitDefEqProofs only [go_sem, Nat.reduceAdd, Nat.reduceSub, Nat.reduceMul, Nat.reduceLT, Nat.reduceLeDiff, Nat.reduceEqDiff, Nat.reduceBEq, Int.reduceNeg, Int.reduceAdd, Int.reduceLT, Int.reduceLE, Int.reduceToNat, Int.reduceEq, Int.reduceNe, Int.reduceBEq, Int.reduceBNe, Int.reduceMul, Int.reduceSub, reduceIte, reduceCtorEq, qeaV, declsV, quantsV, freesV, statesV, symsV, nodesV, transsV])))
  all_goals (refine h _ ⟨_, _, rfl, rfl, fit_eq ?_⟩; clear h; first | rfl | simp_all)
theorem ref16_Fits_pc (q : QeaT) (vals : List Val) (hk : vals.length < 9223372036854775807) (_hl : q.frees.length < 9223372036854775807) : PureC Tryd.prog G n_proctorref16_Fits [qeaV q, valsV vals] (.bool (fitsR vals q.frees)) := by
  refine pc_proctorref16_Fits (Runs.of fun Φ h => ?_)
  unfold c_proctorref16_Fits
  by_cases hvl : vals.length = q.frees.length
  · have e0 : ((vals.length : Int) != (q.frees.length : Int)) = false := by simp [hvl]
    simp -implicitDefEqProofs only [go_sem, Nat.reduceAdd, Nat.reduceSub, Nat.reduceMul, Nat.reduceLT, Nat.reduceLeDiff, Nat.reduceEqDiff, Nat.reduceBEq, Int.reduceNeg, Int.reduceAdd, Int.reduceLT, Int.reduceLE, Int.reduceToNat, Int.reduceEq, Int.reduceNe, Int.reduceBEq, Int.reduceBNe, Int.reduceMul, Int.reduceSub, reduceIte, reduceCtorEq, valsV, qeaV, declsV, quantsV, freesV, statesV, symsV, nodesV, transsV, List.length_map, e0]
    refine at_loop (fun n st => ∃ i : Nat, i + n = vals.length ∧ st = ⟨39, [(1, .seq 4 (vals.map valV)), (2, .ref 2 0 0), (5, iv i)], [(2, ⟨false, t_api_Qea, 9, [qeaV q]⟩)]⟩ ∧ ∀ j v f, j < i → vals[j]? = some v → q.frees[j]? = some f → fitOne v f = true) vals.length ⟨0, by simp, rfl, fun j v f hj => by omega⟩ ?_
    rintro I hI n st ⟨i, hi, rfl, hno⟩
    simp -implicitDefEqProofs only [go_sem, Nat.reduceAdd, Nat.reduceSub, Nat.reduceMul, Nat.reduceLT, Nat.reduceLeDiff, Nat.reduceEqDiff, Nat.reduceBEq, Int.reduceNeg, Int.reduceAdd, Int.reduceLT, Int.reduceLE, Int.reduceToNat, Int.reduceEq, Int.reduceNe, Int.reduceBEq, Int.reduceBNe, Int.reduceMul, Int.reduceSub, reduceIte, reduceCtorEq, qeaV, declsV, quantsV, freesV, statesV, symsV, nodesV, transsV, List.length_map]
    refine ⟨fun hlt => ?_, fun hge => ?_⟩
    · have hlt' : i < vals.length := by omega
      obtain ⟨v, hv, _⟩ := at_some hlt'
      obtain ⟨f, hf, _⟩ := at_some (l := q.frees) (i := i) (by omega)
      have hw := wrap_succ hlt' (by omega)
      have hc := ref03_Right_pc (G := G) v
      have hnext : fitOne v f = true → again I n ⟨39, [(1, .seq 4 (vals.map valV)), (2, .ref 2 0 0), (5, iv (i + 1 : Nat))], [(2, ⟨false, t_api_Qea, 9, [qeaV q]⟩)]⟩ := fun hv' => at_again (n - 1) (by omega) (hI _ _ ⟨i + 1, by omega, rfl, fun j v' f' hj h1 h2 => by
        by_cases e : j = i
        · subst e; rw [hv] at h1; cases h1; rw [hf] at h2; cases h2; exact hv'
        · exact hno j v' f' (by omega) h1 h2⟩)
      have hbad : fitOne v f = false → fitsR vals q.frees = false := fun hv' => fitsR_false hv hf hv'
      clear hno
      unfold fitOne at hnext hbad
      generalize fitsR vals q.frees = R at *
      simp only [valV] at hc
      cases hvo : v.ok
      all_goals
        rw [hvo] at hc hnext hbad
        (try (simp -implicitDefEqProofs only [go_sem, Nat.reduceAdd, Nat.reduceSub, Nat.reduceMul, Nat.reduceLT, Nat.reduceLeDiff, Nat.reduceEqDiff, Nat.reduceBEq, Int.reduceNeg, Int.reduceAdd, Int.reduceLT, Int.reduceLE, Int.reduceToNat, Int.reduceEq, Int.reduceNe, Int.reduceBEq, Int.reduceBNe, Int.reduceMul, Int.reduceSub, reduceIte, reduceCtorEq, aiaddr_map hv, aiaddr_map hf, valV, freeV, qeaV, declsV, quantsV, freesV, statesV, symsV, nodesV, transsV, List.length_map, hw])); repeat' ((first | refine at_guard (fun hb => ?_) (fun hb => ?_) | refine ⟨fun hb => ?_, fun hb => ?_⟩ | refine at_call (hc) rfl rfl ?_ | fail) <;> (try (simp -implicitDefEqProofs only [go_sem, Nat.reduceAdd, Nat.reduceSub, Nat.reduceMul, Nat.reduceLT, Nat.reduceLeDiff, Nat.reduceEqDiff, Nat.reduceBEq, Int.reduceNeg, Int.reduceAdd, Int.reduceLT, Int.reduceLE, Int.reduceToNat, Int.reduceEq, Int.reduceNe, Int.reduceBEq, Int.reduceBNe, Int.reduceMul, Int.reduceSub, reduceIte, reduceCtorEq, aiaddr_map hv, aiaddr_map hf, valV, freeV, qeaV, declsV, quantsV, freesV, statesV, symsV, nodesV, transsV, List.length_map, hw])))
        all_goals first | (refine hnext ?_; clear h hnext hbad hc hI; simp_all; done) | (refine h _ ⟨_, _, rfl, rfl, fitB (hbad ?_).symm⟩; clear h hnext hbad hc hI; simp_all; done)
    · exact h _ ⟨_, _, rfl, rfl, fitB (fitsR_true hvl fun j v f h1 h2 => hno j v f (by have := (List.getElem?_eq_some_iff.1 h1).1; omega) h1 h2).symm⟩
  · have e0 : ((vals.length : Int) != (q.frees.length : Int)) = true := by simp; omega
    simp -implicitDefEqProofs only [go_sem, Nat.reduceAdd, Nat.reduceSub, Nat.reduceMul, Nat.reduceLT, Nat.reduceLeDiff, Nat.reduceEqDiff, Nat.reduceBEq, Int.reduceNeg, Int.reduceAdd, Int.reduceLT, Int.reduceLE, Int.reduceToNat, Int.reduceEq, Int.reduceNe, Int.reduceBEq, Int.reduceBNe, Int.reduceMul, Int.reduceSub, reduceIte, reduceCtorEq, valsV, qeaV, declsV, quantsV, freesV, statesV, symsV, nodesV, transsV, List.length_map, e0]
    exact h _ ⟨_, _, rfl, rfl, fitB (fitsR_len hvl).symm⟩
/-- An automaton, a binding, values: what an expression is in. -/
def frameV (q : QeaT) (b : List SlotT) (vals : List Val) : AV := .agg [.str q.name, declsV q.decls, quantsV q.quants, freesV q.frees, statesV q.states, iv q.start, symsV q.symbols, nodesV q.nodes, transsV q.trans, slotsV b, valsV vals]
/-- What a quantified variable comes to. -/
def quantR (b : List SlotT) (a ty : Int) : Val × Int := if (getR b a).2 = true ∧ (getR b a).1.kind = ty then ((getR b a).1, 0) else (v0, 9)
theorem frame_quant_pc (q : QeaT) (b : List SlotT) (vals : List Val) (hb : b.length < 9223372036854775807) (i : Nat) (y : QuantT) (hy : q.quants[i]? = some y) : PureC Tryd.prog G n_eval_frame_quant [frameV q b vals, iv i] (vt (quantR b i y.type)) := by
  have hg := binding_Get_pc (G := G) b hb i
  refine pc_eval_frame_quant (Runs.of fun Φ h => ?_)
  unfold c_eval_frame_quant
  unfold quantR at h
  generalize getR b i = r at *
  obtain ⟨⟨k, n, s, t⟩, ok⟩ := r
  unfold vbt slotsV at hg
  unfold vt at h
  simp only [valV] at hg
  cases ok
  · (try (simp -implicitDefEqProofs only [go_sem, Nat.reduceAdd, Nat.reduceSub, Nat.reduceMul, Nat.reduceLT, Nat.reduceLeDiff, Nat.reduceEqDiff, Nat.reduceBEq, Int.reduceNeg, Int.reduceAdd, Int.reduceLT, Int.reduceLE, Int.reduceToNat, Int.reduceEq, Int.reduceNe, Int.reduceBEq, Int.reduceBNe, Int.reduceMul, Int.reduceSub, reduceIte, reduceCtorEq, frameV, slotsV, valsV, qeaV, declsV, quantsV, freesV, statesV, symsV, nodesV, transsV, aiaddr_map hy, quantV, valV])); repeat' ((first | refine at_guard (fun hb => ?_) (fun hb => ?_) | refine ⟨fun hb => ?_, fun hb => ?_⟩ | refine at_call (hg) rfl rfl ?_ | fail) <;> (try (simp -implicitDefEqProofs only [go_sem, Nat.reduceAdd, Nat.reduceSub, Nat.reduceMul, Nat.reduceLT, Nat.reduceLeDiff, Nat.reduceEqDiff, Nat.reduceBEq, Int.reduceNeg, Int.reduceAdd, Int.reduceLT, Int.reduceLE, Int.reduceToNat, Int.reduceEq, Int.reduceNe, Int.reduceBEq, Int.reduceBNe, Int.reduceMul, Int.reduceSub, reduceIte, reduceCtorEq, frameV, slotsV, valsV, qeaV, declsV, quantsV, freesV, statesV, symsV, nodesV, transsV, aiaddr_map hy, quantV, valV])))
    exact h _ ⟨_, _, rfl, rfl, .refl _⟩
  · by_cases hk : k = y.type
    · subst hk
      (try (simp -implicitDefEqProofs only [go_sem, Nat.reduceAdd, Nat.reduceSub, Nat.reduceMul, Nat.reduceLT, Nat.reduceLeDiff, Nat.reduceEqDiff, Nat.reduceBEq, Int.reduceNeg, Int.reduceAdd, Int.reduceLT, Int.reduceLE, Int.reduceToNat, Int.reduceEq, Int.reduceNe, Int.reduceBEq, Int.reduceBNe, Int.reduceMul, Int.reduceSub, reduceIte, reduceCtorEq, frameV, slotsV, valsV, qeaV, declsV, quantsV, freesV, statesV, symsV, nodesV, transsV, aiaddr_map hy, quantV, valV, bne_self_eq_false])); repeat' ((first | refine at_guard (fun hb => ?_) (fun hb => ?_) | refine ⟨fun hb => ?_, fun hb => ?_⟩ | refine at_call (hg) rfl rfl ?_ | fail) <;> (try (simp -implicitDefEqProofs only [go_sem, Nat.reduceAdd, Nat.reduceSub, Nat.reduceMul, Nat.reduceLT, Nat.reduceLeDiff, Nat.reduceEqDiff, Nat.reduceBEq, Int.reduceNeg, Int.reduceAdd, Int.reduceLT, Int.reduceLE, Int.reduceToNat, Int.reduceEq, Int.reduceNe, Int.reduceBEq, Int.reduceBNe, Int.reduceMul, Int.reduceSub, reduceIte, reduceCtorEq, frameV, slotsV, valsV, qeaV, declsV, quantsV, freesV, statesV, symsV, nodesV, transsV, aiaddr_map hy, quantV, valV, bne_self_eq_false])))
      exact h _ ⟨_, _, rfl, rfl, fit_eq (by simp [valV])⟩
    · have hk' : (k != y.type) = true := by simpa using hk
      (try (simp -implicitDefEqProofs only [go_sem, Nat.reduceAdd, Nat.reduceSub, Nat.reduceMul, Nat.reduceLT, Nat.reduceLeDiff, Nat.reduceEqDiff, Nat.reduceBEq, Int.reduceNeg, Int.reduceAdd, Int.reduceLT, Int.reduceLE, Int.reduceToNat, Int.reduceEq, Int.reduceNe, Int.reduceBEq, Int.reduceBNe, Int.reduceMul, Int.reduceSub, reduceIte, reduceCtorEq, frameV, slotsV, valsV, qeaV, declsV, quantsV, freesV, statesV, symsV, nodesV, transsV, aiaddr_map hy, quantV, valV, hk'])); repeat' ((first | refine at_guard (fun hb => ?_) (fun hb => ?_) | refine ⟨fun hb => ?_, fun hb => ?_⟩ | refine at_call (hg) rfl rfl ?_ | fail) <;> (try (simp -implicitDefEqProofs only [go_sem, Nat.reduceAdd, Nat.reduceSub, Nat.reduceMul, Nat.reduceLT, Nat.reduceLeDiff, Nat.reduceEqDiff, Nat.reduceBEq, Int.reduceNeg, Int.reduceAdd, Int.reduceLT, Int.reduceLE, Int.reduceToNat, Int.reduceEq, Int.reduceNe, Int.reduceBEq, Int.reduceBNe, Int.reduceMul, Int.reduceSub, reduceIte, reduceCtorEq, frameV, slotsV, valsV, qeaV, declsV, quantsV, freesV, statesV, symsV, nodesV, transsV, aiaddr_map hy, quantV, valV, hk'])))
      exact h _ ⟨_, _, rfl, rfl, fit_eq (by simp [valV, hk])⟩
end Go.Proofs.YtdfdiglnpekcpabDoor.Ab
