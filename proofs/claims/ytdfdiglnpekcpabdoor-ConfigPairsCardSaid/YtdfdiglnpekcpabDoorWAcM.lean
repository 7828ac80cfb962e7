/-
  binding, proctorref05: what a binding has; which may be. eval, proctorref16: whether values fit. What a node's expression comes to; proctorref16.Value. No claim is proved here: the abstract code lies in AcR. No claim is proved here.
-/
import Derived.Test.YtdfdiglnpekcpabDoorWD4
import Derived.Test.YtdfdiglnpekcpabDoorWD8
namespace Go.Proofs.YtdfdiglnpekcpabDoor.Ab
open Nat renaming reduceAdd → zq0, reduceSub → zq1, reduceMul → zq2, reduceLT → zq3, reduceLeDiff → zq4, reduceEqDiff → zq5, reduceBEq → zq6
open Int renaming reduceNeg → zq7, reduceAdd → zq8, reduceLT → zq9, reduceLE → zq10, reduceToNat → zq11, reduceEq → zq12, reduceNe → zq13, reduceBEq → zq14, reduceBNe → zq15, reduceMul → zq16, reduceSub → zq17
open Go
set_option linter.unusedSimpArgs false
set_option maxHeartbeats 4000000
set_option maxRecDepth 100000
variable {G : Nat → Option AV}
structure SlotT where
  var : Int
  value : Val
deriving DecidableEq
def valsV (l : List Val) : AV := .seq 4 (l.map valV)
/-- What a binding has for a variable. -/
def getR (l : List SlotT) (v : Int) : Val × Bool := match l.find? (fun s => s.var == v) with | some s => (s.value, true) | none => (v0, false)
/-- Do values fit free variables? -/
def fitOne (v : Val) (f : FreeT) : Bool := v.ok && v.kind == f.init.kind
def fitsR (vals : List Val) (l : List FreeT) : Bool := vals.length == l.length && (vals.zip l).all fun x => fitOne x.1 x.2
theorem fitsR_len {vals : List Val} {l : List FreeT} (h : ¬ vals.length = l.length) : fitsR vals l = false := by simp [fitsR, h]
theorem fitsR_false {vals : List Val} {l : List FreeT} {i : Nat} {v : Val} {f : FreeT} (hv : vals[i]? = some v) (hf : l[i]? = some f) (h : fitOne v f = false) : fitsR vals l = false := by
  unfold fitsR
  rw [Bool.and_eq_false_iff]
  right
  rw [List.all_eq_false]
  exact ⟨(v, f), List.mem_of_getElem? (i := i) (by rw [List.getElem?_zip_eq_some]; exact ⟨hv, hf⟩), by simp [h]⟩
theorem fitsR_true {vals : List Val} {l : List FreeT} (hl : vals.length = l.length) (h : ∀ (i : Nat) v f, vals[i]? = some v → l[i]? = some f → fitOne v f = true) : fitsR vals l = true := by
  unfold fitsR
  rw [Bool.and_eq_true]
  refine ⟨by simpa using hl, ?_⟩
  rw [List.all_eq_true]
  rintro ⟨v, f⟩ hm
  obtain ⟨i, hi⟩ := List.getElem?_of_mem hm
  rw [List.getElem?_zip_eq_some] at hi
  exact h i v f hi.1 hi.2
theorem fitsR_at {vals : List Val} {l : List FreeT} (h : fitsR vals l = true) : vals.length = l.length ∧ ∀ (i : Nat) v f, vals[i]? = some v → l[i]? = some f → v.ok = true ∧ v.kind = f.init.kind := by
  unfold fitsR at h
  rw [Bool.and_eq_true, List.all_eq_true] at h
  refine ⟨by simpa using h.1, fun i v f hv hf => ?_⟩
  have := h.2 (v, f) (List.mem_of_getElem? (i := i) (by rw [List.getElem?_zip_eq_some]; exact ⟨hv, hf⟩))
  simpa [fitOne] using this
theorem eval_Fits_1_pc (v : Val) (f : FreeT) : PureC Tryd.prog G n_eval_Fits_1 [valV v, freeV f] (.bool (fitOne v f)) := by
  have hok := value_Right_pc (G := G) v
  refine pc_eval_Fits_1 (Runs.of fun Φ h => ?_)
  unfold c_eval_Fits_1
  unfold fitOne at h
  simp only [valV] at hok
  cases hv : v.ok <;> rw [hv] at hok h <;> ((try (simp -implicitDefEqProofs only [go_sem, zq0, zq1, zq2, zq3, zq4, zq5, zq6, zq7, zq8, zq9, zq10, zq11, zq12, zq13, zq14, zq15, zq16, zq17, reduceIte, reduceCtorEq, valV, freeV])); repeat' ((first | refine at_guard (fun hb => ?_) (fun hb => ?_) | refine ⟨fun hb => ?_, fun hb => ?_⟩ | refine at_call (hok) rfl rfl ?_ | fail) <;> (try (simp -implicitDefEqProofs only [go_sem, zq0, zq1, zq2, zq3, zq4, zq5, zq6, zq7, zq8, zq9, zq10, zq11, zq12, zq13, zq14, zq15, zq16, zq17, reduceIte, reduceCtorEq, valV, freeV])))) <;> exact h _ ⟨_, _, rfl, rfl, .refl _⟩
theorem EqualFunc_fits_pc (vals : List Val) (l : List FreeT) (hk : vals.length < 9223372036854775807) (_hl : l.length < 9223372036854775807) : PureC Tryd.prog G n_slices_EqualFunc_api_Value_api_Free_api_Value_api_Free [valsV vals, .seq 5 (l.map freeV), .fn n_eval_Fits_1 []] (.bool (fitsR vals l)) := by
  refine pc_slices_EqualFunc_api_Value_api_Free_api_Value_api_Free (Runs.of fun Φ h => ?_)
  unfold c_slices_EqualFunc_api_Value_api_Free_api_Value_api_Free
  by_cases hvl : vals.length = l.length
  · have e0 : ((vals.length : Int) != (l.length : Int)) = false := by simp [hvl]
    simp -implicitDefEqProofs only [go_sem, zq0, zq1, zq2, zq3, zq4, zq5, zq6, zq7, zq8, zq9, zq10, zq11, zq12, zq13, zq14, zq15, zq16, zq17, reduceIte, reduceCtorEq, valsV, List.length_map, e0]
    refine at_loop (fun n st => ∃ i : Nat, i + n = vals.length ∧ st = ⟨32, [(1, .seq 5 (l.map freeV)), (2, .fn n_eval_Fits_1 []), (15, .seq 4 (vals.map valV)), (16, iv vals.length), (17, iv i)], []⟩ ∧ ∀ j v f, j < i → vals[j]? = some v → l[j]? = some f → fitOne v f = true) vals.length ⟨0, by simp, rfl, fun j v f hj => by omega⟩ ?_
    rintro I hI n st ⟨i, hi, rfl, hno⟩
    simp -implicitDefEqProofs only [go_sem, zq0, zq1, zq2, zq3, zq4, zq5, zq6, zq7, zq8, zq9, zq10, zq11, zq12, zq13, zq14, zq15, zq16, zq17, reduceIte, reduceCtorEq]
    refine ⟨fun hlt => ?_, fun hge => ?_⟩
    · have hlt' : i < vals.length := by omega
      obtain ⟨v, hv, _⟩ := at_some hlt'
      obtain ⟨f, hf, _⟩ := at_some (l := l) (i := i) (by omega)
      have hw := wrap_succ hlt' (by omega)
      have hc := eval_Fits_1_pc (G := G) v f
      have hnext : fitOne v f = true → again I n ⟨32, [(1, .seq 5 (l.map freeV)), (2, .fn n_eval_Fits_1 []), (15, .seq 4 (vals.map valV)), (16, iv vals.length), (17, iv (i + 1 : Nat))], []⟩ := fun hv' => at_again (n - 1) (by omega) (hI _ _ ⟨i + 1, by omega, rfl, fun j v' f' hj h1 h2 => by
        by_cases e : j = i
        · subst e; rw [hv] at h1; cases h1; rw [hf] at h2; cases h2; exact hv'
        · exact hno j v' f' (by omega) h1 h2⟩)
      have hbad : fitOne v f = false → fitsR vals l = false := fun hv' => fitsR_false hv hf hv'
      clear hno
      generalize fitOne v f = b at *
      generalize fitsR vals l = R at *
      have hb : bodyB Tryd.prog n_eval_Fits_1 = true := by kernel_rfl
      simp only [valV, freeV] at hc
      cases b
      all_goals
        (try (simp -implicitDefEqProofs only [go_sem, zq0, zq1, zq2, zq3, zq4, zq5, zq6, zq7, zq8, zq9, zq10, zq11, zq12, zq13, zq14, zq15, zq16, zq17, reduceIte, reduceCtorEq, aiaddr_map hv, aiaddr_map hf, valV, freeV, hw])); repeat' ((first | refine at_guard (fun hb => ?_) (fun hb => ?_) | refine ⟨fun hb => ?_, fun hb => ?_⟩ | (refine ⟨hb, at_call hc rfl rfl ?_⟩) | fail) <;> (try (simp -implicitDefEqProofs only [go_sem, zq0, zq1, zq2, zq3, zq4, zq5, zq6, zq7, zq8, zq9, zq10, zq11, zq12, zq13, zq14, zq15, zq16, zq17, reduceIte, reduceCtorEq, aiaddr_map hv, aiaddr_map hf, valV, freeV, hw])))
        first | exact hnext rfl | exact h _ ⟨_, _, rfl, rfl, fitB (hbad rfl).symm⟩
    · exact h _ ⟨_, _, rfl, rfl, fitB (fitsR_true hvl fun j v f h1 h2 => hno j v f (by have := (List.getElem?_eq_some_iff.1 h1).1; omega) h1 h2).symm⟩
  · have e0 : ((vals.length : Int) != (l.length : Int)) = true := by simp; omega
    simp -implicitDefEqProofs only [go_sem, zq0, zq1, zq2, zq3, zq4, zq5, zq6, zq7, zq8, zq9, zq10, zq11, zq12, zq13, zq14, zq15, zq16, zq17, reduceIte, reduceCtorEq, valsV, List.length_map, e0]
    exact h _ ⟨_, _, rfl, rfl, fitB (fitsR_len hvl).symm⟩
theorem eval_Fits_pc (q : QeaT) (vals : List Val) (hk : vals.length < 9223372036854775807) (hl : q.frees.length < 9223372036854775807) : PureC Tryd.prog G n_eval_Fits [qeaV q, valsV vals] (.bool (fitsR vals q.frees)) := by
  have hc := EqualFunc_fits_pc (G := G) vals q.frees hk hl
  refine pc_eval_Fits (Runs.of fun Φ h => ?_)
  unfold c_eval_Fits
  (try (simp -implicitDefEqProofs only [go_sem, zq0, zq1, zq2, zq3, zq4, zq5, zq6, zq7, zq8, zq9, zq10, zq11, zq12, zq13, zq14, zq15, zq16, zq17, reduceIte, reduceCtorEq, qeaV, declsV, quantsV, freesV, statesV, symsV, nodesV, transsV])); repeat' ((first | refine at_guard (fun hb => ?_) (fun hb => ?_) | refine ⟨fun hb => ?_, fun hb => ?_⟩ | refine at_call (hc) rfl rfl ?_ | fail) <;> (try (simp -implicitDefEqProofs only [go_sem, zq0, zq1, zq2, zq3, zq4, zq5, zq6, zq7, zq8, zq9, zq10, zq11, zq12, zq13, zq14, zq15, zq16, zq17, reduceIte, reduceCtorEq, qeaV, declsV, quantsV, freesV, statesV, symsV, nodesV, transsV])))
  all_goals (refine h _ ⟨_, _, rfl, rfl, fit_eq ?_⟩; clear h; first | rfl | simp_all)
theorem ref16_Fits_pc (q : QeaT) (vals : List Val) (hk : vals.length < 9223372036854775807) (_hl : q.frees.length < 9223372036854775807) : PureC Tryd.prog G n_proctorref16_Fits [qeaV q, valsV vals] (.bool (fitsR vals q.frees)) := by
  refine pc_proctorref16_Fits (Runs.of fun Φ h => ?_)
  unfold c_proctorref16_Fits
  by_cases hvl : vals.length = q.frees.length
  · have e0 : ((vals.length : Int) != (q.frees.length : Int)) = false := by simp [hvl]
    simp -implicitDefEqProofs only [go_sem, zq0, zq1, zq2, zq3, zq4, zq5, zq6, zq7, zq8, zq9, zq10, zq11, zq12, zq13, zq14, zq15, zq16, zq17, reduceIte, reduceCtorEq, valsV, qeaV, declsV, quantsV, freesV, statesV, symsV, nodesV, transsV, List.length_map, e0]
    refine at_loop (fun n st => ∃ i : Nat, i + n = vals.length ∧ st = ⟨39, [(1, .seq 4 (vals.map valV)), (2, .ref 2 0 0), (5, iv i)], [(2, ⟨false, t_api_Qea, 9, [qeaV q]⟩)]⟩ ∧ ∀ j v f, j < i → vals[j]? = some v → q.frees[j]? = some f → fitOne v f = true) vals.length ⟨0, by simp, rfl, fun j v f hj => by omega⟩ ?_
    rintro I hI n st ⟨i, hi, rfl, hno⟩
    simp -implicitDefEqProofs only [go_sem, zq0, zq1, zq2, zq3, zq4, zq5, zq6, zq7, zq8, zq9, zq10, zq11, zq12, zq13, zq14, zq15, zq16, zq17, reduceIte, reduceCtorEq, qeaV, declsV, quantsV, freesV, statesV, symsV, nodesV, transsV, List.length_map]
    refine ⟨fun hlt => ?_, fun hge => ?_⟩
    · have hlt' : i < vals.length := by omega
      obtain ⟨v, hv, _⟩ := at_some hlt'
      obtain ⟨f, hf, _⟩ := at_some (l := q.frees) (i := i) (by omega)
      have hw := wrap_succ hlt' (by omega)
      have hc := ref03_Right_pc (G := G) v
      have hnext : fitOne v f = true → again I n ⟨39, [(1, .seq 4 (vals.map valV)), (2, .ref 2 0 0), (5, iv (i + 1 : Nat))], [(2, ⟨false, t_api_Qea, 9, [qeaV q]⟩)]⟩ := fun hv' => at_again (n - 1) (by omega) (hI _ _ ⟨i + 1, by omega, rfl, fun j v' f' hj h1 h2 => by
        by_cases e : j = i
        · subst e; rw [hv] at h1; cases h1; rw [hf] at h2; cases h2; exact hv'
        · exact hno j v' f' (by omega) h1 h2⟩)
      have hbad : fitOne v f = false → fitsR vals q.frees = false := fun hv' => fitsR_false hv hf hv'
      clear hno
      unfold fitOne at hnext hbad
      generalize fitsR vals q.frees = R at *
      simp only [valV] at hc
      cases hvo : v.ok
      all_goals
        rw [hvo] at hc hnext hbad
        (try (simp -implicitDefEqProofs only [go_sem, zq0, zq1, zq2, zq3, zq4, zq5, zq6, zq7, zq8, zq9, zq10, zq11, zq12, zq13, zq14, zq15, zq16, zq17, reduceIte, reduceCtorEq, aiaddr_map hv, aiaddr_map hf, valV, freeV, qeaV, declsV, quantsV, freesV, statesV, symsV, nodesV, transsV, List.length_map, hw])); repeat' ((first | refine at_guard (fun hb => ?_) (fun hb => ?_) | refine ⟨fun hb => ?_, fun hb => ?_⟩ | refine at_call (hc) rfl rfl ?_ | fail) <;> (try (simp -implicitDefEqProofs only [go_sem, zq0, zq1, zq2, zq3, zq4, zq5, zq6, zq7, zq8, zq9, zq10, zq11, zq12, zq13, zq14, zq15, zq16, zq17, reduceIte, reduceCtorEq, aiaddr_map hv, aiaddr_map hf, valV, freeV, qeaV, declsV, quantsV, freesV, statesV, symsV, nodesV, transsV, List.length_map, hw])))
        all_goals first | (refine hnext ?_; clear h hnext hbad hc hI; simp_all; done) | (refine h _ ⟨_, _, rfl, rfl, fitB (hbad ?_).symm⟩; clear h hnext hbad hc hI; simp_all; done)
    · exact h _ ⟨_, _, rfl, rfl, fitB (fitsR_true hvl fun j v f h1 h2 => hno j v f (by have := (List.getElem?_eq_some_iff.1 h1).1; omega) h1 h2).symm⟩
  · have e0 : ((vals.length : Int) != (q.frees.length : Int)) = true := by simp; omega
    simp -implicitDefEqProofs only [go_sem, zq0, zq1, zq2, zq3, zq4, zq5, zq6, zq7, zq8, zq9, zq10, zq11, zq12, zq13, zq14, zq15, zq16, zq17, reduceIte, reduceCtorEq, valsV, qeaV, declsV, quantsV, freesV, statesV, symsV, nodesV, transsV, List.length_map, e0]
    exact h _ ⟨_, _, rfl, rfl, fitB (fitsR_len hvl).symm⟩
/-- What a quantified variable comes to. -/
def quantR (b : List SlotT) (a ty : Int) : Val × Int := if (getR b a).2 = true ∧ (getR b a).1.kind = ty then ((getR b a).1, 0) else (v0, 9)
end Go.Proofs.YtdfdiglnpekcpabDoor.Ab
namespace Go.Proofs.YtdfdiglnpekcpabDoor.Ab
open Go
set_option linter.unusedSimpArgs false
set_option maxHeartbeats 4000000
set_option maxRecDepth 100000
variable {G : Nat → Option AV}
/-- Out of what its parts come to. 'r', 's': what the first and the second part come to. -/
def evOp (op : Int) (r s : Val × Int) : Val × Int :=
  if ¬ r.2 = 0 then (v0, r.2) else if op ≤ 5 then opR op r.1 v0 else if (op = 6 ∧ r.1.bool = false) ∨ (op = 7 ∧ r.1.bool = true) then (r.1, 0) else if ¬ s.2 = 0 then (v0, s.2) else opR op r.1 s.1
def evN (q : QeaT) (b : List SlotT) (vals : List Val) (rec : Int → Val × Int) (x : NodeT) : Val × Int :=
  if x.op = 1 then (x.value, 0)
  else if x.op = 2 then (match at? q.quants x.a with | some y => quantR b x.a y.type | none => (v0, 1))
  else if x.op = 3 then (match at? vals x.a with | some v => (v, 0) | none => (v0, 1))
  else evOp x.op (rec x.a) (rec x.b)
/-- What the expression at a place comes to: a value, 0; or none, and the error's number. -/
def ev (q : QeaT) (b : List SlotT) (vals : List Val) (i : Nat) : Val × Int :=
  match q.nodes[i]? with
  | none => (v0, 1)
  | some x => evN q b vals (fun j => if _h : j.toNat < i then ev q b vals j.toNat else (v0, 1)) x
termination_by i
/-- Values that may be, of numbers that fit. -/
def VOk (v : Val) : Prop := v.ok = true ∧ i64 v.int
theorem VOk.kind {v : Val} (h : VOk v) : 1 ≤ v.kind ∧ v.kind ≤ 3 := by
  have := h.1
  unfold Val.ok at this
  split at this
  · omega
  · split at this
    · omega
    · simp only [Bool.and_eq_true, decide_eq_true_eq] at this
      omega
theorem VOk.str {v : Val} (h : VOk v) : v.str.length ≤ 4096 := by
  have := h.1
  unfold Val.ok at this
  split at this
  · simp only [Bool.and_eq_true, beq_iff_eq] at this
    rw [this.1]; simp
  · split at this
    · simp only [Bool.and_eq_true, decide_eq_true_eq] at this
      omega
    · simp only [Bool.and_eq_true, decide_eq_true_eq, beq_iff_eq] at this
      rw [this.2.2]; simp
/-- What comes of an expression: a value that may be; or nothing, and an error. -/
def ROk (r : Val × Int) : Prop := (r.2 = 0 ∧ VOk r.1) ∨ (r.1 = v0 ∧ (r.2 = 3 ∨ r.2 = 6 ∨ r.2 = 7 ∨ r.2 = 8 ∨ r.2 = 9))
theorem ROk.ovR {n : Int} : (ovR n).2 = 0 ∧ i64 (ovR n).1 ∨ (ovR n).2 = 6 := by
  unfold Ab.ovR
  split
  · rename_i h
    exact .inl ⟨rfl, by unfold i64; have := in64_iff.1 h; dsimp only; omega⟩
  · exact .inr rfl
theorem VOk.zero : i64 v0.int := by unfold i64; simp
end Go.Proofs.YtdfdiglnpekcpabDoor.Ab
namespace Go.Proofs.YtdfdiglnpekcpabDoor.Ab
end Go.Proofs.YtdfdiglnpekcpabDoor.Ab
