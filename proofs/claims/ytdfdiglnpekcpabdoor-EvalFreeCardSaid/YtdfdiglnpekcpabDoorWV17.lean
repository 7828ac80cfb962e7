/-
  The law EvalFree. No claim is proved here.
-/
import Derived.Test.YtdfdiglnpekcpabDoorWV12
import Derived.Test.YtdfdiglnpekcpabDoorWD26
namespace Go.Proofs.YtdfdiglnpekcpabDoor.Ab
open Nat renaming reduceAdd → zq0, reduceSub → zq1, reduceMul → zq2, reduceLT → zq3, reduceLeDiff → zq4, reduceEqDiff → zq5, reduceBEq → zq6
open Int renaming reduceNeg → zq7, reduceAdd → zq8, reduceLT → zq9, reduceLE → zq10, reduceToNat → zq11, reduceEq → zq12, reduceNe → zq13, reduceBEq → zq14, reduceBNe → zq15, reduceMul → zq16, reduceSub → zq17
open Go Go.RowKit
set_option linter.unusedSimpArgs false
set_option maxHeartbeats 4000000
set_option maxRecDepth 100000
variable {G : Nat → Option AV}
/-- Values of which some are others. -/
def freeStep (out : List Val) (s : SlotT) : List Val := if 0 ≤ s.var ∧ s.var < out.length then out.set s.var.toNat s.value else out
def freeR (l : List SlotT) (out : List Val) : List Val := l.foldl freeStep out
theorem freeStep_len (out : List Val) (s : SlotT) : (freeStep out s).length = out.length := by
  unfold freeStep
  split <;> simp
theorem freeR_len : ∀ (l : List SlotT) (out : List Val), (freeR l out).length = out.length
  | [], _ => rfl
  | s :: l, out => (freeR_len l (freeStep out s)).trans (freeStep_len out s)
theorem freeR_end {l : List SlotT} {i : Nat} {out : List Val} (h : l.length ≤ i) : freeR (l.drop i) out = out := by rw [List.drop_of_length_le h]; rfl
theorem freeR_go {l : List SlotT} {i : Nat} {out : List Val} {s : SlotT} (h : l[i]? = some s) : freeR (l.drop (i + 1)) (freeStep out s) = freeR (l.drop i) out := by rw [drop_at h]; rfl
theorem freeStep_in {out : List Val} {s : SlotT} {f : Nat} (h : s.var = f) (hf : f < out.length) : freeStep out s = out.set f s.value := by
  unfold freeStep
  rw [h, if_pos (by omega), Int.toNat_natCast]
theorem freeStep_out {out : List Val} {s : SlotT} (h : ¬ (0 ≤ s.var ∧ s.var < out.length)) : freeStep out s = out := by
  unfold freeStep
  rw [if_neg h]
theorem view_row {H : List (Nat × Box)} {i n : Nat} {ty : Nat} {out : List Val} (hH : hget H i = some ⟨true, ty, 4, out.map valV⟩) (hn : out.length = n) : view H (.arr i 0 n) = some (valsV out) := by
  simp only [view, hH, List.drop_zero, List.length_map, hn]
  simp [valsV, ← hn]
  exact List.take_of_length_le (by simp)
theorem eval_Free_pc (vals : List Val) (l : List SlotT) (hv : vals.length ≤ 1000000) (hl : l.length ≤ 1000000) : PureC Tryd.prog G n_eval_Free [valsV vals, slotsV l] (valsV (freeR l vals)) := by
  have hcl := clone_hc (G := G) vals hv
  simp only [valsV] at hcl
  refine pc_eval_Free (Runs.of fun Φ h => ?_)
  unfold c_eval_Free
  (try (simp -implicitDefEqProofs only [go_sem, zq0, zq1, zq2, zq3, zq4, zq5, zq6, zq7, zq8, zq9, zq10, zq11, zq12, zq13, zq14, zq15, zq16, zq17, reduceIte, reduceCtorEq, valsV, slotsV, List.length_map])); repeat' ((first | refine at_guard (fun hb => ?_) (fun hb => ?_) | refine ⟨fun hb => ?_, fun hb => ?_⟩ | (refine at_callH [(1000, 9)] hcl rfl trivial rfl rfl rfl ?_) | fail) <;> (try (simp -implicitDefEqProofs only [go_sem, zq0, zq1, zq2, zq3, zq4, zq5, zq6, zq7, zq8, zq9, zq10, zq11, zq12, zq13, zq14, zq15, zq16, zq17, reduceIte, reduceCtorEq, valsV, slotsV, List.length_map])))
  refine at_loop (fun n st => ∃ (i : Nat) (out : List Val), i + n = l.length ∧ st = ⟨34, [(5, .arr 9 0 vals.length), (10, .seq 5 (l.map slotV)), (11, iv l.length), (12, iv i)], [(4, ⟨true, t_api_Value, 4, []⟩), (9, ⟨true, t_api_Value, 4, out.map valV⟩)]⟩ ∧ out.length = vals.length ∧ freeR (l.drop i) out = freeR l vals) l.length ⟨0, vals, by simp, rfl, rfl, rfl⟩ ?_
  rintro I hI n st ⟨i, out, hi, rfl, hol, hno⟩
  rw [← hno] at h
  simp -implicitDefEqProofs only [go_sem, zq0, zq1, zq2, zq3, zq4, zq5, zq6, zq7, zq8, zq9, zq10, zq11, zq12, zq13, zq14, zq15, zq16, zq17, reduceIte, reduceCtorEq]
  refine ⟨fun hlt => ?_, fun hge => ?_⟩
  · have hlt' : i < l.length := by omega
    obtain ⟨s, hx, _⟩ := at_some hlt'
    have hw := wrap_succ hlt' (by omega)
    have hgo := freeR_go (out := out) hx
    by_cases hc : 0 ≤ s.var ∧ s.var < out.length
    · obtain ⟨f, hf⟩ : ∃ f : Nat, s.var = f := ⟨s.var.toNat, by omega⟩
      have hfn : f < vals.length := by omega
      have hst := freeStep_in hf (by omega : f < out.length)
      obtain ⟨sv, ⟨k, m, str, bt⟩⟩ := s
      dsimp only at hf hst
      subst hf
      rw [hst] at hgo
      obtain ⟨old, hold, _⟩ := at_some (l := out) (i := f) (by omega)
      obtain ⟨o1, o2, o3, o4⟩ := old
      have hes : (List.map valV out)[f]? = some (.agg [iv o1, iv o2, .str o3, .bool o4]) := by rw [List.getElem?_map, hold]; rfl
      have hset : (List.map valV out).set f (.agg [iv k, iv m, .str str, .bool bt]) = List.map valV (out.set f ⟨k, m, str, bt⟩) := by rw [List.map_set]; rfl
      have hai : ∀ H : List (Nat × Box), hget H 9 = some ⟨true, t_api_Value, 4, out.map valV⟩ → aiaddr H 4 (.arr 9 0 vals.length) (iv f) = some (.ref 9 f 0) := fun H hH => aiaddr_row hH rfl hfn
      have e1 : ((0 : Int) ≤ f) = True := by simp
      have e2 : ((f : Int) < vals.length) = True := by simp; omega
      (try (simp -implicitDefEqProofs only [go_sem, zq0, zq1, zq2, zq3, zq4, zq5, zq6, zq7, zq8, zq9, zq10, zq11, zq12, zq13, zq14, zq15, zq16, zq17, reduceIte, reduceCtorEq, aiaddr_map hx, slotV, hw, hes, hset, hai, e1, e2, decide_true])); repeat' ((first | refine at_guard (fun hb => ?_) (fun hb => ?_) | refine ⟨fun hb => ?_, fun hb => ?_⟩ | fail) <;> (try (simp -implicitDefEqProofs only [go_sem, zq0, zq1, zq2, zq3, zq4, zq5, zq6, zq7, zq8, zq9, zq10, zq11, zq12, zq13, zq14, zq15, zq16, zq17, reduceIte, reduceCtorEq, aiaddr_map hx, slotV, hw, hes, hset, hai, e1, e2, decide_true])))
      exact at_again (n - 1) (by omega) (hI _ _ ⟨i + 1, _, by omega, rfl, by simp [hol], by rw [hgo, hno]⟩)
    · rw [freeStep_out hc] at hgo
      obtain ⟨sv, ⟨k, m, str, bt⟩⟩ := s
      dsimp only at hc
      by_cases h0 : 0 ≤ sv
      · have e1 : ((0 : Int) ≤ sv) = True := by simp; exact h0
        have e2 : (sv < (vals.length : Int)) = False := by simp; omega
        (try (simp -implicitDefEqProofs only [go_sem, zq0, zq1, zq2, zq3, zq4, zq5, zq6, zq7, zq8, zq9, zq10, zq11, zq12, zq13, zq14, zq15, zq16, zq17, reduceIte, reduceCtorEq, aiaddr_map hx, slotV, hw, e1, e2, decide_true, decide_false])); repeat' ((first | refine at_guard (fun hb => ?_) (fun hb => ?_) | refine ⟨fun hb => ?_, fun hb => ?_⟩ | fail) <;> (try (simp -implicitDefEqProofs only [go_sem, zq0, zq1, zq2, zq3, zq4, zq5, zq6, zq7, zq8, zq9, zq10, zq11, zq12, zq13, zq14, zq15, zq16, zq17, reduceIte, reduceCtorEq, aiaddr_map hx, slotV, hw, e1, e2, decide_true, decide_false])))
        exact at_again (n - 1) (by omega) (hI _ _ ⟨i + 1, _, by omega, rfl, hol, by rw [hgo, hno]⟩)
      · have e1 : ((0 : Int) ≤ sv) = False := by simp; omega
        (try (simp -implicitDefEqProofs only [go_sem, zq0, zq1, zq2, zq3, zq4, zq5, zq6, zq7, zq8, zq9, zq10, zq11, zq12, zq13, zq14, zq15, zq16, zq17, reduceIte, reduceCtorEq, aiaddr_map hx, slotV, hw, e1, decide_false])); repeat' ((first | refine at_guard (fun hb => ?_) (fun hb => ?_) | refine ⟨fun hb => ?_, fun hb => ?_⟩ | fail) <;> (try (simp -implicitDefEqProofs only [go_sem, zq0, zq1, zq2, zq3, zq4, zq5, zq6, zq7, zq8, zq9, zq10, zq11, zq12, zq13, zq14, zq15, zq16, zq17, reduceIte, reduceCtorEq, aiaddr_map hx, slotV, hw, e1, decide_false])))
        exact at_again (n - 1) (by omega) (hI _ _ ⟨i + 1, _, by omega, rfl, hol, by rw [hgo, hno]⟩)
  · rw [freeR_end (by omega)] at h
    have hview : ∀ H : List (Nat × Box), hget H 9 = some ⟨true, t_api_Value, 4, out.map valV⟩ → view H (.arr 9 0 vals.length) = some (valsV out) := fun H hH => view_row hH hol
    (try (simp -implicitDefEqProofs only [go_sem, zq0, zq1, zq2, zq3, zq4, zq5, zq6, zq7, zq8, zq9, zq10, zq11, zq12, zq13, zq14, zq15, zq16, zq17, reduceIte, reduceCtorEq])); repeat' ((first | refine at_guard (fun hb => ?_) (fun hb => ?_) | refine ⟨fun hb => ?_, fun hb => ?_⟩ | fail) <;> (try (simp -implicitDefEqProofs only [go_sem, zq0, zq1, zq2, zq3, zq4, zq5, zq6, zq7, zq8, zq9, zq10, zq11, zq12, zq13, zq14, zq15, zq16, zq17, reduceIte, reduceCtorEq])))
    exact h _ ⟨_, _, rfl, hview _ rfl, .refl _⟩
theorem law16_EvalFree_pc (hG : errG G) (vals : List Val) (l : List SlotT) : PureC Tryd.prog G n_proctorlaw16_EvalFree [valsV vals, slotsV l] (.bool true) := by
  have ha := law16_awake_pc hG
  refine pc_proctorlaw16_EvalFree (Runs.of fun Φ h => ?_)
  unfold c_proctorlaw16_EvalFree
  by_cases h20 : (20 : Int) < vals.length
  · have e1 : ((20 : Int) < vals.length) = True := by simp; omega
    (try (simp -implicitDefEqProofs only [go_sem, zq0, zq1, zq2, zq3, zq4, zq5, zq6, zq7, zq8, zq9, zq10, zq11, zq12, zq13, zq14, zq15, zq16, zq17, reduceIte, reduceCtorEq, valsV, slotsV, List.length_map, e1, decide_true])); repeat' ((first | refine at_guard (fun hb => ?_) (fun hb => ?_) | refine ⟨fun hb => ?_, fun hb => ?_⟩ | refine at_call (ha) rfl rfl ?_ | fail) <;> (try (simp -implicitDefEqProofs only [go_sem, zq0, zq1, zq2, zq3, zq4, zq5, zq6, zq7, zq8, zq9, zq10, zq11, zq12, zq13, zq14, zq15, zq16, zq17, reduceIte, reduceCtorEq, valsV, slotsV, List.length_map, e1, decide_true])))
    exact h _ ⟨_, _, rfl, rfl, .refl _⟩
  have e1 : ((20 : Int) < vals.length) = False := by simp; omega
  by_cases h21 : (20 : Int) < l.length
  · have e2 : ((20 : Int) < l.length) = True := by simp; omega
    (try (simp -implicitDefEqProofs only [go_sem, zq0, zq1, zq2, zq3, zq4, zq5, zq6, zq7, zq8, zq9, zq10, zq11, zq12, zq13, zq14, zq15, zq16, zq17, reduceIte, reduceCtorEq, valsV, slotsV, List.length_map, e1, e2, decide_true, decide_false])); repeat' ((first | refine at_guard (fun hb => ?_) (fun hb => ?_) | refine ⟨fun hb => ?_, fun hb => ?_⟩ | refine at_call (ha) rfl rfl ?_ | fail) <;> (try (simp -implicitDefEqProofs only [go_sem, zq0, zq1, zq2, zq3, zq4, zq5, zq6, zq7, zq8, zq9, zq10, zq11, zq12, zq13, zq14, zq15, zq16, zq17, reduceIte, reduceCtorEq, valsV, slotsV, List.length_map, e1, e2, decide_true, decide_false])))
    exact h _ ⟨_, _, rfl, rfl, .refl _⟩
  have e2 : ((20 : Int) < l.length) = False := by simp; omega
  have hb : vals.length * 40 ≤ 140737488355328 := by omega
  (try (simp -implicitDefEqProofs only [go_sem, zq0, zq1, zq2, zq3, zq4, zq5, zq6, zq7, zq8, zq9, zq10, zq11, zq12, zq13, zq14, zq15, zq16, zq17, reduceIte, reduceCtorEq, valsV, slotsV, List.length_map, e1, e2, decide_false, hb])); repeat' ((first | refine at_guard (fun hb => ?_) (fun hb => ?_) | refine ⟨fun hb => ?_, fun hb => ?_⟩ | fail) <;> (try (simp -implicitDefEqProofs only [go_sem, zq0, zq1, zq2, zq3, zq4, zq5, zq6, zq7, zq8, zq9, zq10, zq11, zq12, zq13, zq14, zq15, zq16, zq17, reduceIte, reduceCtorEq, valsV, slotsV, List.length_map, e1, e2, decide_false, hb])))
  refine at_loop (fun n st => ∃ (i : Nat) (out : List Val), i + n = l.length ∧ st = ⟨61, [(0, .seq 4 (vals.map valV)), (1, .seq 5 (l.map slotV)), (5, .arr 16 0 vals.length), (6, iv i)], [(16, ⟨true, t_api_Value, 4, out.map valV⟩)]⟩ ∧ out.length = vals.length ∧ freeR (l.drop i) out = freeR l vals) l.length ⟨0, vals, by simp, rfl, rfl, rfl⟩ ?_
  rintro I hI n st ⟨i, out, hi, rfl, hol, hno⟩
  simp -implicitDefEqProofs only [go_sem, zq0, zq1, zq2, zq3, zq4, zq5, zq6, zq7, zq8, zq9, zq10, zq11, zq12, zq13, zq14, zq15, zq16, zq17, reduceIte, reduceCtorEq, List.length_map]
  refine ⟨fun hlt => ?_, fun hge => ?_⟩
  · have hlt' : i < l.length := by omega
    obtain ⟨s, hx, _⟩ := at_some hlt'
    have hw := wrap_succ hlt' (by omega)
    have hgo := freeR_go (out := out) hx
    by_cases hc : 0 ≤ s.var ∧ s.var < out.length
    · obtain ⟨f, hf⟩ : ∃ f : Nat, s.var = f := ⟨s.var.toNat, by omega⟩
      have hfn : f < vals.length := by omega
      have hst := freeStep_in hf (by omega : f < out.length)
      obtain ⟨sv, ⟨k, m, str, bt⟩⟩ := s
      dsimp only at hf hst
      subst hf
      rw [hst] at hgo
      obtain ⟨old, hold, _⟩ := at_some (l := out) (i := f) (by omega)
      obtain ⟨o1, o2, o3, o4⟩ := old
      have hes : (List.map valV out)[f]? = some (.agg [iv o1, iv o2, .str o3, .bool o4]) := by rw [List.getElem?_map, hold]; rfl
      have hset : (List.map valV out).set f (.agg [iv k, iv m, .str str, .bool bt]) = List.map valV (out.set f ⟨k, m, str, bt⟩) := by rw [List.map_set]; rfl
      have hai : ∀ H : List (Nat × Box), hget H 16 = some ⟨true, t_api_Value, 4, out.map valV⟩ → aiaddr H 4 (.arr 16 0 vals.length) (iv f) = some (.ref 16 f 0) := fun H hH => aiaddr_row hH rfl hfn
      have e3 : ((0 : Int) ≤ f) = True := by simp
      have e4 : ((f : Int) < vals.length) = True := by simp; omega
      (try (simp -implicitDefEqProofs only [go_sem, zq0, zq1, zq2, zq3, zq4, zq5, zq6, zq7, zq8, zq9, zq10, zq11, zq12, zq13, zq14, zq15, zq16, zq17, reduceIte, reduceCtorEq, aiaddr_map hx, slotV, hw, hes, hset, hai, e3, e4, decide_true])); repeat' ((first | refine at_guard (fun hb => ?_) (fun hb => ?_) | refine ⟨fun hb => ?_, fun hb => ?_⟩ | fail) <;> (try (simp -implicitDefEqProofs only [go_sem, zq0, zq1, zq2, zq3, zq4, zq5, zq6, zq7, zq8, zq9, zq10, zq11, zq12, zq13, zq14, zq15, zq16, zq17, reduceIte, reduceCtorEq, aiaddr_map hx, slotV, hw, hes, hset, hai, e3, e4, decide_true])))
      exact at_again (n - 1) (by omega) (hI _ _ ⟨i + 1, _, by omega, rfl, by simp [hol], by rw [hgo, hno]⟩)
    · rw [freeStep_out hc] at hgo
      obtain ⟨sv, ⟨k, m, str, bt⟩⟩ := s
      dsimp only at hc
      by_cases h0 : 0 ≤ sv
      · have e3 : ((0 : Int) ≤ sv) = True := by simp; exact h0
        have e4 : (sv < (vals.length : Int)) = False := by simp; omega
        (try (simp -implicitDefEqProofs only [go_sem, zq0, zq1, zq2, zq3, zq4, zq5, zq6, zq7, zq8, zq9, zq10, zq11, zq12, zq13, zq14, zq15, zq16, zq17, reduceIte, reduceCtorEq, aiaddr_map hx, slotV, hw, e3, e4, decide_true, decide_false])); repeat' ((first | refine at_guard (fun hb => ?_) (fun hb => ?_) | refine ⟨fun hb => ?_, fun hb => ?_⟩ | fail) <;> (try (simp -implicitDefEqProofs only [go_sem, zq0, zq1, zq2, zq3, zq4, zq5, zq6, zq7, zq8, zq9, zq10, zq11, zq12, zq13, zq14, zq15, zq16, zq17, reduceIte, reduceCtorEq, aiaddr_map hx, slotV, hw, e3, e4, decide_true, decide_false])))
        exact at_again (n - 1) (by omega) (hI _ _ ⟨i + 1, _, by omega, rfl, hol, by rw [hgo, hno]⟩)
      · have e3 : ((0 : Int) ≤ sv) = False := by simp; omega
        (try (simp -implicitDefEqProofs only [go_sem, zq0, zq1, zq2, zq3, zq4, zq5, zq6, zq7, zq8, zq9, zq10, zq11, zq12, zq13, zq14, zq15, zq16, zq17, reduceIte, reduceCtorEq, aiaddr_map hx, slotV, hw, e3, decide_false])); repeat' ((first | refine at_guard (fun hb => ?_) (fun hb => ?_) | refine ⟨fun hb => ?_, fun hb => ?_⟩ | fail) <;> (try (simp -implicitDefEqProofs only [go_sem, zq0, zq1, zq2, zq3, zq4, zq5, zq6, zq7, zq8, zq9, zq10, zq11, zq12, zq13, zq14, zq15, zq16, zq17, reduceIte, reduceCtorEq, aiaddr_map hx, slotV, hw, e3, decide_false])))
        exact at_again (n - 1) (by omega) (hI _ _ ⟨i + 1, _, by omega, rfl, hol, by rw [hgo, hno]⟩)
  · rw [freeR_end (by omega)] at hno
    subst hno
    have hfl := freeR_len l vals
    have h1 := eval_Free_pc (G := G) vals l (by omega) (by omega)
    have h2 := law16_same_pc (G := G) (freeR l vals) (freeR l vals) (by omega) (by omega)
    rw [decide_eq_true rfl] at h2
    have hv : ∀ H : List (Nat × Box), hget H 16 = some ⟨true, t_api_Value, 4, (freeR l vals).map valV⟩ → viewC (.bool true) H [.seq 4 ((freeR l vals).map valV), .arr 16 0 vals.length] = some [.seq 4 ((freeR l vals).map valV), .seq 4 ((freeR l vals).map valV)] := fun H hH => by
      have hle : vals.length ≤ (freeR l vals).length := by omega
      simp [viewC, flat, viewBs, viewB, viewK, hH, hle]
      exact List.take_of_length_le (by simp [hfl])
    simp only [valsV, slotsV] at h1 h2
    (try (simp -implicitDefEqProofs only [go_sem, zq0, zq1, zq2, zq3, zq4, zq5, zq6, zq7, zq8, zq9, zq10, zq11, zq12, zq13, zq14, zq15, zq16, zq17, reduceIte, reduceCtorEq, valsV, slotsV])); repeat' ((first | refine at_guard (fun hb => ?_) (fun hb => ?_) | refine ⟨fun hb => ?_, fun hb => ?_⟩ | refine at_call (h1) rfl rfl ?_ | (refine at_call h2 (hv _ rfl) rfl ?_) | refine at_call (ha) rfl rfl ?_ | fail) <;> (try (simp -implicitDefEqProofs only [go_sem, zq0, zq1, zq2, zq3, zq4, zq5, zq6, zq7, zq8, zq9, zq10, zq11, zq12, zq13, zq14, zq15, zq16, zq17, reduceIte, reduceCtorEq, valsV, slotsV])))
    exact h _ ⟨_, _, rfl, rfl, .refl _⟩
end Go.Proofs.YtdfdiglnpekcpabDoor.Ab
