/-
  binding.pick, Keep, Under1. No claim is proved here.
-/
import Derived.Test.YtjkdpahaingjjaaYMo3
import Derived.Test.YtjkdpahaingjjaaYD8
namespace Go.Proofs.Ytjkdpahaingjjaa.Ab
open Go Go.RowKit
set_option linter.unusedSimpArgs false
set_option maxHeartbeats 4000000
set_option maxRecDepth 100000
variable {G : Nat → Option AV}
theorem pickI_hc (f : Nat) (vs : List Int) (hf : bodyB Try.prog f = true) (p : SlotT → Bool) (l : List SlotT) (hl : l.length ≤ 1000) (hp : ∀ x ∈ l, HeapC Try.prog G f [slotV x, .ref 1001 0 0] [(1001, ⟨false, t_Sint, 1, [.seq 1 (vs.map iv)]⟩)] (.bool (p x)) [(1001, ⟨false, t_Sint, 1, [.seq 1 (vs.map iv)]⟩)]) :
    HeapC Try.prog G n_binding_pick [slotsV l, .fn f [.ref 1001 0 0]] [(1001, ⟨false, t_Sint, 1, [.seq 1 (vs.map iv)]⟩)] (.arr 5 0 (l.filter p).length) [(1001, ⟨false, t_Sint, 1, [.seq 1 (vs.map iv)]⟩), (5, ⟨true, t_api_Slot, 5, (l.filter p).map slotV⟩)] := by
  refine hc_binding_pick (RunsH.of fun Φ h => ?_)
  unfold c_binding_pick
  simp -implicitDefEqProofs only [go_sem, Nat.reduceAdd, Nat.reduceSub, Nat.reduceMul, Nat.reduceLT, Nat.reduceLeDiff, Nat.reduceEqDiff, Nat.reduceBEq, Int.reduceNeg, Int.reduceAdd, Int.reduceLT, Int.reduceLE, Int.reduceToNat, Int.reduceEq, Int.reduceNe, Int.reduceBEq, Int.reduceBNe, Int.reduceMul, Int.reduceSub, reduceIte, reduceCtorEq, slotsV, List.length_map]
  refine at_loop (fun n st => ∃ (i : Nat) (m : List SlotT), i + n = l.length ∧ st = ⟨23, [(1, .fn f [.ref 1001 0 0]), (5, .arr 5 0 m.length), (8, .seq 5 (l.map slotV)), (9, iv l.length), (10, iv i)], [(4, ⟨true, t_api_Slot, 5, []⟩), (5, ⟨true, t_api_Slot, 5, m.map slotV⟩), (1001, ⟨false, t_Sint, 1, [.seq 1 (vs.map iv)]⟩)]⟩ ∧ m = (l.take i).filter p) l.length ⟨0, [], by simp, rfl, rfl⟩ ?_
  rintro I hI n st ⟨i, m, hi, rfl, hm⟩
  have hml : m.length ≤ l.length := by
    have : m.length ≤ (l.take i).length := by rw [hm]; exact List.length_filter_le _ _
    rw [List.length_take] at this
    omega
  simp -implicitDefEqProofs only [go_sem, Nat.reduceAdd, Nat.reduceSub, Nat.reduceMul, Nat.reduceLT, Nat.reduceLeDiff, Nat.reduceEqDiff, Nat.reduceBEq, Int.reduceNeg, Int.reduceAdd, Int.reduceLT, Int.reduceLE, Int.reduceToNat, Int.reduceEq, Int.reduceNe, Int.reduceBEq, Int.reduceBNe, Int.reduceMul, Int.reduceSub, reduceIte, reduceCtorEq, List.length_map]
  refine ⟨fun hlt => ?_, fun hge => ?_⟩
  · have hlt' : i < l.length := by omega
    obtain ⟨x, hx1, hxm⟩ := at_some hlt'
    have hw := wrap_succ hlt' (by omega)
    have hc := hp x hxm
    have hnx := filter_takeC (p := p) hx1
    rw [← hm] at hnx
    have hb1 : (m.length + 1) * 48 ≤ 140737488355328 := by omega
    obtain ⟨v1, ⟨k1, n1, s1, t1⟩⟩ := x
    simp only [slotV] at hc
    cases hu : p ⟨v1, ⟨k1, n1, s1, t1⟩⟩ with
    | true =>
      rw [hu] at hc
      rw [hu, if_pos rfl] at hnx
      (try (simp -implicitDefEqProofs only [go_sem, Nat.reduceAdd, Nat.reduceSub, Nat.reduceMul, Nat.reduceLT, Nat.reduceLeDiff, Nat.reduceEqDiff, Nat.reduceBEq, Int.reduceNeg, Int.reduceAdd, Int.reduceLT, Int.reduceLE, Int.reduceToNat, Int.reduceEq, Int.reduceNe, Int.reduceBEq, Int.reduceBNe, Int.reduceMul, Int.reduceSub, reduceIte, reduceCtorEq, aiaddr_map hx1, slotV, hw, List.length_map, hb1])); repeat' ((first | refine at_guard (fun hb => ?_) (fun hb => ?_) | refine ⟨fun hb => ?_, fun hb => ?_⟩ | (refine ⟨hf, at_callH [(1001, 1001)] hc rfl ⟨⟨_, _, rfl, rfl, rfl⟩, trivial⟩ rfl rfl rfl ?_⟩) | fail) <;> (try (simp -implicitDefEqProofs only [go_sem, Nat.reduceAdd, Nat.reduceSub, Nat.reduceMul, Nat.reduceLT, Nat.reduceLeDiff, Nat.reduceEqDiff, Nat.reduceBEq, Int.reduceNeg, Int.reduceAdd, Int.reduceLT, Int.reduceLE, Int.reduceToNat, Int.reduceEq, Int.reduceNe, Int.reduceBEq, Int.reduceBNe, Int.reduceMul, Int.reduceSub, reduceIte, reduceCtorEq, aiaddr_map hx1, slotV, hw, List.length_map, hb1])))
      refine at_again (n - 1) (by omega) (hI _ _ ⟨i + 1, m ++ [⟨v1, ⟨k1, n1, s1, t1⟩⟩], by omega, ?_, hnx.symm⟩)
      simp [slotV]
    | false =>
      rw [hu] at hc
      rw [hu, if_neg (by simp), List.append_nil] at hnx
      (try (simp -implicitDefEqProofs only [go_sem, Nat.reduceAdd, Nat.reduceSub, Nat.reduceMul, Nat.reduceLT, Nat.reduceLeDiff, Nat.reduceEqDiff, Nat.reduceBEq, Int.reduceNeg, Int.reduceAdd, Int.reduceLT, Int.reduceLE, Int.reduceToNat, Int.reduceEq, Int.reduceNe, Int.reduceBEq, Int.reduceBNe, Int.reduceMul, Int.reduceSub, reduceIte, reduceCtorEq, aiaddr_map hx1, slotV, hw, List.length_map, hb1])); repeat' ((first | refine at_guard (fun hb => ?_) (fun hb => ?_) | refine ⟨fun hb => ?_, fun hb => ?_⟩ | (refine ⟨hf, at_callH [(1001, 1001)] hc rfl ⟨⟨_, _, rfl, rfl, rfl⟩, trivial⟩ rfl rfl rfl ?_⟩) | fail) <;> (try (simp -implicitDefEqProofs only [go_sem, Nat.reduceAdd, Nat.reduceSub, Nat.reduceMul, Nat.reduceLT, Nat.reduceLeDiff, Nat.reduceEqDiff, Nat.reduceBEq, Int.reduceNeg, Int.reduceAdd, Int.reduceLT, Int.reduceLE, Int.reduceToNat, Int.reduceEq, Int.reduceNe, Int.reduceBEq, Int.reduceBNe, Int.reduceMul, Int.reduceSub, reduceIte, reduceCtorEq, aiaddr_map hx1, slotV, hw, List.length_map, hb1])))
      exact at_again (n - 1) (by omega) (hI _ _ ⟨i + 1, m, by omega, rfl, hnx.symm⟩)
  · rw [List.take_of_length_le (by omega)] at hm
    rw [← hm] at h
    clear hI hm
    (try (simp -implicitDefEqProofs only [go_sem, Nat.reduceAdd, Nat.reduceSub, Nat.reduceMul, Nat.reduceLT, Nat.reduceLeDiff, Nat.reduceEqDiff, Nat.reduceBEq, Int.reduceNeg, Int.reduceAdd, Int.reduceLT, Int.reduceLE, Int.reduceToNat, Int.reduceEq, Int.reduceNe, Int.reduceBEq, Int.reduceBNe, Int.reduceMul, Int.reduceSub, reduceIte, reduceCtorEq])); repeat' ((first | refine at_guard (fun hb => ?_) (fun hb => ?_) | refine ⟨fun hb => ?_, fun hb => ?_⟩ | fail) <;> (try (simp -implicitDefEqProofs only [go_sem, Nat.reduceAdd, Nat.reduceSub, Nat.reduceMul, Nat.reduceLT, Nat.reduceLeDiff, Nat.reduceEqDiff, Nat.reduceBEq, Int.reduceNeg, Int.reduceAdd, Int.reduceLT, Int.reduceLE, Int.reduceToNat, Int.reduceEq, Int.reduceNe, Int.reduceBEq, Int.reduceBNe, Int.reduceMul, Int.reduceSub, reduceIte, reduceCtorEq])))
    refine h _ ⟨_, _, Weak.refl _, rfl, .refl _, fun i b hi => ?_⟩
    simp only [hget] at hi ⊢
    split at hi
    · rename_i e; subst e; cases hi; rfl
    · split at hi
      · rename_i e; subst e; cases hi; rfl
      · cases hi
theorem pickS_hc (f : Nat) (s : SlotT) (hf : bodyB Try.prog f = true) (p : SlotT → Bool) (l : List SlotT) (hl : l.length ≤ 1000) (hp : ∀ x ∈ l, HeapC Try.prog G f [slotV x, .ref 1001 0 0] [(1001, ⟨false, t_api_Slot, 5, [.agg [iv s.var, iv s.value.kind, iv s.value.int, .str s.value.str, .bool s.value.bool]]⟩)] (.bool (p x)) [(1001, ⟨false, t_api_Slot, 5, [.agg [iv s.var, iv s.value.kind, iv s.value.int, .str s.value.str, .bool s.value.bool]]⟩)]) :
    HeapC Try.prog G n_binding_pick [slotsV l, .fn f [.ref 1001 0 0]] [(1001, ⟨false, t_api_Slot, 5, [.agg [iv s.var, iv s.value.kind, iv s.value.int, .str s.value.str, .bool s.value.bool]]⟩)] (.arr 5 0 (l.filter p).length) [(1001, ⟨false, t_api_Slot, 5, [.agg [iv s.var, iv s.value.kind, iv s.value.int, .str s.value.str, .bool s.value.bool]]⟩), (5, ⟨true, t_api_Slot, 5, (l.filter p).map slotV⟩)] := by
  refine hc_binding_pick (RunsH.of fun Φ h => ?_)
  unfold c_binding_pick
  simp -implicitDefEqProofs only [go_sem, Nat.reduceAdd, Nat.reduceSub, Nat.reduceMul, Nat.reduceLT, Nat.reduceLeDiff, Nat.reduceEqDiff, Nat.reduceBEq, Int.reduceNeg, Int.reduceAdd, Int.reduceLT, Int.reduceLE, Int.reduceToNat, Int.reduceEq, Int.reduceNe, Int.reduceBEq, Int.reduceBNe, Int.reduceMul, Int.reduceSub, reduceIte, reduceCtorEq, slotsV, List.length_map]
  refine at_loop (fun n st => ∃ (i : Nat) (m : List SlotT), i + n = l.length ∧ st = ⟨23, [(1, .fn f [.ref 1001 0 0]), (5, .arr 5 0 m.length), (8, .seq 5 (l.map slotV)), (9, iv l.length), (10, iv i)], [(4, ⟨true, t_api_Slot, 5, []⟩), (5, ⟨true, t_api_Slot, 5, m.map slotV⟩), (1001, ⟨false, t_api_Slot, 5, [.agg [iv s.var, iv s.value.kind, iv s.value.int, .str s.value.str, .bool s.value.bool]]⟩)]⟩ ∧ m = (l.take i).filter p) l.length ⟨0, [], by simp, rfl, rfl⟩ ?_
  rintro I hI n st ⟨i, m, hi, rfl, hm⟩
  have hml : m.length ≤ l.length := by
    have : m.length ≤ (l.take i).length := by rw [hm]; exact List.length_filter_le _ _
    rw [List.length_take] at this
    omega
  simp -implicitDefEqProofs only [go_sem, Nat.reduceAdd, Nat.reduceSub, Nat.reduceMul, Nat.reduceLT, Nat.reduceLeDiff, Nat.reduceEqDiff, Nat.reduceBEq, Int.reduceNeg, Int.reduceAdd, Int.reduceLT, Int.reduceLE, Int.reduceToNat, Int.reduceEq, Int.reduceNe, Int.reduceBEq, Int.reduceBNe, Int.reduceMul, Int.reduceSub, reduceIte, reduceCtorEq, List.length_map]
  refine ⟨fun hlt => ?_, fun hge => ?_⟩
  · have hlt' : i < l.length := by omega
    obtain ⟨x, hx1, hxm⟩ := at_some hlt'
    have hw := wrap_succ hlt' (by omega)
    have hc := hp x hxm
    have hnx := filter_takeC (p := p) hx1
    rw [← hm] at hnx
    have hb1 : (m.length + 1) * 48 ≤ 140737488355328 := by omega
    obtain ⟨v1, ⟨k1, n1, s1, t1⟩⟩ := x
    simp only [slotV] at hc
    cases hu : p ⟨v1, ⟨k1, n1, s1, t1⟩⟩ with
    | true =>
      rw [hu] at hc
      rw [hu, if_pos rfl] at hnx
      (try (simp -implicitDefEqProofs only [go_sem, Nat.reduceAdd, Nat.reduceSub, Nat.reduceMul, Nat.reduceLT, Nat.reduceLeDiff, Nat.reduceEqDiff, Nat.reduceBEq, Int.reduceNeg, Int.reduceAdd, Int.reduceLT, Int.reduceLE, Int.reduceToNat, Int.reduceEq, Int.reduceNe, Int.reduceBEq, Int.reduceBNe, Int.reduceMul, Int.reduceSub, reduceIte, reduceCtorEq, aiaddr_map hx1, slotV, hw, List.length_map, hb1])); repeat' ((first | refine at_guard (fun hb => ?_) (fun hb => ?_) | refine ⟨fun hb => ?_, fun hb => ?_⟩ | (refine ⟨hf, at_callH [(1001, 1001)] hc rfl ⟨⟨_, _, rfl, rfl, rfl⟩, trivial⟩ rfl rfl rfl ?_⟩) | fail) <;> (try (simp -implicitDefEqProofs only [go_sem, Nat.reduceAdd, Nat.reduceSub, Nat.reduceMul, Nat.reduceLT, Nat.reduceLeDiff, Nat.reduceEqDiff, Nat.reduceBEq, Int.reduceNeg, Int.reduceAdd, Int.reduceLT, Int.reduceLE, Int.reduceToNat, Int.reduceEq, Int.reduceNe, Int.reduceBEq, Int.reduceBNe, Int.reduceMul, Int.reduceSub, reduceIte, reduceCtorEq, aiaddr_map hx1, slotV, hw, List.length_map, hb1])))
      refine at_again (n - 1) (by omega) (hI _ _ ⟨i + 1, m ++ [⟨v1, ⟨k1, n1, s1, t1⟩⟩], by omega, ?_, hnx.symm⟩)
      simp [slotV]
    | false =>
      rw [hu] at hc
      rw [hu, if_neg (by simp), List.append_nil] at hnx
      (try (simp -implicitDefEqProofs only [go_sem, Nat.reduceAdd, Nat.reduceSub, Nat.reduceMul, Nat.reduceLT, Nat.reduceLeDiff, Nat.reduceEqDiff, Nat.reduceBEq, Int.reduceNeg, Int.reduceAdd, Int.reduceLT, Int.reduceLE, Int.reduceToNat, Int.reduceEq, Int.reduceNe, Int.reduceBEq, Int.reduceBNe, Int.reduceMul, Int.reduceSub, reduceIte, reduceCtorEq, aiaddr_map hx1, slotV, hw, List.length_map, hb1])); repeat' ((first | refine at_guard (fun hb => ?_) (fun hb => ?_) | refine ⟨fun hb => ?_, fun hb => ?_⟩ | (refine ⟨hf, at_callH [(1001, 1001)] hc rfl ⟨⟨_, _, rfl, rfl, rfl⟩, trivial⟩ rfl rfl rfl ?_⟩) | fail) <;> (try (simp -implicitDefEqProofs only [go_sem, Nat.reduceAdd, Nat.reduceSub, Nat.reduceMul, Nat.reduceLT, Nat.reduceLeDiff, Nat.reduceEqDiff, Nat.reduceBEq, Int.reduceNeg, Int.reduceAdd, Int.reduceLT, Int.reduceLE, Int.reduceToNat, Int.reduceEq, Int.reduceNe, Int.reduceBEq, Int.reduceBNe, Int.reduceMul, Int.reduceSub, reduceIte, reduceCtorEq, aiaddr_map hx1, slotV, hw, List.length_map, hb1])))
      exact at_again (n - 1) (by omega) (hI _ _ ⟨i + 1, m, by omega, rfl, hnx.symm⟩)
  · rw [List.take_of_length_le (by omega)] at hm
    rw [← hm] at h
    clear hI hm
    (try (simp -implicitDefEqProofs only [go_sem, Nat.reduceAdd, Nat.reduceSub, Nat.reduceMul, Nat.reduceLT, Nat.reduceLeDiff, Nat.reduceEqDiff, Nat.reduceBEq, Int.reduceNeg, Int.reduceAdd, Int.reduceLT, Int.reduceLE, Int.reduceToNat, Int.reduceEq, Int.reduceNe, Int.reduceBEq, Int.reduceBNe, Int.reduceMul, Int.reduceSub, reduceIte, reduceCtorEq])); repeat' ((first | refine at_guard (fun hb => ?_) (fun hb => ?_) | refine ⟨fun hb => ?_, fun hb => ?_⟩ | fail) <;> (try (simp -implicitDefEqProofs only [go_sem, Nat.reduceAdd, Nat.reduceSub, Nat.reduceMul, Nat.reduceLT, Nat.reduceLeDiff, Nat.reduceEqDiff, Nat.reduceBEq, Int.reduceNeg, Int.reduceAdd, Int.reduceLT, Int.reduceLE, Int.reduceToNat, Int.reduceEq, Int.reduceNe, Int.reduceBEq, Int.reduceBNe, Int.reduceMul, Int.reduceSub, reduceIte, reduceCtorEq])))
    refine h _ ⟨_, _, Weak.refl _, rfl, .refl _, fun i b hi => ?_⟩
    simp only [hget] at hi ⊢
    split at hi
    · rename_i e; subst e; cases hi; rfl
    · split at hi
      · rename_i e; subst e; cases hi; rfl
      · cases hi
def intsBox (vs : List Int) : Box := ⟨false, t_Sint, 1, [.seq 1 (vs.map iv)]⟩
def slotBox (s : SlotT) : Box := ⟨false, t_api_Slot, 5, [.agg [iv s.var, iv s.value.kind, iv s.value.int, .str s.value.str, .bool s.value.bool]]⟩
theorem Keep_1_hc (x : SlotT) (vs : List Int) (hv : vs.length < 9223372036854775807) : HeapC Try.prog G n_binding_Keep_1 [slotV x, .ref 1001 0 0] [(1001, intsBox vs)] (.bool (vs.any fun y => x.var == y)) [(1001, intsBox vs)] := by
  have hc := slices_Contains_int_int_pc (G := G) vs x.var hv
  refine hc_binding_Keep_1 (RunsH.of fun Φ h => ?_)
  unfold c_binding_Keep_1
  generalize (vs.any fun y => x.var == y) = z at *
  unfold intsBox at *
  (try (simp -implicitDefEqProofs only [go_sem, Nat.reduceAdd, Nat.reduceSub, Nat.reduceMul, Nat.reduceLT, Nat.reduceLeDiff, Nat.reduceEqDiff, Nat.reduceBEq, Int.reduceNeg, Int.reduceAdd, Int.reduceLT, Int.reduceLE, Int.reduceToNat, Int.reduceEq, Int.reduceNe, Int.reduceBEq, Int.reduceBNe, Int.reduceMul, Int.reduceSub, reduceIte, reduceCtorEq, slotV])); repeat' ((first | refine at_guard (fun hb => ?_) (fun hb => ?_) | refine ⟨fun hb => ?_, fun hb => ?_⟩ | refine at_call (hc) rfl rfl ?_ | fail) <;> (try (simp -implicitDefEqProofs only [go_sem, Nat.reduceAdd, Nat.reduceSub, Nat.reduceMul, Nat.reduceLT, Nat.reduceLeDiff, Nat.reduceEqDiff, Nat.reduceBEq, Int.reduceNeg, Int.reduceAdd, Int.reduceLT, Int.reduceLE, Int.reduceToNat, Int.reduceEq, Int.reduceNe, Int.reduceBEq, Int.reduceBNe, Int.reduceMul, Int.reduceSub, reduceIte, reduceCtorEq, slotV])))
  refine h _ ⟨_, _, Weak.refl _, rfl, .refl _, fun i b hi => ?_⟩
  simp only [hget] at hi ⊢
  split at hi
  · rename_i e; subst e; cases hi; rfl
  · cases hi
def keepL (b : List SlotT) (vs : List Int) : List SlotT := b.filter fun x => vs.any fun y => x.var == y
theorem Keep_pc (b : List SlotT) (vs : List Int) (hb : b.length ≤ 1000) (hv : vs.length < 9223372036854775807) : PureC Try.prog G n_binding_Keep [slotsV b, .seq 1 (vs.map iv)] (slotsV (keepL b vs)) := by
  have hc := pickI_hc (G := G) n_binding_Keep_1 vs (by kernel_rfl) (fun x => vs.any fun y => x.var == y) b hb (fun x _ => Keep_1_hc x vs hv)
  refine pc_binding_Keep (Runs.of fun Φ h => ?_)
  unfold c_binding_Keep
  unfold keepL at h
  simp only [slotsV] at hc
  generalize (b.filter fun x => vs.any fun y => x.var == y) = r at *
  (try (simp -implicitDefEqProofs only [go_sem, Nat.reduceAdd, Nat.reduceSub, Nat.reduceMul, Nat.reduceLT, Nat.reduceLeDiff, Nat.reduceEqDiff, Nat.reduceBEq, Int.reduceNeg, Int.reduceAdd, Int.reduceLT, Int.reduceLE, Int.reduceToNat, Int.reduceEq, Int.reduceNe, Int.reduceBEq, Int.reduceBNe, Int.reduceMul, Int.reduceSub, reduceIte, reduceCtorEq, slotsV])); repeat' ((first | refine at_guard (fun hb => ?_) (fun hb => ?_) | refine ⟨fun hb => ?_, fun hb => ?_⟩ | (refine at_callH [(1001, 3), (5, 7)] hc rfl ⟨⟨_, _, rfl, rfl, rfl⟩, trivial⟩ rfl rfl rfl ?_) | fail) <;> (try (simp -implicitDefEqProofs only [go_sem, Nat.reduceAdd, Nat.reduceSub, Nat.reduceMul, Nat.reduceLT, Nat.reduceLeDiff, Nat.reduceEqDiff, Nat.reduceBEq, Int.reduceNeg, Int.reduceAdd, Int.reduceLT, Int.reduceLE, Int.reduceToNat, Int.reduceEq, Int.reduceNe, Int.reduceBEq, Int.reduceBNe, Int.reduceMul, Int.reduceSub, reduceIte, reduceCtorEq, slotsV])))
  exact h _ ⟨_, _, rfl, view_row (e := slotV) (l := r) (ty := t_api_Slot) (by decide) rfl rfl, .refl _⟩
theorem Under1_1_hc (x s : SlotT) : HeapC Try.prog G n_binding_Under1_1 [slotV x, .ref 1001 0 0] [(1001, slotBox s)] (.bool (x.var != s.var)) [(1001, slotBox s)] := by
  refine hc_binding_Under1_1 (RunsH.of fun Φ h => ?_)
  unfold c_binding_Under1_1
  unfold slotBox at *
  (try (simp -implicitDefEqProofs only [go_sem, Nat.reduceAdd, Nat.reduceSub, Nat.reduceMul, Nat.reduceLT, Nat.reduceLeDiff, Nat.reduceEqDiff, Nat.reduceBEq, Int.reduceNeg, Int.reduceAdd, Int.reduceLT, Int.reduceLE, Int.reduceToNat, Int.reduceEq, Int.reduceNe, Int.reduceBEq, Int.reduceBNe, Int.reduceMul, Int.reduceSub, reduceIte, reduceCtorEq, slotV])); repeat' ((first | refine at_guard (fun hb => ?_) (fun hb => ?_) | refine ⟨fun hb => ?_, fun hb => ?_⟩ | fail) <;> (try (simp -implicitDefEqProofs only [go_sem, Nat.reduceAdd, Nat.reduceSub, Nat.reduceMul, Nat.reduceLT, Nat.reduceLeDiff, Nat.reduceEqDiff, Nat.reduceBEq, Int.reduceNeg, Int.reduceAdd, Int.reduceLT, Int.reduceLE, Int.reduceToNat, Int.reduceEq, Int.reduceNe, Int.reduceBEq, Int.reduceBNe, Int.reduceMul, Int.reduceSub, reduceIte, reduceCtorEq, slotV])))
  refine h _ ⟨_, _, Weak.refl _, rfl, .refl _, fun i b hi => ?_⟩
  simp only [hget] at hi ⊢
  split at hi
  · rename_i e; subst e; cases hi; rfl
  · cases hi
def lessOne (b : List SlotT) (s : SlotT) : List SlotT := b.filter fun x => x.var != s.var
theorem Under1_pc (ho : OrderC Try.prog G n_binding_order) (b : List SlotT) (hb : b.length ≤ 1000) (ok : okL b) : PureC Try.prog G n_binding_Under1 [slotsV b] (llV (orderB (b.map (lessOne b)))) := by
  refine pc_binding_Under1 (Runs.of fun Φ h => ?_)
  unfold c_binding_Under1
  simp -implicitDefEqProofs only [go_sem, Nat.reduceAdd, Nat.reduceSub, Nat.reduceMul, Nat.reduceLT, Nat.reduceLeDiff, Nat.reduceEqDiff, Nat.reduceBEq, Int.reduceNeg, Int.reduceAdd, Int.reduceLT, Int.reduceLE, Int.reduceToNat, Int.reduceEq, Int.reduceNe, Int.reduceBEq, Int.reduceBNe, Int.reduceMul, Int.reduceSub, reduceIte, reduceCtorEq, slotsV, List.length_map]
  refine at_loop (fun n st => ∃ (i : Nat) (m : List (List SlotT)), i + n = b.length ∧ st = ⟨21, [(0, .seq 5 (b.map slotV)), (3, .arr 3 0 m.length), (6, .seq 5 (b.map slotV)), (7, iv b.length), (8, iv i)], [(2, ⟨true, t_Sapi_Slot, 1, []⟩), (3, ⟨true, t_Sapi_Slot, 1, m.map slotsV⟩)]⟩ ∧ m = (b.take i).map (lessOne b)) b.length ⟨0, [], by simp, rfl, rfl⟩ ?_
  rintro I hI n st ⟨i, m, hi, rfl, hm⟩
  have hml : m.length = i := by rw [hm, List.length_map, List.length_take]; omega
  simp -implicitDefEqProofs only [go_sem, Nat.reduceAdd, Nat.reduceSub, Nat.reduceMul, Nat.reduceLT, Nat.reduceLeDiff, Nat.reduceEqDiff, Nat.reduceBEq, Int.reduceNeg, Int.reduceAdd, Int.reduceLT, Int.reduceLE, Int.reduceToNat, Int.reduceEq, Int.reduceNe, Int.reduceBEq, Int.reduceBNe, Int.reduceMul, Int.reduceSub, reduceIte, reduceCtorEq, List.length_map]
  refine ⟨fun hlt => ?_, fun hge => ?_⟩
  · have hlt' : i < b.length := by omega
    obtain ⟨s, hs1, hsm⟩ := at_some hlt'
    have hw := wrap_succ hlt' (by omega)
    have hc := pickS_hc (G := G) n_binding_Under1_1 s (by kernel_rfl) (fun x => x.var != s.var) b hb (fun x _ => Under1_1_hc x s)
    have hnx : (b.take (i + 1)).map (lessOne b) = m ++ [lessOne b s] := by rw [takeC hs1, List.map_append, ← hm]; rfl
    have hb1 : (m.length + 1) * 24 ≤ 140737488355328 := by omega
    rw [show (b.filter fun x => x.var != s.var) = lessOne b s from rfl] at hc
    simp only [slotsV] at hc
    generalize lessOne b s = r at *
    have ht : List.take r.length (r.map slotV) = r.map slotV := List.take_of_length_le (by simp)
    obtain ⟨v1, ⟨k1, n1, s1, t1⟩⟩ := s
    simp only at hc
    (try (simp -implicitDefEqProofs only [go_sem, Nat.reduceAdd, Nat.reduceSub, Nat.reduceMul, Nat.reduceLT, Nat.reduceLeDiff, Nat.reduceEqDiff, Nat.reduceBEq, Int.reduceNeg, Int.reduceAdd, Int.reduceLT, Int.reduceLE, Int.reduceToNat, Int.reduceEq, Int.reduceNe, Int.reduceBEq, Int.reduceBNe, Int.reduceMul, Int.reduceSub, reduceIte, reduceCtorEq, aiaddr_map hs1, slotV, hw, List.length_map, hb1, ht, Nat.le_refl])); repeat' ((first | refine at_guard (fun hb => ?_) (fun hb => ?_) | refine ⟨fun hb => ?_, fun hb => ?_⟩ | (refine at_callH [(1001, 5), (5, 15)] hc rfl ⟨⟨_, _, rfl, rfl, rfl⟩, trivial⟩ rfl rfl rfl ?_) | fail) <;> (try (simp -implicitDefEqProofs only [go_sem, Nat.reduceAdd, Nat.reduceSub, Nat.reduceMul, Nat.reduceLT, Nat.reduceLeDiff, Nat.reduceEqDiff, Nat.reduceBEq, Int.reduceNeg, Int.reduceAdd, Int.reduceLT, Int.reduceLE, Int.reduceToNat, Int.reduceEq, Int.reduceNe, Int.reduceBEq, Int.reduceBNe, Int.reduceMul, Int.reduceSub, reduceIte, reduceCtorEq, aiaddr_map hs1, slotV, hw, List.length_map, hb1, ht, Nat.le_refl])))
    refine at_again (n - 1) (by omega) (hI _ _ ⟨i + 1, m ++ [r], by omega, ?_, hnx.symm⟩)
    simp [slotsV]
  · rw [List.take_of_length_le (by omega)] at hm
    have hox : ∀ x ∈ m, okL x ∧ x.length ≤ 1000 := fun x hx => by
      rw [hm] at hx
      obtain ⟨s, _, rfl⟩ := List.mem_map.1 hx
      refine ⟨fun y hy => ok y (List.mem_filter.1 hy).1, ?_⟩
      have := List.length_filter_le (fun x : SlotT => x.var != s.var) b
      unfold lessOne
      omega
    have hc := ho m (by omega) hox
    rw [← hm] at h
    clear hI hm I
    generalize orderB m = r at *
    (try (simp -implicitDefEqProofs only [go_sem, Nat.reduceAdd, Nat.reduceSub, Nat.reduceMul, Nat.reduceLT, Nat.reduceLeDiff, Nat.reduceEqDiff, Nat.reduceBEq, Int.reduceNeg, Int.reduceAdd, Int.reduceLT, Int.reduceLE, Int.reduceToNat, Int.reduceEq, Int.reduceNe, Int.reduceBEq, Int.reduceBNe, Int.reduceMul, Int.reduceSub, reduceIte, reduceCtorEq])); repeat' ((first | refine at_guard (fun hb => ?_) (fun hb => ?_) | refine ⟨fun hb => ?_, fun hb => ?_⟩ | (refine at_callH [(1000, 3)] hc rfl ⟨⟨_, _, rfl, rfl, rfl⟩, trivial⟩ rfl rfl rfl ?_) | fail) <;> (try (simp -implicitDefEqProofs only [go_sem, Nat.reduceAdd, Nat.reduceSub, Nat.reduceMul, Nat.reduceLT, Nat.reduceLeDiff, Nat.reduceEqDiff, Nat.reduceBEq, Int.reduceNeg, Int.reduceAdd, Int.reduceLT, Int.reduceLE, Int.reduceToNat, Int.reduceEq, Int.reduceNe, Int.reduceBEq, Int.reduceBNe, Int.reduceMul, Int.reduceSub, reduceIte, reduceCtorEq])))
    exact h _ ⟨_, _, rfl, view_row2 (e := slotsV) (l := r) (ty := t_Sapi_Slot) (by decide) rfl, .refl _⟩
end Go.Proofs.Ytjkdpahaingjjaa.Ab
