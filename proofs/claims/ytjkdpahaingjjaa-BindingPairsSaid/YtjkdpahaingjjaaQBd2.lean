/-
  binding, proctorref05: which may be; under, fits, union. No claim is proved here.
-/
import Derived.Test.YtjkdpahaingjjaaQBd1
namespace Go.Proofs.Ytjkdpahaingjjaa.Ab
open Go
set_option linter.unusedSimpArgs false
set_option maxHeartbeats 4000000
set_option maxRecDepth 100000
variable {G : Nat → Option AV}
theorem binding_Right_pc (l : List SlotT) (hl : l.length < 9223372036854775807) : PureC Try.prog G n_binding_Right [slotsV l] (.bool (bindOk l)) := by
  refine pc_binding_Right (Runs.of fun Φ h => ?_)
  unfold c_binding_Right
  simp -implicitDefEqProofs only [go_sem, Nat.reduceAdd, Nat.reduceSub, Nat.reduceMul, Nat.reduceLT, Nat.reduceLeDiff, Nat.reduceEqDiff, Nat.reduceBEq, Int.reduceNeg, Int.reduceAdd, Int.reduceLT, Int.reduceLE, Int.reduceToNat, Int.reduceEq, Int.reduceNe, Int.reduceBEq, Int.reduceBNe, Int.reduceMul, Int.reduceSub, reduceIte, reduceCtorEq, slotsV, List.length_map]
  refine at_loop (fun n st => ∃ i : Nat, i + n = l.length ∧ st = ⟨42, [(0, .seq 5 (l.map slotV)), (5, .seq 5 (l.map slotV)), (6, iv l.length), (7, iv i)], []⟩ ∧ ∀ j x, j < i → l[j]? = some x → slotOk l j x = true) l.length ⟨0, by simp, rfl, fun j x hj => by omega⟩ ?_
  rintro I hI n st ⟨i, hi, rfl, hno⟩
  simp -implicitDefEqProofs only [go_sem, Nat.reduceAdd, Nat.reduceSub, Nat.reduceMul, Nat.reduceLT, Nat.reduceLeDiff, Nat.reduceEqDiff, Nat.reduceBEq, Int.reduceNeg, Int.reduceAdd, Int.reduceLT, Int.reduceLE, Int.reduceToNat, Int.reduceEq, Int.reduceNe, Int.reduceBEq, Int.reduceBNe, Int.reduceMul, Int.reduceSub, reduceIte, reduceCtorEq, List.length_map]
  refine ⟨fun hlt => ?_, fun hge => ?_⟩
  · have hlt' : i < l.length := by omega
    obtain ⟨x, hx, hm⟩ := at_some hlt'
    have hw := wrap_succ hlt' (by omega)
    have hok := value_Right_pc (G := G) x.value
    have hnext : slotOk l i x = true → again I n ⟨42, [(0, .seq 5 (l.map slotV)), (5, .seq 5 (l.map slotV)), (6, iv l.length), (7, iv (i + 1 : Nat))], []⟩ := fun hv => at_again (n - 1) (by omega) (hI _ _ ⟨i + 1, by omega, rfl, allI_step (p := slotOk l) hx hv hno⟩)
    have hbad : slotOk l i x = false → bindOk l = false := fun hv => allI_false (p := slotOk l) hx hv
    unfold slotOk at hnext hbad
    generalize bindOk l = R at *
    clear hno
    obtain ⟨v, y⟩ := x
    simp only [valV] at hok hnext hbad
    by_cases h0 : i = 0
    · subst h0
      (try (simp -implicitDefEqProofs only [go_sem, Nat.reduceAdd, Nat.reduceSub, Nat.reduceMul, Nat.reduceLT, Nat.reduceLeDiff, Nat.reduceEqDiff, Nat.reduceBEq, Int.reduceNeg, Int.reduceAdd, Int.reduceLT, Int.reduceLE, Int.reduceToNat, Int.reduceEq, Int.reduceNe, Int.reduceBEq, Int.reduceBNe, Int.reduceMul, Int.reduceSub, reduceIte, reduceCtorEq, aiaddr_map hx, slotV, valV, hw])); repeat' ((first | refine at_guard (fun hb => ?_) (fun hb => ?_) | refine ⟨fun hb => ?_, fun hb => ?_⟩ | refine at_call (hok) rfl rfl ?_ | fail) <;> (try (simp -implicitDefEqProofs only [go_sem, Nat.reduceAdd, Nat.reduceSub, Nat.reduceMul, Nat.reduceLT, Nat.reduceLeDiff, Nat.reduceEqDiff, Nat.reduceBEq, Int.reduceNeg, Int.reduceAdd, Int.reduceLT, Int.reduceLE, Int.reduceToNat, Int.reduceEq, Int.reduceNe, Int.reduceBEq, Int.reduceBNe, Int.reduceMul, Int.reduceSub, reduceIte, reduceCtorEq, aiaddr_map hx, slotV, valV, hw])))
      all_goals first
        | (refine h _ ⟨_, _, rfl, rfl, fitB (hbad ?_).symm⟩; clear h hnext hbad hok hI; simp_all; done)
        | (refine hnext ?_; clear h hnext hbad hok hI; simp_all; done)
        | (exfalso; clear h hnext hbad hok hI; simp_all; done)
        | (refine h _ ⟨_, _, rfl, rfl, fitB (hbad ?_).symm⟩; clear h hnext hbad hok hI; simp_all; omega)
        | (refine hnext ?_; clear h hnext hbad hok hI; simp_all; omega)
        | (exfalso; clear h hnext hbad hok hI; simp_all; omega)
    · obtain ⟨p, hp, _⟩ := at_some (l := l) (i := i - 1) (by omega)
      have hw1 : IntKind.i64.wrap ((i : Int) - 1) = ((i - 1 : Nat) : Int) := by rw [wrap_i64 (by omega) (by omega)]; omega
      have hpos : ((0 : Int) < (i : Int)) = True := by simp; omega
      rw [hp] at hnext hbad
      have hi0 : (i == 0) = false := by simpa using h0
      rw [hi0] at hnext hbad
      (try (simp -implicitDefEqProofs only [go_sem, Nat.reduceAdd, Nat.reduceSub, Nat.reduceMul, Nat.reduceLT, Nat.reduceLeDiff, Nat.reduceEqDiff, Nat.reduceBEq, Int.reduceNeg, Int.reduceAdd, Int.reduceLT, Int.reduceLE, Int.reduceToNat, Int.reduceEq, Int.reduceNe, Int.reduceBEq, Int.reduceBNe, Int.reduceMul, Int.reduceSub, reduceIte, reduceCtorEq, aiaddr_map hx, aiaddr_map hp, slotV, valV, hw, hw1, hpos, decide_true])); repeat' ((first | refine at_guard (fun hb => ?_) (fun hb => ?_) | refine ⟨fun hb => ?_, fun hb => ?_⟩ | refine at_call (hok) rfl rfl ?_ | fail) <;> (try (simp -implicitDefEqProofs only [go_sem, Nat.reduceAdd, Nat.reduceSub, Nat.reduceMul, Nat.reduceLT, Nat.reduceLeDiff, Nat.reduceEqDiff, Nat.reduceBEq, Int.reduceNeg, Int.reduceAdd, Int.reduceLT, Int.reduceLE, Int.reduceToNat, Int.reduceEq, Int.reduceNe, Int.reduceBEq, Int.reduceBNe, Int.reduceMul, Int.reduceSub, reduceIte, reduceCtorEq, aiaddr_map hx, aiaddr_map hp, slotV, valV, hw, hw1, hpos, decide_true])))
      all_goals first
        | (refine h _ ⟨_, _, rfl, rfl, fitB (hbad ?_).symm⟩; clear h hnext hbad hok hI; simp_all; done)
        | (refine hnext ?_; clear h hnext hbad hok hI; simp_all; done)
        | (exfalso; clear h hnext hbad hok hI; simp_all; done)
        | (refine h _ ⟨_, _, rfl, rfl, fitB (hbad ?_).symm⟩; clear h hnext hbad hok hI; simp_all; omega)
        | (refine hnext ?_; clear h hnext hbad hok hI; simp_all; omega)
        | (exfalso; clear h hnext hbad hok hI; simp_all; omega)
  · (try (simp -implicitDefEqProofs only [go_sem, Nat.reduceAdd, Nat.reduceSub, Nat.reduceMul, Nat.reduceLT, Nat.reduceLeDiff, Nat.reduceEqDiff, Nat.reduceBEq, Int.reduceNeg, Int.reduceAdd, Int.reduceLT, Int.reduceLE, Int.reduceToNat, Int.reduceEq, Int.reduceNe, Int.reduceBEq, Int.reduceBNe, Int.reduceMul, Int.reduceSub, reduceIte, reduceCtorEq])); repeat' ((first | refine at_guard (fun hb => ?_) (fun hb => ?_) | refine ⟨fun hb => ?_, fun hb => ?_⟩ | fail) <;> (try (simp -implicitDefEqProofs only [go_sem, Nat.reduceAdd, Nat.reduceSub, Nat.reduceMul, Nat.reduceLT, Nat.reduceLeDiff, Nat.reduceEqDiff, Nat.reduceBEq, Int.reduceNeg, Int.reduceAdd, Int.reduceLT, Int.reduceLE, Int.reduceToNat, Int.reduceEq, Int.reduceNe, Int.reduceBEq, Int.reduceBNe, Int.reduceMul, Int.reduceSub, reduceIte, reduceCtorEq])))
    exact h _ ⟨_, _, rfl, rfl, fitB (allI_all (by omega) hno).symm⟩
theorem view_row {α : Type} {e : α → AV} {sz : Nat} {H : List (Nat × Box)} {i n : Nat} {ty : Nat} {l : List α} (h0 : 0 < sz) (hH : hget H i = some ⟨true, ty, sz, l.map e⟩) (hn : l.length = n) : view H (.arr i 0 n) = some (.seq sz (l.map e)) := by
  simp only [view, hH, List.drop_zero, List.length_map, hn]
  simp [h0, ← hn]
  exact List.take_of_length_le (by simp)
def unionOne (a b : List SlotT) (v : Nat) : List SlotT := if (getR a v).2 then [⟨v, (getR a v).1⟩] else if (getR b v).2 then [⟨v, (getR b v).1⟩] else []
def unionR (a b : List SlotT) : List SlotT := (List.range 8).flatMap (unionOne a b)
def unionN (a b : List SlotT) (n : Nat) : List SlotT := (List.range n).flatMap (unionOne a b)
theorem unionN_succ (a b : List SlotT) (n : Nat) : unionN a b (n + 1) = unionN a b n ++ unionOne a b n := by simp [unionN, List.range_succ]
theorem unionOne_len (a b : List SlotT) (v : Nat) : (unionOne a b v).length ≤ 1 := by
  unfold unionOne
  split
  · simp
  · split <;> simp
theorem unionN_len (a b : List SlotT) : ∀ n, (unionN a b n).length ≤ n
  | 0 => by simp [unionN]
  | n + 1 => by
    have h1 := unionN_len a b n
    have h2 := unionOne_len a b n
    rw [unionN_succ, List.length_append]
    omega
theorem ref05_Union_pc (a b : List SlotT) (ha : a.length < 9223372036854775807) (hb : b.length < 9223372036854775807) : PureC Try.prog G n_proctorref05_Union [slotsV a, slotsV b] (slotsV (unionR a b)) := by
  refine pc_proctorref05_Union (Runs.of fun Φ h => ?_)
  unfold c_proctorref05_Union
  simp -implicitDefEqProofs only [go_sem, Nat.reduceAdd, Nat.reduceSub, Nat.reduceMul, Nat.reduceLT, Nat.reduceLeDiff, Nat.reduceEqDiff, Nat.reduceBEq, Int.reduceNeg, Int.reduceAdd, Int.reduceLT, Int.reduceLE, Int.reduceToNat, Int.reduceEq, Int.reduceNe, Int.reduceBEq, Int.reduceBNe, Int.reduceMul, Int.reduceSub, reduceIte, reduceCtorEq, slotsV]
  refine at_loop (fun n st => ∃ (i : Nat) (m : List SlotT), i + n = 8 ∧ st = ⟨42, [(0, .seq 5 (a.map slotV)), (1, .seq 5 (b.map slotV)), (5, .arr 5 0 m.length), (6, iv i)], [(4, ⟨true, t_api_Slot, 5, []⟩), (5, ⟨true, t_api_Slot, 5, m.map slotV⟩)]⟩ ∧ m = unionN a b i) 8 ⟨0, [], by simp, rfl, rfl⟩ ?_
  rintro I hI n st ⟨i, m, hi, rfl, hm⟩
  have hml : m.length ≤ 8 := by have := unionN_len a b i; rw [hm]; omega
  simp -implicitDefEqProofs only [go_sem, Nat.reduceAdd, Nat.reduceSub, Nat.reduceMul, Nat.reduceLT, Nat.reduceLeDiff, Nat.reduceEqDiff, Nat.reduceBEq, Int.reduceNeg, Int.reduceAdd, Int.reduceLT, Int.reduceLE, Int.reduceToNat, Int.reduceEq, Int.reduceNe, Int.reduceBEq, Int.reduceBNe, Int.reduceMul, Int.reduceSub, reduceIte, reduceCtorEq]
  refine ⟨fun hlt => ?_, fun hge => ?_⟩
  · have hlt' : i < 8 := by omega
    have hw := wrap_succ hlt' (by omega)
    have h1 := ref05_Get_pc (G := G) a ha i
    have h2 := ref05_Get_pc (G := G) b hb i
    have hnx := unionN_succ a b i
    rw [← hm] at hnx
    unfold unionOne at hnx
    have hb1 : (m.length + 1) * 48 ≤ 140737488355328 := by omega
    generalize getR a i = x at *
    generalize getR b i = y at *
    obtain ⟨⟨k1, n1, s1, t1⟩, o1⟩ := x
    obtain ⟨⟨k2, n2, s2, t2⟩, o2⟩ := y
    simp only [slotsV, vbt, valV] at h1 h2
    cases o1
    · cases o2
      · simp only [Bool.false_eq_true, if_false, List.append_nil] at hnx
        (try (simp -implicitDefEqProofs only [go_sem, Nat.reduceAdd, Nat.reduceSub, Nat.reduceMul, Nat.reduceLT, Nat.reduceLeDiff, Nat.reduceEqDiff, Nat.reduceBEq, Int.reduceNeg, Int.reduceAdd, Int.reduceLT, Int.reduceLE, Int.reduceToNat, Int.reduceEq, Int.reduceNe, Int.reduceBEq, Int.reduceBNe, Int.reduceMul, Int.reduceSub, reduceIte, reduceCtorEq, hw])); repeat' ((first | refine at_guard (fun hb => ?_) (fun hb => ?_) | refine ⟨fun hb => ?_, fun hb => ?_⟩ | refine at_call (h1) rfl rfl ?_ | refine at_call (h2) rfl rfl ?_ | fail) <;> (try (simp -implicitDefEqProofs only [go_sem, Nat.reduceAdd, Nat.reduceSub, Nat.reduceMul, Nat.reduceLT, Nat.reduceLeDiff, Nat.reduceEqDiff, Nat.reduceBEq, Int.reduceNeg, Int.reduceAdd, Int.reduceLT, Int.reduceLE, Int.reduceToNat, Int.reduceEq, Int.reduceNe, Int.reduceBEq, Int.reduceBNe, Int.reduceMul, Int.reduceSub, reduceIte, reduceCtorEq, hw])))
        exact at_again (n - 1) (by omega) (hI _ _ ⟨i + 1, m, by omega, rfl, hnx.symm⟩)
      · simp only [Bool.false_eq_true, if_false, if_true] at hnx
        (try (simp -implicitDefEqProofs only [go_sem, Nat.reduceAdd, Nat.reduceSub, Nat.reduceMul, Nat.reduceLT, Nat.reduceLeDiff, Nat.reduceEqDiff, Nat.reduceBEq, Int.reduceNeg, Int.reduceAdd, Int.reduceLT, Int.reduceLE, Int.reduceToNat, Int.reduceEq, Int.reduceNe, Int.reduceBEq, Int.reduceBNe, Int.reduceMul, Int.reduceSub, reduceIte, reduceCtorEq, hw, List.length_map, List.length_append, hb1])); repeat' ((first | refine at_guard (fun hb => ?_) (fun hb => ?_) | refine ⟨fun hb => ?_, fun hb => ?_⟩ | refine at_call (h1) rfl rfl ?_ | refine at_call (h2) rfl rfl ?_ | fail) <;> (try (simp -implicitDefEqProofs only [go_sem, Nat.reduceAdd, Nat.reduceSub, Nat.reduceMul, Nat.reduceLT, Nat.reduceLeDiff, Nat.reduceEqDiff, Nat.reduceBEq, Int.reduceNeg, Int.reduceAdd, Int.reduceLT, Int.reduceLE, Int.reduceToNat, Int.reduceEq, Int.reduceNe, Int.reduceBEq, Int.reduceBNe, Int.reduceMul, Int.reduceSub, reduceIte, reduceCtorEq, hw, List.length_map, List.length_append, hb1])))
        refine at_again (n - 1) (by omega) (hI _ _ ⟨i + 1, m ++ [⟨i, ⟨k2, n2, s2, t2⟩⟩], by omega, ?_, hnx.symm⟩)
        simp [slotV]
    · simp only [if_true] at hnx
      (try (simp -implicitDefEqProofs only [go_sem, Nat.reduceAdd, Nat.reduceSub, Nat.reduceMul, Nat.reduceLT, Nat.reduceLeDiff, Nat.reduceEqDiff, Nat.reduceBEq, Int.reduceNeg, Int.reduceAdd, Int.reduceLT, Int.reduceLE, Int.reduceToNat, Int.reduceEq, Int.reduceNe, Int.reduceBEq, Int.reduceBNe, Int.reduceMul, Int.reduceSub, reduceIte, reduceCtorEq, hw, List.length_map, List.length_append, hb1])); repeat' ((first | refine at_guard (fun hb => ?_) (fun hb => ?_) | refine ⟨fun hb => ?_, fun hb => ?_⟩ | refine at_call (h1) rfl rfl ?_ | refine at_call (h2) rfl rfl ?_ | fail) <;> (try (simp -implicitDefEqProofs only [go_sem, Nat.reduceAdd, Nat.reduceSub, Nat.reduceMul, Nat.reduceLT, Nat.reduceLeDiff, Nat.reduceEqDiff, Nat.reduceBEq, Int.reduceNeg, Int.reduceAdd, Int.reduceLT, Int.reduceLE, Int.reduceToNat, Int.reduceEq, Int.reduceNe, Int.reduceBEq, Int.reduceBNe, Int.reduceMul, Int.reduceSub, reduceIte, reduceCtorEq, hw, List.length_map, List.length_append, hb1])))
      refine at_again (n - 1) (by omega) (hI _ _ ⟨i + 1, m ++ [⟨i, ⟨k1, n1, s1, t1⟩⟩], by omega, ?_, hnx.symm⟩)
      simp [slotV]
  · have : i = 8 := by omega
    subst this
    have hm : m = unionR a b := hm
    subst hm
    (try (simp -implicitDefEqProofs only [go_sem, Nat.reduceAdd, Nat.reduceSub, Nat.reduceMul, Nat.reduceLT, Nat.reduceLeDiff, Nat.reduceEqDiff, Nat.reduceBEq, Int.reduceNeg, Int.reduceAdd, Int.reduceLT, Int.reduceLE, Int.reduceToNat, Int.reduceEq, Int.reduceNe, Int.reduceBEq, Int.reduceBNe, Int.reduceMul, Int.reduceSub, reduceIte, reduceCtorEq])); repeat' ((first | refine at_guard (fun hb => ?_) (fun hb => ?_) | refine ⟨fun hb => ?_, fun hb => ?_⟩ | fail) <;> (try (simp -implicitDefEqProofs only [go_sem, Nat.reduceAdd, Nat.reduceSub, Nat.reduceMul, Nat.reduceLT, Nat.reduceLeDiff, Nat.reduceEqDiff, Nat.reduceBEq, Int.reduceNeg, Int.reduceAdd, Int.reduceLT, Int.reduceLE, Int.reduceToNat, Int.reduceEq, Int.reduceNe, Int.reduceBEq, Int.reduceBNe, Int.reduceMul, Int.reduceSub, reduceIte, reduceCtorEq])))
    exact h _ ⟨_, _, rfl, view_row (ty := t_api_Slot) (e := slotV) (by decide) (by simp [hget]) rfl, .refl _⟩
end Go.Proofs.Ytjkdpahaingjjaa.Ab
