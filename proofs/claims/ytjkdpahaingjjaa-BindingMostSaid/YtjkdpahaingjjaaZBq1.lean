/-
  binding.Same; proctorref05.Under, Fits. No claim is proved here.
-/
import Derived.Test.YtjkdpahaingjjaaZBr3
namespace Go.Proofs.Ytjkdpahaingjjaa.Ab
open Go Go.RowKit
set_option linter.unusedSimpArgs false
set_option maxHeartbeats 4000000
set_option maxRecDepth 100000
variable {G : Nat → Option AV}
theorem ref05_Under_pc (a b : List SlotT) (ha : a.length < 9223372036854775807) (hb : b.length < 9223372036854775807) : PureC Try.prog G n_proctorref05_Under [slotsV a, slotsV b] (.bool (underR a b)) := by
  refine pc_proctorref05_Under (Runs.of fun Φ h => ?_)
  unfold c_proctorref05_Under
  have fin : ∀ β heap, β = underR a b → Φ ⟨35, [(4, .bool β)], heap⟩ := fun β heap e => h _ ⟨_, _, rfl, rfl, fitB e⟩
  clear h
  simp -implicitDefEqProofs only [go_sem, Nat.reduceAdd, Nat.reduceSub, Nat.reduceMul, Nat.reduceLT, Nat.reduceLeDiff, Nat.reduceEqDiff, Nat.reduceBEq, Int.reduceNeg, Int.reduceAdd, Int.reduceLT, Int.reduceLE, Int.reduceToNat, Int.reduceEq, Int.reduceNe, Int.reduceBEq, Int.reduceBNe, Int.reduceMul, Int.reduceSub, reduceIte, reduceCtorEq, slotsV, List.length_map]
  refine at_loop (fun n st => ∃ i : Nat, i + n = a.length ∧ st = ⟨35, [(0, .seq 5 (a.map slotV)), (1, .seq 5 (b.map slotV)), (5, iv i)], []⟩ ∧ ∀ j x, j < i → a[j]? = some x → underOne b x = true) a.length ⟨0, by simp, rfl, fun j x hj => by omega⟩ ?_
  rintro I hI n st ⟨i, hi, rfl, hno⟩
  simp -implicitDefEqProofs only [go_sem, Nat.reduceAdd, Nat.reduceSub, Nat.reduceMul, Nat.reduceLT, Nat.reduceLeDiff, Nat.reduceEqDiff, Nat.reduceBEq, Int.reduceNeg, Int.reduceAdd, Int.reduceLT, Int.reduceLE, Int.reduceToNat, Int.reduceEq, Int.reduceNe, Int.reduceBEq, Int.reduceBNe, Int.reduceMul, Int.reduceSub, reduceIte, reduceCtorEq, List.length_map]
  refine ⟨fun hlt => ?_, fun hge => ?_⟩
  · have hlt' : i < a.length := by omega
    obtain ⟨x, hx, hxm⟩ := at_some hlt'
    have hw := wrap_succ hlt' (by omega)
    have hc := ref05_Get_pc (G := G) b hb x.var
    have hnext : underOne b x = true → again I n ⟨35, [(0, .seq 5 (a.map slotV)), (1, .seq 5 (b.map slotV)), (5, iv (i + 1 : Nat))], []⟩ := fun hv => at_again (n - 1) (by omega) (hI _ _ ⟨i + 1, by omega, rfl, fun j y hj hy => by
      by_cases e : j = i
      · subst e; rw [hx] at hy; cases hy; exact hv
      · exact hno j y (by omega) hy⟩)
    have hbad : underOne b x = false → false = underR a b := fun hv => by
      symm
      unfold underR
      rw [List.all_eq_false]
      exact ⟨x, hxm, by rw [hv]; simp⟩
    unfold underOne at hnext hbad
    generalize underR a b = U at *
    generalize getR b x.var = r at *
    clear hno hI hxm
    obtain ⟨v1, ⟨k1, n1, s1, t1⟩⟩ := x
    obtain ⟨⟨k2, n2, s2, t2⟩, o2⟩ := r
    simp only [slotsV, vbt, valV] at hc hnext hbad
    cases o2
    · have hb' := fin false
      rw [Bool.false_and] at hbad
      (try (simp -implicitDefEqProofs only [go_sem, Nat.reduceAdd, Nat.reduceSub, Nat.reduceMul, Nat.reduceLT, Nat.reduceLeDiff, Nat.reduceEqDiff, Nat.reduceBEq, Int.reduceNeg, Int.reduceAdd, Int.reduceLT, Int.reduceLE, Int.reduceToNat, Int.reduceEq, Int.reduceNe, Int.reduceBEq, Int.reduceBNe, Int.reduceMul, Int.reduceSub, reduceIte, reduceCtorEq, aiaddr_map hx, slotV, valV, hw])); repeat' ((first | refine at_guard (fun hb => ?_) (fun hb => ?_) | refine ⟨fun hb => ?_, fun hb => ?_⟩ | refine at_call (hc) rfl rfl ?_ | fail) <;> (try (simp -implicitDefEqProofs only [go_sem, Nat.reduceAdd, Nat.reduceSub, Nat.reduceMul, Nat.reduceLT, Nat.reduceLeDiff, Nat.reduceEqDiff, Nat.reduceBEq, Int.reduceNeg, Int.reduceAdd, Int.reduceLT, Int.reduceLE, Int.reduceToNat, Int.reduceEq, Int.reduceNe, Int.reduceBEq, Int.reduceBNe, Int.reduceMul, Int.reduceSub, reduceIte, reduceCtorEq, aiaddr_map hx, slotV, valV, hw])))
      exact fin _ _ (hbad rfl)
    · have hxy : ((⟨k2, n2, s2, t2⟩ : Val) == ⟨k1, n1, s1, t1⟩) = (k2 == k1 && (n2 == n1 && (s2 == s1 && t2 == t1))) := val_beq _ _ _ _ _ _ _ _
      cases hE : ((⟨k2, n2, s2, t2⟩ : Val) == ⟨k1, n1, s1, t1⟩) with
      | true =>
        rw [hE] at hxy
        have := hnext (by simpa using hE)
        (try (simp -implicitDefEqProofs only [go_sem, Nat.reduceAdd, Nat.reduceSub, Nat.reduceMul, Nat.reduceLT, Nat.reduceLeDiff, Nat.reduceEqDiff, Nat.reduceBEq, Int.reduceNeg, Int.reduceAdd, Int.reduceLT, Int.reduceLE, Int.reduceToNat, Int.reduceEq, Int.reduceNe, Int.reduceBEq, Int.reduceBNe, Int.reduceMul, Int.reduceSub, reduceIte, reduceCtorEq, aiaddr_map hx, slotV, valV, hw, aeqA, aeqs, leafEq, andO, Bool.and_true, ← hxy, Bool.not_true])); repeat' ((first | refine at_guard (fun hb => ?_) (fun hb => ?_) | refine ⟨fun hb => ?_, fun hb => ?_⟩ | refine at_call (hc) rfl rfl ?_ | fail) <;> (try (simp -implicitDefEqProofs only [go_sem, Nat.reduceAdd, Nat.reduceSub, Nat.reduceMul, Nat.reduceLT, Nat.reduceLeDiff, Nat.reduceEqDiff, Nat.reduceBEq, Int.reduceNeg, Int.reduceAdd, Int.reduceLT, Int.reduceLE, Int.reduceToNat, Int.reduceEq, Int.reduceNe, Int.reduceBEq, Int.reduceBNe, Int.reduceMul, Int.reduceSub, reduceIte, reduceCtorEq, aiaddr_map hx, slotV, valV, hw, aeqA, aeqs, leafEq, andO, Bool.and_true, ← hxy, Bool.not_true])))
        exact this
      | false =>
        rw [hE] at hxy
        have := hbad (by simpa using hE)
        (try (simp -implicitDefEqProofs only [go_sem, Nat.reduceAdd, Nat.reduceSub, Nat.reduceMul, Nat.reduceLT, Nat.reduceLeDiff, Nat.reduceEqDiff, Nat.reduceBEq, Int.reduceNeg, Int.reduceAdd, Int.reduceLT, Int.reduceLE, Int.reduceToNat, Int.reduceEq, Int.reduceNe, Int.reduceBEq, Int.reduceBNe, Int.reduceMul, Int.reduceSub, reduceIte, reduceCtorEq, aiaddr_map hx, slotV, valV, hw, aeqA, aeqs, leafEq, andO, Bool.and_true, ← hxy, Bool.not_false])); repeat' ((first | refine at_guard (fun hb => ?_) (fun hb => ?_) | refine ⟨fun hb => ?_, fun hb => ?_⟩ | refine at_call (hc) rfl rfl ?_ | fail) <;> (try (simp -implicitDefEqProofs only [go_sem, Nat.reduceAdd, Nat.reduceSub, Nat.reduceMul, Nat.reduceLT, Nat.reduceLeDiff, Nat.reduceEqDiff, Nat.reduceBEq, Int.reduceNeg, Int.reduceAdd, Int.reduceLT, Int.reduceLE, Int.reduceToNat, Int.reduceEq, Int.reduceNe, Int.reduceBEq, Int.reduceBNe, Int.reduceMul, Int.reduceSub, reduceIte, reduceCtorEq, aiaddr_map hx, slotV, valV, hw, aeqA, aeqs, leafEq, andO, Bool.and_true, ← hxy, Bool.not_false])))
        exact fin _ _ this
  · (try (simp -implicitDefEqProofs only [go_sem, Nat.reduceAdd, Nat.reduceSub, Nat.reduceMul, Nat.reduceLT, Nat.reduceLeDiff, Nat.reduceEqDiff, Nat.reduceBEq, Int.reduceNeg, Int.reduceAdd, Int.reduceLT, Int.reduceLE, Int.reduceToNat, Int.reduceEq, Int.reduceNe, Int.reduceBEq, Int.reduceBNe, Int.reduceMul, Int.reduceSub, reduceIte, reduceCtorEq])); repeat' ((first | refine at_guard (fun hb => ?_) (fun hb => ?_) | refine ⟨fun hb => ?_, fun hb => ?_⟩ | fail) <;> (try (simp -implicitDefEqProofs only [go_sem, Nat.reduceAdd, Nat.reduceSub, Nat.reduceMul, Nat.reduceLT, Nat.reduceLeDiff, Nat.reduceEqDiff, Nat.reduceBEq, Int.reduceNeg, Int.reduceAdd, Int.reduceLT, Int.reduceLE, Int.reduceToNat, Int.reduceEq, Int.reduceNe, Int.reduceBEq, Int.reduceBNe, Int.reduceMul, Int.reduceSub, reduceIte, reduceCtorEq])))
    refine fin _ _ ?_
    symm
    unfold underR
    rw [List.all_eq_true]
    intro x hx
    obtain ⟨j, hj⟩ := List.getElem?_of_mem hx
    exact hno j x (by have := (List.getElem?_eq_some_iff.1 hj).1; omega) hj
theorem slotEq (a b : SlotT) : (a == b) = (a.var == b.var && (a.value.kind == b.value.kind && (a.value.int == b.value.int && (a.value.str == b.value.str && (a.value.bool == b.value.bool && true))))) := by
  rw [Bool.eq_iff_iff]
  obtain ⟨v, k, n, s, t⟩ := a
  obtain ⟨v', k', n', s', t'⟩ := b
  simp
theorem slices_Equal_api_Slot_api_Slot_pc (k l : List SlotT) (hk : k.length < 9223372036854775807) (hl : l.length < 9223372036854775807) : PureC Try.prog G n_slices_Equal_api_Slot_api_Slot [.seq 5 (k.map slotV), .seq 5 (l.map slotV)] (.bool (decide (k = l))) := by
  refine pc_slices_Equal_api_Slot_api_Slot (Runs.of fun Φ h => ?_)
  unfold c_slices_Equal_api_Slot_api_Slot
  simp -implicitDefEqProofs only [go_sem, Nat.reduceAdd, Nat.reduceSub, Nat.reduceMul, Nat.reduceLT, Nat.reduceLeDiff, Nat.reduceEqDiff, Nat.reduceBEq, Int.reduceNeg, Int.reduceAdd, Int.reduceLT, Int.reduceLE, Int.reduceToNat, Int.reduceEq, Int.reduceNe, Int.reduceBEq, Int.reduceBNe, Int.reduceMul, Int.reduceSub, reduceIte, reduceCtorEq, List.length_map]
  refine ⟨fun hb => ?_, fun hb => ?_⟩
  · refine h _ ⟨_, _, rfl, rfl, fitB ?_⟩
    symm
    rw [decide_eq_false_iff_not]
    rintro rfl
    simp at hb
  · have hkl : k.length = l.length := by
      have : (k.length : Int) = l.length := by simpa using hb
      omega
    refine at_loop (fun n st => ∃ i : Nat, i + n = k.length ∧ st = ⟨26, [(0, .seq 5 (k.map slotV)), (1, .seq 5 (l.map slotV)), (12, iv k.length), (13, iv i)], []⟩ ∧ ∀ j x y, j < i → k[j]? = some x → l[j]? = some y → (x == y) = true) k.length ⟨0, by simp, rfl, fun j x y hj => by omega⟩ ?_
    rintro I hI n st ⟨i, hi, rfl, hall⟩
    simp -implicitDefEqProofs only [go_sem, Nat.reduceAdd, Nat.reduceSub, Nat.reduceMul, Nat.reduceLT, Nat.reduceLeDiff, Nat.reduceEqDiff, Nat.reduceBEq, Int.reduceNeg, Int.reduceAdd, Int.reduceLT, Int.reduceLE, Int.reduceToNat, Int.reduceEq, Int.reduceNe, Int.reduceBEq, Int.reduceBNe, Int.reduceMul, Int.reduceSub, reduceIte, reduceCtorEq]
    refine ⟨fun hlt => ?_, fun hge => ?_⟩
    · have hlt' : i < k.length := by omega
      obtain ⟨x, hx, hm⟩ := at_some hlt'
      obtain ⟨y, hy, hm'⟩ := at_some (l := l) (i := i) (by omega)
      have hw := wrap_succ hlt' (by omega)
      have fin : (x == y) = true → again I n ⟨26, [(0, .seq 5 (k.map slotV)), (1, .seq 5 (l.map slotV)), (12, iv k.length), (13, iv (i + 1 : Nat))], []⟩ := fun hv => at_again (n - 1) (by omega) (hI _ _ ⟨i + 1, by omega, rfl, fun j a b hj ha hb => by
        by_cases e : j = i
        · subst e; rw [hx] at ha; cases ha; rw [hy] at hb; cases hb; exact hv
        · exact hall j a b (by omega) ha hb⟩)
      simp -implicitDefEqProofs only [go_sem, Nat.reduceAdd, Nat.reduceSub, Nat.reduceMul, Nat.reduceLT, Nat.reduceLeDiff, Nat.reduceEqDiff, Nat.reduceBEq, Int.reduceNeg, Int.reduceAdd, Int.reduceLT, Int.reduceLE, Int.reduceToNat, Int.reduceEq, Int.reduceNe, Int.reduceBEq, Int.reduceBNe, Int.reduceMul, Int.reduceSub, reduceIte, reduceCtorEq, aiaddr_map hx, aiaddr_map hy, slotV]
      refine ⟨fun hb => ?_, fun hb => ?_⟩
      · have hv : (x == y) = false := by
          cases hxy : (x == y) with
          | false => rfl
          | true => exfalso; have := eq_of_beq hxy; subst this; simp at hb
        refine h _ ⟨_, _, rfl, rfl, fitB ?_⟩
        symm
        rw [decide_eq_false_iff_not]
        rintro rfl
        rw [hx] at hy
        cases hy
        simp at hv
      · have hv : (x == y) = true := by rw [slotEq]; simpa using hb
        simp -implicitDefEqProofs only [go_sem, Nat.reduceAdd, Nat.reduceSub, Nat.reduceMul, Nat.reduceLT, Nat.reduceLeDiff, Nat.reduceEqDiff, Nat.reduceBEq, Int.reduceNeg, Int.reduceAdd, Int.reduceLT, Int.reduceLE, Int.reduceToNat, Int.reduceEq, Int.reduceNe, Int.reduceBEq, Int.reduceBNe, Int.reduceMul, Int.reduceSub, reduceIte, reduceCtorEq, hw]
        exact fin hv
    · refine h _ ⟨_, _, rfl, rfl, fitB ?_⟩
      symm
      rw [decide_eq_true_eq]
      apply List.ext_getElem?
      intro j
      by_cases hj : j < k.length
      · rw [List.getElem?_eq_getElem hj, List.getElem?_eq_getElem (by omega)]
        have := hall j _ _ (by omega) (List.getElem?_eq_getElem hj) (List.getElem?_eq_getElem (by omega))
        rw [eq_of_beq this]
      · rw [List.getElem?_eq_none (by omega), List.getElem?_eq_none (by omega)]
theorem binding_Same_pc (a b : List SlotT) (ha : a.length < 9223372036854775807) (hb : b.length < 9223372036854775807) : PureC Try.prog G n_binding_Same [slotsV a, slotsV b] (.bool (decide (a = b))) := by
  have hc := slices_Equal_api_Slot_api_Slot_pc (G := G) a b ha hb
  refine pc_binding_Same (Runs.of fun Φ h => ?_)
  unfold c_binding_Same
  generalize decide (a = b) = z at *
  (try (simp -implicitDefEqProofs only [go_sem, Nat.reduceAdd, Nat.reduceSub, Nat.reduceMul, Nat.reduceLT, Nat.reduceLeDiff, Nat.reduceEqDiff, Nat.reduceBEq, Int.reduceNeg, Int.reduceAdd, Int.reduceLT, Int.reduceLE, Int.reduceToNat, Int.reduceEq, Int.reduceNe, Int.reduceBEq, Int.reduceBNe, Int.reduceMul, Int.reduceSub, reduceIte, reduceCtorEq, slotsV])); repeat' ((first | refine at_guard (fun hb => ?_) (fun hb => ?_) | refine ⟨fun hb => ?_, fun hb => ?_⟩ | refine at_call (hc) rfl rfl ?_ | fail) <;> (try (simp -implicitDefEqProofs only [go_sem, Nat.reduceAdd, Nat.reduceSub, Nat.reduceMul, Nat.reduceLT, Nat.reduceLeDiff, Nat.reduceEqDiff, Nat.reduceBEq, Int.reduceNeg, Int.reduceAdd, Int.reduceLT, Int.reduceLE, Int.reduceToNat, Int.reduceEq, Int.reduceNe, Int.reduceBEq, Int.reduceBNe, Int.reduceMul, Int.reduceSub, reduceIte, reduceCtorEq, slotsV])))
  exact h _ ⟨_, _, rfl, rfl, .refl _⟩
end Go.Proofs.Ytjkdpahaingjjaa.Ab
