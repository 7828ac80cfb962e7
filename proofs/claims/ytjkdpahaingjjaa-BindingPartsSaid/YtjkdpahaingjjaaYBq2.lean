/-
  binding.Same; proctorref05.Under, Fits. binding.Less. No claim is proved here.
-/
import Derived.Test.YtjkdpahaingjjaaYC3
namespace Go.Proofs.Ytjkdpahaingjjaa.Ab
open Go Go.RowKit
set_option linter.unusedSimpArgs false
set_option maxHeartbeats 4000000
set_option maxRecDepth 100000
variable {G : Nat → Option AV}
theorem slotEq (a b : SlotT) : (a == b) = (a.var == b.var && (a.value.kind == b.value.kind && (a.value.int == b.value.int && (a.value.str == b.value.str && (a.value.bool == b.value.bool && true))))) := by
  rw [Bool.eq_iff_iff]
  obtain ⟨v, k, n, s, t⟩ := a
  obtain ⟨v', k', n', s', t'⟩ := b
  simp
theorem slices_Equal_api_Slot_api_Slot_pc (k l : List SlotT) (hk : k.length < 9223372036854775807) (hl : l.length < 9223372036854775807) : PureC Try.prog G n_slices_Equal_api_Slot_api_Slot [.seq 5 (k.map slotV), .seq 5 (l.map slotV)] (.bool (decide (k = l))) := by
  refine pc_slices_Equal_api_Slot_api_Slot (Runs.of fun Φ h => ?_)
  unfold c_slices_Equal_api_Slot_api_Slot
  simp -implicitDefEqProofs only [go_sem, Nat.reduceAdd, Nat.reduceSub, Nat.reduceMul, Nat.reduceLT, Nat.reduceLeDiff, Nat.reduceEqDiff, Nat.reduceBEq, Int.reduceNeg, Int.reduceAdd, Int.reduceLT, Int.reduceLE, Int.reduceToNat, Int.reduceEq, Int.reduceNe, Int.reduceBEq, Int.reduceBNe, Int.reduceMul, Int.reduceSub, reduceIte, reduceCtorEq, List.length_map]
  refine ⟨fun hb => ?_, fun hb => ?_⟩
  · refine h _ ⟨_, _, rfl, rfl, fitB ?_⟩
    symm
    rw [decide_eq_false_iff_not]
    rintro rfl
    simp at hb
  · have hkl : k.length = l.length := by
      have : (k.length : Int) = l.length := by simpa using hb
      omega
    refine at_loop (fun n st => ∃ i : Nat, i + n = k.length ∧ st = ⟨26, [(0, .seq 5 (k.map slotV)), (1, .seq 5 (l.map slotV)), (12, iv k.length), (13, iv i)], []⟩ ∧ ∀ j x y, j < i → k[j]? = some x → l[j]? = some y → (x == y) = true) k.length ⟨0, by simp, rfl, fun j x y hj => by omega⟩ ?_
    rintro I hI n st ⟨i, hi, rfl, hall⟩
    simp -implicitDefEqProofs only [go_sem, Nat.reduceAdd, Nat.reduceSub, Nat.reduceMul, Nat.reduceLT, Nat.reduceLeDiff, Nat.reduceEqDiff, Nat.reduceBEq, Int.reduceNeg, Int.reduceAdd, Int.reduceLT, Int.reduceLE, Int.reduceToNat, Int.reduceEq, Int.reduceNe, Int.reduceBEq, Int.reduceBNe, Int.reduceMul, Int.reduceSub, reduceIte, reduceCtorEq]
    refine ⟨fun hlt => ?_, fun hge => ?_⟩
    · have hlt' : i < k.length := by omega
      obtain ⟨x, hx, hm⟩ := at_some hlt'
      obtain ⟨y, hy, hm'⟩ := at_some (l := l) (i := i) (by omega)
      have hw := wrap_succ hlt' (by omega)
      have fin : (x == y) = true → again I n ⟨26, [(0, .seq 5 (k.map slotV)), (1, .seq 5 (l.map slotV)), (12, iv k.length), (13, iv (i + 1 : Nat))], []⟩ := fun hv => at_again (n - 1) (by omega) (hI _ _ ⟨i + 1, by omega, rfl, fun j a b hj ha hb => by
        by_cases e : j = i
        · subst e; rw [hx] at ha; cases ha; rw [hy] at hb; cases hb; exact hv
        · exact hall j a b (by omega) ha hb⟩)
      simp -implicitDefEqProofs only [go_sem, Nat.reduceAdd, Nat.reduceSub, Nat.reduceMul, Nat.reduceLT, Nat.reduceLeDiff, Nat.reduceEqDiff, Nat.reduceBEq, Int.reduceNeg, Int.reduceAdd, Int.reduceLT, Int.reduceLE, Int.reduceToNat, Int.reduceEq, Int.reduceNe, Int.reduceBEq, Int.reduceBNe, Int.reduceMul, Int.reduceSub, reduceIte, reduceCtorEq, aiaddr_map hx, aiaddr_map hy, slotV]
      refine ⟨fun hb => ?_, fun hb => ?_⟩
      · have hv : (x == y) = false := by
          cases hxy : (x == y) with
          | false => rfl
          | true => exfalso; have := eq_of_beq hxy; subst this; simp at hb
        refine h _ ⟨_, _, rfl, rfl, fitB ?_⟩
        symm
        rw [decide_eq_false_iff_not]
        rintro rfl
        rw [hx] at hy
        cases hy
        simp at hv
      · have hv : (x == y) = true := by rw [slotEq]; simpa using hb
        simp -implicitDefEqProofs only [go_sem, Nat.reduceAdd, Nat.reduceSub, Nat.reduceMul, Nat.reduceLT, Nat.reduceLeDiff, Nat.reduceEqDiff, Nat.reduceBEq, Int.reduceNeg, Int.reduceAdd, Int.reduceLT, Int.reduceLE, Int.reduceToNat, Int.reduceEq, Int.reduceNe, Int.reduceBEq, Int.reduceBNe, Int.reduceMul, Int.reduceSub, reduceIte, reduceCtorEq, hw]
        exact fin hv
    · refine h _ ⟨_, _, rfl, rfl, fitB ?_⟩
      symm
      rw [decide_eq_true_eq]
      apply List.ext_getElem?
      intro j
      by_cases hj : j < k.length
      · rw [List.getElem?_eq_getElem hj, List.getElem?_eq_getElem (by omega)]
        have := hall j _ _ (by omega) (List.getElem?_eq_getElem hj) (List.getElem?_eq_getElem (by omega))
        rw [eq_of_beq this]
      · rw [List.getElem?_eq_none (by omega), List.getElem?_eq_none (by omega)]
theorem binding_Same_pc (a b : List SlotT) (ha : a.length < 9223372036854775807) (hb : b.length < 9223372036854775807) : PureC Try.prog G n_binding_Same [slotsV a, slotsV b] (.bool (decide (a = b))) := by
  have hc := slices_Equal_api_Slot_api_Slot_pc (G := G) a b ha hb
  refine pc_binding_Same (Runs.of fun Φ h => ?_)
  unfold c_binding_Same
  generalize decide (a = b) = z at *
  (try (simp -implicitDefEqProofs only [go_sem, Nat.reduceAdd, Nat.reduceSub, Nat.reduceMul, Nat.reduceLT, Nat.reduceLeDiff, Nat.reduceEqDiff, Nat.reduceBEq, Int.reduceNeg, Int.reduceAdd, Int.reduceLT, Int.reduceLE, Int.reduceToNat, Int.reduceEq, Int.reduceNe, Int.reduceBEq, Int.reduceBNe, Int.reduceMul, Int.reduceSub, reduceIte, reduceCtorEq, slotsV])); repeat' ((first | refine at_guard (fun hb => ?_) (fun hb => ?_) | refine ⟨fun hb => ?_, fun hb => ?_⟩ | refine at_call (hc) rfl rfl ?_ | fail) <;> (try (simp -implicitDefEqProofs only [go_sem, Nat.reduceAdd, Nat.reduceSub, Nat.reduceMul, Nat.reduceLT, Nat.reduceLeDiff, Nat.reduceEqDiff, Nat.reduceBEq, Int.reduceNeg, Int.reduceAdd, Int.reduceLT, Int.reduceLE, Int.reduceToNat, Int.reduceEq, Int.reduceNe, Int.reduceBEq, Int.reduceBNe, Int.reduceMul, Int.reduceSub, reduceIte, reduceCtorEq, slotsV])))
  exact h _ ⟨_, _, rfl, rfl, .refl _⟩
end Go.Proofs.Ytjkdpahaingjjaa.Ab
namespace Go.Proofs.Ytjkdpahaingjjaa.Ab
open Go Go.RowKit
set_option linter.unusedSimpArgs false
set_option maxHeartbeats 4000000
set_option maxRecDepth 100000
variable {G : Nat → Option AV}
def lessSl : List SlotT → List SlotT → Bool
  | x :: l, y :: k => if ¬ x.var = y.var then decide (x.var < y.var) else if ¬ x.value = y.value then lessV x.value y.value else lessSl l k
  | [], _ => false
  | _ :: _, [] => false
def lessB (a b : List SlotT) : Bool := if ¬ a.length = b.length then decide (a.length < b.length) else lessSl a b
theorem binding_Less_pc (a b : List SlotT) (ha : a.length ≤ 1000) (_hb : b.length ≤ 1000) : PureC Try.prog G n_binding_Less [slotsV a, slotsV b] (.bool (lessB a b)) := by
  refine pc_binding_Less (Runs.of fun Φ h => ?_)
  unfold c_binding_Less
  have fin : ∀ β heap, β = lessB a b → Φ ⟨59, [(4, .bool β)], heap⟩ := fun β heap e => h _ ⟨_, _, rfl, rfl, fitB e⟩
  clear h
  unfold lessB at fin
  by_cases hl : a.length = b.length
  · have e0 : ((a.length : Int) != (b.length : Int)) = false := by simp [hl]
    rw [if_neg (by simpa using hl)] at fin
    simp -implicitDefEqProofs only [go_sem, Nat.reduceAdd, Nat.reduceSub, Nat.reduceMul, Nat.reduceLT, Nat.reduceLeDiff, Nat.reduceEqDiff, Nat.reduceBEq, Int.reduceNeg, Int.reduceAdd, Int.reduceLT, Int.reduceLE, Int.reduceToNat, Int.reduceEq, Int.reduceNe, Int.reduceBEq, Int.reduceBNe, Int.reduceMul, Int.reduceSub, reduceIte, reduceCtorEq, slotsV, List.length_map, e0]
    refine at_loop (fun n st => ∃ i : Nat, i + n = a.length ∧ st = ⟨59, [(1, .seq 5 (b.map slotV)), (17, .seq 5 (a.map slotV)), (18, iv a.length), (19, iv i)], []⟩ ∧ lessSl (a.drop i) (b.drop i) = lessSl a b) a.length ⟨0, by simp, rfl, rfl⟩ ?_
    rintro I hI n st ⟨i, hi, rfl, hno⟩
    simp -implicitDefEqProofs only [go_sem, Nat.reduceAdd, Nat.reduceSub, Nat.reduceMul, Nat.reduceLT, Nat.reduceLeDiff, Nat.reduceEqDiff, Nat.reduceBEq, Int.reduceNeg, Int.reduceAdd, Int.reduceLT, Int.reduceLE, Int.reduceToNat, Int.reduceEq, Int.reduceNe, Int.reduceBEq, Int.reduceBNe, Int.reduceMul, Int.reduceSub, reduceIte, reduceCtorEq, List.length_map]
    refine ⟨fun hlt => ?_, fun hge => ?_⟩
    · have hlt' : i < a.length := by omega
      obtain ⟨x, hx, _⟩ := at_some hlt'
      obtain ⟨y, hy, _⟩ := at_some (l := b) (i := i) (by omega)
      have hw := wrap_succ hlt' (by omega)
      have hc := value_Less_pc (G := G) x.value y.value
      rw [drop_at hx, drop_at hy, lessSl] at hno
      generalize lessV x.value y.value = z at *
      generalize lessSl a b = R at *
      obtain ⟨v1, ⟨k1, n1, s1, t1⟩⟩ := x
      obtain ⟨v2, ⟨k2, n2, s2, t2⟩⟩ := y
      simp only [valV] at hc hno
      by_cases hv : v1 = v2
      · subst hv
        rw [if_neg (by simp)] at hno
        have hxy : ((⟨k1, n1, s1, t1⟩ : Val) == ⟨k2, n2, s2, t2⟩) = (k1 == k2 && (n1 == n2 && (s1 == s2 && t1 == t2))) := val_beq _ _ _ _ _ _ _ _
        cases hE : ((⟨k1, n1, s1, t1⟩ : Val) == ⟨k2, n2, s2, t2⟩) with
        | true =>
          rw [hE] at hxy
          rw [if_neg (by simpa using hE)] at hno
          (try (simp -implicitDefEqProofs only [go_sem, Nat.reduceAdd, Nat.reduceSub, Nat.reduceMul, Nat.reduceLT, Nat.reduceLeDiff, Nat.reduceEqDiff, Nat.reduceBEq, Int.reduceNeg, Int.reduceAdd, Int.reduceLT, Int.reduceLE, Int.reduceToNat, Int.reduceEq, Int.reduceNe, Int.reduceBEq, Int.reduceBNe, Int.reduceMul, Int.reduceSub, reduceIte, reduceCtorEq, aiaddr_map hx, aiaddr_map hy, slotV, valV, hw, aeqA, aeqs, leafEq, andO, Bool.and_true, ← hxy, Bool.not_true])); repeat' ((first | refine at_guard (fun hb => ?_) (fun hb => ?_) | refine ⟨fun hb => ?_, fun hb => ?_⟩ | refine at_call (hc) rfl rfl ?_ | fail) <;> (try (simp -implicitDefEqProofs only [go_sem, Nat.reduceAdd, Nat.reduceSub, Nat.reduceMul, Nat.reduceLT, Nat.reduceLeDiff, Nat.reduceEqDiff, Nat.reduceBEq, Int.reduceNeg, Int.reduceAdd, Int.reduceLT, Int.reduceLE, Int.reduceToNat, Int.reduceEq, Int.reduceNe, Int.reduceBEq, Int.reduceBNe, Int.reduceMul, Int.reduceSub, reduceIte, reduceCtorEq, aiaddr_map hx, aiaddr_map hy, slotV, valV, hw, aeqA, aeqs, leafEq, andO, Bool.and_true, ← hxy, Bool.not_true])))
          all_goals first
            | exact at_again (n - 1) (by omega) (hI _ _ ⟨i + 1, by omega, rfl, hno⟩)
            | (exfalso; simp_all; done)
        | false =>
          rw [hE] at hxy
          rw [if_pos (by simpa using hE)] at hno
          (try (simp -implicitDefEqProofs only [go_sem, Nat.reduceAdd, Nat.reduceSub, Nat.reduceMul, Nat.reduceLT, Nat.reduceLeDiff, Nat.reduceEqDiff, Nat.reduceBEq, Int.reduceNeg, Int.reduceAdd, Int.reduceLT, Int.reduceLE, Int.reduceToNat, Int.reduceEq, Int.reduceNe, Int.reduceBEq, Int.reduceBNe, Int.reduceMul, Int.reduceSub, reduceIte, reduceCtorEq, aiaddr_map hx, aiaddr_map hy, slotV, valV, hw, aeqA, aeqs, leafEq, andO, Bool.and_true, ← hxy, Bool.not_false])); repeat' ((first | refine at_guard (fun hb => ?_) (fun hb => ?_) | refine ⟨fun hb => ?_, fun hb => ?_⟩ | refine at_call (hc) rfl rfl ?_ | fail) <;> (try (simp -implicitDefEqProofs only [go_sem, Nat.reduceAdd, Nat.reduceSub, Nat.reduceMul, Nat.reduceLT, Nat.reduceLeDiff, Nat.reduceEqDiff, Nat.reduceBEq, Int.reduceNeg, Int.reduceAdd, Int.reduceLT, Int.reduceLE, Int.reduceToNat, Int.reduceEq, Int.reduceNe, Int.reduceBEq, Int.reduceBNe, Int.reduceMul, Int.reduceSub, reduceIte, reduceCtorEq, aiaddr_map hx, aiaddr_map hy, slotV, valV, hw, aeqA, aeqs, leafEq, andO, Bool.and_true, ← hxy, Bool.not_false])))
          all_goals first
            | exact fin _ _ hno
            | (exfalso; simp_all; done)
      · have hv' : (v1 != v2) = true := by simpa using hv
        rw [if_pos hv] at hno
        (try (simp -implicitDefEqProofs only [go_sem, Nat.reduceAdd, Nat.reduceSub, Nat.reduceMul, Nat.reduceLT, Nat.reduceLeDiff, Nat.reduceEqDiff, Nat.reduceBEq, Int.reduceNeg, Int.reduceAdd, Int.reduceLT, Int.reduceLE, Int.reduceToNat, Int.reduceEq, Int.reduceNe, Int.reduceBEq, Int.reduceBNe, Int.reduceMul, Int.reduceSub, reduceIte, reduceCtorEq, aiaddr_map hx, aiaddr_map hy, slotV, valV, hw, hv'])); repeat' ((first | refine at_guard (fun hb => ?_) (fun hb => ?_) | refine ⟨fun hb => ?_, fun hb => ?_⟩ | refine at_call (hc) rfl rfl ?_ | fail) <;> (try (simp -implicitDefEqProofs only [go_sem, Nat.reduceAdd, Nat.reduceSub, Nat.reduceMul, Nat.reduceLT, Nat.reduceLeDiff, Nat.reduceEqDiff, Nat.reduceBEq, Int.reduceNeg, Int.reduceAdd, Int.reduceLT, Int.reduceLE, Int.reduceToNat, Int.reduceEq, Int.reduceNe, Int.reduceBEq, Int.reduceBNe, Int.reduceMul, Int.reduceSub, reduceIte, reduceCtorEq, aiaddr_map hx, aiaddr_map hy, slotV, valV, hw, hv'])))
        all_goals first
          | exact fin _ _ hno
          | (exfalso; simp_all; done)
    · have hd : a.drop i = [] := List.drop_of_length_le (by omega)
      rw [hd, lessSl] at hno
      (try (simp -implicitDefEqProofs only [go_sem, Nat.reduceAdd, Nat.reduceSub, Nat.reduceMul, Nat.reduceLT, Nat.reduceLeDiff, Nat.reduceEqDiff, Nat.reduceBEq, Int.reduceNeg, Int.reduceAdd, Int.reduceLT, Int.reduceLE, Int.reduceToNat, Int.reduceEq, Int.reduceNe, Int.reduceBEq, Int.reduceBNe, Int.reduceMul, Int.reduceSub, reduceIte, reduceCtorEq])); repeat' ((first | refine at_guard (fun hb => ?_) (fun hb => ?_) | refine ⟨fun hb => ?_, fun hb => ?_⟩ | fail) <;> (try (simp -implicitDefEqProofs only [go_sem, Nat.reduceAdd, Nat.reduceSub, Nat.reduceMul, Nat.reduceLT, Nat.reduceLeDiff, Nat.reduceEqDiff, Nat.reduceBEq, Int.reduceNeg, Int.reduceAdd, Int.reduceLT, Int.reduceLE, Int.reduceToNat, Int.reduceEq, Int.reduceNe, Int.reduceBEq, Int.reduceBNe, Int.reduceMul, Int.reduceSub, reduceIte, reduceCtorEq])))
      exact fin _ _ hno
  · have e0 : ((a.length : Int) != (b.length : Int)) = true := by simp; omega
    have e1 : decide ((a.length : Int) < (b.length : Int)) = decide (a.length < b.length) := by simp
    rw [if_pos hl] at fin
    (try (simp -implicitDefEqProofs only [go_sem, Nat.reduceAdd, Nat.reduceSub, Nat.reduceMul, Nat.reduceLT, Nat.reduceLeDiff, Nat.reduceEqDiff, Nat.reduceBEq, Int.reduceNeg, Int.reduceAdd, Int.reduceLT, Int.reduceLE, Int.reduceToNat, Int.reduceEq, Int.reduceNe, Int.reduceBEq, Int.reduceBNe, Int.reduceMul, Int.reduceSub, reduceIte, reduceCtorEq, slotsV, List.length_map, e0, e1])); repeat' ((first | refine at_guard (fun hb => ?_) (fun hb => ?_) | refine ⟨fun hb => ?_, fun hb => ?_⟩ | fail) <;> (try (simp -implicitDefEqProofs only [go_sem, Nat.reduceAdd, Nat.reduceSub, Nat.reduceMul, Nat.reduceLT, Nat.reduceLeDiff, Nat.reduceEqDiff, Nat.reduceBEq, Int.reduceNeg, Int.reduceAdd, Int.reduceLT, Int.reduceLE, Int.reduceToNat, Int.reduceEq, Int.reduceNe, Int.reduceBEq, Int.reduceBNe, Int.reduceMul, Int.reduceSub, reduceIte, reduceCtorEq, slotsV, List.length_map, e0, e1])))
    exact fin _ _ rfl
end Go.Proofs.Ytjkdpahaingjjaa.Ab
