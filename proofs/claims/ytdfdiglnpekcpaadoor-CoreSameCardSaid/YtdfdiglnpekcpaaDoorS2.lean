/-
  core.Same, and what it calls. No claim is proved here.
-/
import Derived.Test.YtdfdiglnpekcpaaDoorD26
namespace Go.Proofs.YtdfdiglnpekcpaaDoor.Ab
open Go
set_option linter.unusedSimpArgs false
set_option maxHeartbeats 4000000
variable {G : Nat → Option AV}
theorem quantEq (a b : QuantT) : (a == b) = (a.all == b.all && (a.name == b.name && (a.type == b.type && true))) := by
  obtain ⟨a1, a2, a3⟩ := a
  obtain ⟨b1, b2, b3⟩ := b
  rw [Bool.eq_iff_iff]
  simp
theorem freeEq (a b : FreeT) : (a == b) = (a.name == b.name && (a.init.kind == b.init.kind && (a.init.int == b.init.int && (a.init.str == b.init.str && (a.init.bool == b.init.bool && true))))) := by
  obtain ⟨a1, a2, a3, a4, a5⟩ := a
  obtain ⟨b1, b2, b3, b4, b5⟩ := b
  rw [Bool.eq_iff_iff]
  simp
theorem stateEq (a b : StateT) : (a == b) = (a.name == b.name && (a.next == b.next && (a.accept == b.accept && true))) := by
  obtain ⟨a1, a2, a3⟩ := a
  obtain ⟨b1, b2, b3⟩ := b
  rw [Bool.eq_iff_iff]
  simp
theorem setEq (a b : SetT) : (a == b) = (a.free == b.free && (a.expr == b.expr && true)) := by
  obtain ⟨a1, a2⟩ := a
  obtain ⟨b1, b2⟩ := b
  rw [Bool.eq_iff_iff]
  simp
theorem nodeEq (a b : NodeT) : (a == b) = (a.op == b.op && (a.a == b.a && (a.b == b.b && (a.value.kind == b.value.kind && (a.value.int == b.value.int && (a.value.str == b.value.str && (a.value.bool == b.value.bool && true))))))) := by
  obtain ⟨a1, a2, a3, a4, a5, a6, a7⟩ := a
  obtain ⟨b1, b2, b3, b4, b5, b6, b7⟩ := b
  rw [Bool.eq_iff_iff]
  simp
theorem slices_Equal_int_int_pc (k l : List Int) (hk : k.length < 9223372036854775807) (hl : l.length < 9223372036854775807) : PureC Tryd.prog G n_slices_Equal_int_int [.seq 1 (k.map iv), .seq 1 (l.map iv)] (.bool (decide (k = l))) := by
  refine pc_slices_Equal_int_int (Runs.of fun Φ h => ?_)
  unfold c_slices_Equal_int_int
  simp -implicitDefEqProofs only [go_sem, Nat.reduceAdd, Nat.reduceSub, Nat.reduceMul, Nat.reduceLT, Nat.reduceLeDiff, Nat.reduceEqDiff, Nat.reduceBEq, Int.reduceNeg, Int.reduceAdd, Int.reduceLT, Int.reduceLE, Int.reduceToNat, Int.reduceEq, Int.reduceNe, Int.reduceBEq, Int.reduceBNe, Int.reduceMul, Int.reduceSub, reduceIte, reduceCtorEq, List.length_map]
  refine ⟨fun hb => ?_, fun hb => ?_⟩
  · refine h _ ⟨_, _, rfl, rfl, fitB ?_⟩
    symm
    rw [decide_eq_false_iff_not]
    rintro rfl
    simp at hb
  · have hkl : k.length = l.length := by
      have : (k.length : Int) = l.length := by simpa using hb
      omega
    refine at_loop (fun n st => ∃ i : Nat, i + n = k.length ∧ st = ⟨26, [(0, .seq 1 (k.map iv)), (1, .seq 1 (l.map iv)), (12, iv k.length), (13, iv i)], []⟩ ∧ ∀ j x y, j < i → k[j]? = some x → l[j]? = some y → (x == y) = true) k.length ⟨0, by simp, rfl, fun j x y hj => by omega⟩ ?_
    rintro I hI n st ⟨i, hi, rfl, hall⟩
    simp -implicitDefEqProofs only [go_sem, Nat.reduceAdd, Nat.reduceSub, Nat.reduceMul, Nat.reduceLT, Nat.reduceLeDiff, Nat.reduceEqDiff, Nat.reduceBEq, Int.reduceNeg, Int.reduceAdd, Int.reduceLT, Int.reduceLE, Int.reduceToNat, Int.reduceEq, Int.reduceNe, Int.reduceBEq, Int.reduceBNe, Int.reduceMul, Int.reduceSub, reduceIte, reduceCtorEq]
    refine ⟨fun hlt => ?_, fun hge => ?_⟩
    · have hlt' : i < k.length := by omega
      obtain ⟨x, hx, hm⟩ := at_some hlt'
      obtain ⟨y, hy, hm'⟩ := at_some (l := l) (i := i) (by omega)
      have hw := wrap_succ hlt' (by omega)
      have fin : (x == y) = true → again I n ⟨26, [(0, .seq 1 (k.map iv)), (1, .seq 1 (l.map iv)), (12, iv k.length), (13, iv (i + 1 : Nat))], []⟩ := fun hv => at_again (n - 1) (by omega) (hI _ _ ⟨i + 1, by omega, rfl, fun j a b hj ha hb => by
        by_cases e : j = i
        · subst e; rw [hx] at ha; cases ha; rw [hy] at hb; cases hb; exact hv
        · exact hall j a b (by omega) ha hb⟩)
      simp -implicitDefEqProofs only [go_sem, Nat.reduceAdd, Nat.reduceSub, Nat.reduceMul, Nat.reduceLT, Nat.reduceLeDiff, Nat.reduceEqDiff, Nat.reduceBEq, Int.reduceNeg, Int.reduceAdd, Int.reduceLT, Int.reduceLE, Int.reduceToNat, Int.reduceEq, Int.reduceNe, Int.reduceBEq, Int.reduceBNe, Int.reduceMul, Int.reduceSub, reduceIte, reduceCtorEq, aiaddr_map hx, aiaddr_map hy]
      refine ⟨fun hb => ?_, fun hb => ?_⟩
      · have hv : (x == y) = false := by
          cases hxy : (x == y) with
          | false => rfl
          | true => exfalso; have := eq_of_beq hxy; subst this; simp at hb
        refine h _ ⟨_, _, rfl, rfl, fitB ?_⟩
        symm
        rw [decide_eq_false_iff_not]
        rintro rfl
        rw [hx] at hy
        cases hy
        simp at hv
      · have hv : (x == y) = true := by simpa using hb
        simp -implicitDefEqProofs only [go_sem, Nat.reduceAdd, Nat.reduceSub, Nat.reduceMul, Nat.reduceLT, Nat.reduceLeDiff, Nat.reduceEqDiff, Nat.reduceBEq, Int.reduceNeg, Int.reduceAdd, Int.reduceLT, Int.reduceLE, Int.reduceToNat, Int.reduceEq, Int.reduceNe, Int.reduceBEq, Int.reduceBNe, Int.reduceMul, Int.reduceSub, reduceIte, reduceCtorEq, hw]
        exact fin hv
    · refine h _ ⟨_, _, rfl, rfl, fitB ?_⟩
      symm
      rw [decide_eq_true_eq]
      apply List.ext_getElem?
      intro j
      by_cases hj : j < k.length
      · rw [List.getElem?_eq_getElem hj, List.getElem?_eq_getElem (by omega)]
        have := hall j _ _ (by omega) (List.getElem?_eq_getElem hj) (List.getElem?_eq_getElem (by omega))
        rw [eq_of_beq this]
      · rw [List.getElem?_eq_none (by omega), List.getElem?_eq_none (by omega)]
theorem slices_Equal_api_Quant_api_Quant_pc (k l : List QuantT) (hk : k.length < 9223372036854775807) (hl : l.length < 9223372036854775807) : PureC Tryd.prog G n_slices_Equal_api_Quant_api_Quant [.seq 3 (k.map quantV), .seq 3 (l.map quantV)] (.bool (decide (k = l))) := by
  refine pc_slices_Equal_api_Quant_api_Quant (Runs.of fun Φ h => ?_)
  unfold c_slices_Equal_api_Quant_api_Quant
  simp -implicitDefEqProofs only [go_sem, Nat.reduceAdd, Nat.reduceSub, Nat.reduceMul, Nat.reduceLT, Nat.reduceLeDiff, Nat.reduceEqDiff, Nat.reduceBEq, Int.reduceNeg, Int.reduceAdd, Int.reduceLT, Int.reduceLE, Int.reduceToNat, Int.reduceEq, Int.reduceNe, Int.reduceBEq, Int.reduceBNe, Int.reduceMul, Int.reduceSub, reduceIte, reduceCtorEq, List.length_map]
  refine ⟨fun hb => ?_, fun hb => ?_⟩
  · refine h _ ⟨_, _, rfl, rfl, fitB ?_⟩
    symm
    rw [decide_eq_false_iff_not]
    rintro rfl
    simp at hb
  · have hkl : k.length = l.length := by
      have : (k.length : Int) = l.length := by simpa using hb
      omega
    refine at_loop (fun n st => ∃ i : Nat, i + n = k.length ∧ st = ⟨26, [(0, .seq 3 (k.map quantV)), (1, .seq 3 (l.map quantV)), (12, iv k.length), (13, iv i)], []⟩ ∧ ∀ j x y, j < i → k[j]? = some x → l[j]? = some y → (x == y) = true) k.length ⟨0, by simp, rfl, fun j x y hj => by omega⟩ ?_
    rintro I hI n st ⟨i, hi, rfl, hall⟩
    simp -implicitDefEqProofs only [go_sem, Nat.reduceAdd, Nat.reduceSub, Nat.reduceMul, Nat.reduceLT, Nat.reduceLeDiff, Nat.reduceEqDiff, Nat.reduceBEq, Int.reduceNeg, Int.reduceAdd, Int.reduceLT, Int.reduceLE, Int.reduceToNat, Int.reduceEq, Int.reduceNe, Int.reduceBEq, Int.reduceBNe, Int.reduceMul, Int.reduceSub, reduceIte, reduceCtorEq]
    refine ⟨fun hlt => ?_, fun hge => ?_⟩
    · have hlt' : i < k.length := by omega
      obtain ⟨x, hx, hm⟩ := at_some hlt'
      obtain ⟨y, hy, hm'⟩ := at_some (l := l) (i := i) (by omega)
      have hw := wrap_succ hlt' (by omega)
      have fin : (x == y) = true → again I n ⟨26, [(0, .seq 3 (k.map quantV)), (1, .seq 3 (l.map quantV)), (12, iv k.length), (13, iv (i + 1 : Nat))], []⟩ := fun hv => at_again (n - 1) (by omega) (hI _ _ ⟨i + 1, by omega, rfl, fun j a b hj ha hb => by
        by_cases e : j = i
        · subst e; rw [hx] at ha; cases ha; rw [hy] at hb; cases hb; exact hv
        · exact hall j a b (by omega) ha hb⟩)
      simp -implicitDefEqProofs only [go_sem, Nat.reduceAdd, Nat.reduceSub, Nat.reduceMul, Nat.reduceLT, Nat.reduceLeDiff, Nat.reduceEqDiff, Nat.reduceBEq, Int.reduceNeg, Int.reduceAdd, Int.reduceLT, Int.reduceLE, Int.reduceToNat, Int.reduceEq, Int.reduceNe, Int.reduceBEq, Int.reduceBNe, Int.reduceMul, Int.reduceSub, reduceIte, reduceCtorEq, aiaddr_map hx, aiaddr_map hy, quantV]
      refine ⟨fun hb => ?_, fun hb => ?_⟩
      · have hv : (x == y) = false := by
          cases hxy : (x == y) with
          | false => rfl
          | true => exfalso; have := eq_of_beq hxy; subst this; simp at hb
        refine h _ ⟨_, _, rfl, rfl, fitB ?_⟩
        symm
        rw [decide_eq_false_iff_not]
        rintro rfl
        rw [hx] at hy
        cases hy
        simp at hv
      · have hv : (x == y) = true := by rw [quantEq]; simpa using hb
        simp -implicitDefEqProofs only [go_sem, Nat.reduceAdd, Nat.reduceSub, Nat.reduceMul, Nat.reduceLT, Nat.reduceLeDiff, Nat.reduceEqDiff, Nat.reduceBEq, Int.reduceNeg, Int.reduceAdd, Int.reduceLT, Int.reduceLE, Int.reduceToNat, Int.reduceEq, Int.reduceNe, Int.reduceBEq, Int.reduceBNe, Int.reduceMul, Int.reduceSub, reduceIte, reduceCtorEq, hw]
        exact fin hv
    · refine h _ ⟨_, _, rfl, rfl, fitB ?_⟩
      symm
      rw [decide_eq_true_eq]
      apply List.ext_getElem?
      intro j
      by_cases hj : j < k.length
      · rw [List.getElem?_eq_getElem hj, List.getElem?_eq_getElem (by omega)]
        have := hall j _ _ (by omega) (List.getElem?_eq_getElem hj) (List.getElem?_eq_getElem (by omega))
        rw [eq_of_beq this]
      · rw [List.getElem?_eq_none (by omega), List.getElem?_eq_none (by omega)]
theorem slices_Equal_api_Free_api_Free_pc (k l : List FreeT) (hk : k.length < 9223372036854775807) (hl : l.length < 9223372036854775807) : PureC Tryd.prog G n_slices_Equal_api_Free_api_Free [.seq 5 (k.map freeV), .seq 5 (l.map freeV)] (.bool (decide (k = l))) := by
  refine pc_slices_Equal_api_Free_api_Free (Runs.of fun Φ h => ?_)
  unfold c_slices_Equal_api_Free_api_Free
  simp -implicitDefEqProofs only [go_sem, Nat.reduceAdd, Nat.reduceSub, Nat.reduceMul, Nat.reduceLT, Nat.reduceLeDiff, Nat.reduceEqDiff, Nat.reduceBEq, Int.reduceNeg, Int.reduceAdd, Int.reduceLT, Int.reduceLE, Int.reduceToNat, Int.reduceEq, Int.reduceNe, Int.reduceBEq, Int.reduceBNe, Int.reduceMul, Int.reduceSub, reduceIte, reduceCtorEq, List.length_map]
  refine ⟨fun hb => ?_, fun hb => ?_⟩
  · refine h _ ⟨_, _, rfl, rfl, fitB ?_⟩
    symm
    rw [decide_eq_false_iff_not]
    rintro rfl
    simp at hb
  · have hkl : k.length = l.length := by
      have : (k.length : Int) = l.length := by simpa using hb
      omega
    refine at_loop (fun n st => ∃ i : Nat, i + n = k.length ∧ st = ⟨26, [(0, .seq 5 (k.map freeV)), (1, .seq 5 (l.map freeV)), (12, iv k.length), (13, iv i)], []⟩ ∧ ∀ j x y, j < i → k[j]? = some x → l[j]? = some y → (x == y) = true) k.length ⟨0, by simp, rfl, fun j x y hj => by omega⟩ ?_
    rintro I hI n st ⟨i, hi, rfl, hall⟩
    simp -implicitDefEqProofs only [go_sem, Nat.reduceAdd, Nat.reduceSub, Nat.reduceMul, Nat.reduceLT, Nat.reduceLeDiff, Nat.reduceEqDiff, Nat.reduceBEq, Int.reduceNeg, Int.reduceAdd, Int.reduceLT, Int.reduceLE, Int.reduceToNat, Int.reduceEq, Int.reduceNe, Int.reduceBEq, Int.reduceBNe, Int.reduceMul, Int.reduceSub, reduceIte, reduceCtorEq]
    refine ⟨fun hlt => ?_, fun hge => ?_⟩
    · have hlt' : i < k.length := by omega
      obtain ⟨x, hx, hm⟩ := at_some hlt'
      obtain ⟨y, hy, hm'⟩ := at_some (l := l) (i := i) (by omega)
      have hw := wrap_succ hlt' (by omega)
      have fin : (x == y) = true → again I n ⟨26, [(0, .seq 5 (k.map freeV)), (1, .seq 5 (l.map freeV)), (12, iv k.length), (13, iv (i + 1 : Nat))], []⟩ := fun hv => at_again (n - 1) (by omega) (hI _ _ ⟨i + 1, by omega, rfl, fun j a b hj ha hb => by
        by_cases e : j = i
        · subst e; rw [hx] at ha; cases ha; rw [hy] at hb; cases hb; exact hv
        · exact hall j a b (by omega) ha hb⟩)
      simp -implicitDefEqProofs only [go_sem, Nat.reduceAdd, Nat.reduceSub, Nat.reduceMul, Nat.reduceLT, Nat.reduceLeDiff, Nat.reduceEqDiff, Nat.reduceBEq, Int.reduceNeg, Int.reduceAdd, Int.reduceLT, Int.reduceLE, Int.reduceToNat, Int.reduceEq, Int.reduceNe, Int.reduceBEq, Int.reduceBNe, Int.reduceMul, Int.reduceSub, reduceIte, reduceCtorEq, aiaddr_map hx, aiaddr_map hy, freeV]
      refine ⟨fun hb => ?_, fun hb => ?_⟩
      · have hv : (x == y) = false := by
          cases hxy : (x == y) with
          | false => rfl
          | true => exfalso; have := eq_of_beq hxy; subst this; simp at hb
        refine h _ ⟨_, _, rfl, rfl, fitB ?_⟩
        symm
        rw [decide_eq_false_iff_not]
        rintro rfl
        rw [hx] at hy
        cases hy
        simp at hv
      · have hv : (x == y) = true := by rw [freeEq]; simpa using hb
        simp -implicitDefEqProofs only [go_sem, Nat.reduceAdd, Nat.reduceSub, Nat.reduceMul, Nat.reduceLT, Nat.reduceLeDiff, Nat.reduceEqDiff, Nat.reduceBEq, Int.reduceNeg, Int.reduceAdd, Int.reduceLT, Int.reduceLE, Int.reduceToNat, Int.reduceEq, Int.reduceNe, Int.reduceBEq, Int.reduceBNe, Int.reduceMul, Int.reduceSub, reduceIte, reduceCtorEq, hw]
        exact fin hv
    · refine h _ ⟨_, _, rfl, rfl, fitB ?_⟩
      symm
      rw [decide_eq_true_eq]
      apply List.ext_getElem?
      intro j
      by_cases hj : j < k.length
      · rw [List.getElem?_eq_getElem hj, List.getElem?_eq_getElem (by omega)]
        have := hall j _ _ (by omega) (List.getElem?_eq_getElem hj) (List.getElem?_eq_getElem (by omega))
        rw [eq_of_beq this]
      · rw [List.getElem?_eq_none (by omega), List.getElem?_eq_none (by omega)]
theorem slices_Equal_api_State_api_State_pc (k l : List StateT) (hk : k.length < 9223372036854775807) (hl : l.length < 9223372036854775807) : PureC Tryd.prog G n_slices_Equal_api_State_api_State [.seq 3 (k.map stateV), .seq 3 (l.map stateV)] (.bool (decide (k = l))) := by
  refine pc_slices_Equal_api_State_api_State (Runs.of fun Φ h => ?_)
  unfold c_slices_Equal_api_State_api_State
  simp -implicitDefEqProofs only [go_sem, Nat.reduceAdd, Nat.reduceSub, Nat.reduceMul, Nat.reduceLT, Nat.reduceLeDiff, Nat.reduceEqDiff, Nat.reduceBEq, Int.reduceNeg, Int.reduceAdd, Int.reduceLT, Int.reduceLE, Int.reduceToNat, Int.reduceEq, Int.reduceNe, Int.reduceBEq, Int.reduceBNe, Int.reduceMul, Int.reduceSub, reduceIte, reduceCtorEq, List.length_map]
  refine ⟨fun hb => ?_, fun hb => ?_⟩
  · refine h _ ⟨_, _, rfl, rfl, fitB ?_⟩
    symm
    rw [decide_eq_false_iff_not]
    rintro rfl
    simp at hb
  · have hkl : k.length = l.length := by
      have : (k.length : Int) = l.length := by simpa using hb
      omega
    refine at_loop (fun n st => ∃ i : Nat, i + n = k.length ∧ st = ⟨26, [(0, .seq 3 (k.map stateV)), (1, .seq 3 (l.map stateV)), (12, iv k.length), (13, iv i)], []⟩ ∧ ∀ j x y, j < i → k[j]? = some x → l[j]? = some y → (x == y) = true) k.length ⟨0, by simp, rfl, fun j x y hj => by omega⟩ ?_
    rintro I hI n st ⟨i, hi, rfl, hall⟩
    simp -implicitDefEqProofs only [go_sem, Nat.reduceAdd, Nat.reduceSub, Nat.reduceMul, Nat.reduceLT, Nat.reduceLeDiff, Nat.reduceEqDiff, Nat.reduceBEq, Int.reduceNeg, Int.reduceAdd, Int.reduceLT, Int.reduceLE, Int.reduceToNat, Int.reduceEq, Int.reduceNe, Int.reduceBEq, Int.reduceBNe, Int.reduceMul, Int.reduceSub, reduceIte, reduceCtorEq]
    refine ⟨fun hlt => ?_, fun hge => ?_⟩
    · have hlt' : i < k.length := by omega
      obtain ⟨x, hx, hm⟩ := at_some hlt'
      obtain ⟨y, hy, hm'⟩ := at_some (l := l) (i := i) (by omega)
      have hw := wrap_succ hlt' (by omega)
      have fin : (x == y) = true → again I n ⟨26, [(0, .seq 3 (k.map stateV)), (1, .seq 3 (l.map stateV)), (12, iv k.length), (13, iv (i + 1 : Nat))], []⟩ := fun hv => at_again (n - 1) (by omega) (hI _ _ ⟨i + 1, by omega, rfl, fun j a b hj ha hb => by
        by_cases e : j = i
        · subst e; rw [hx] at ha; cases ha; rw [hy] at hb; cases hb; exact hv
        · exact hall j a b (by omega) ha hb⟩)
      simp -implicitDefEqProofs only [go_sem, Nat.reduceAdd, Nat.reduceSub, Nat.reduceMul, Nat.reduceLT, Nat.reduceLeDiff, Nat.reduceEqDiff, Nat.reduceBEq, Int.reduceNeg, Int.reduceAdd, Int.reduceLT, Int.reduceLE, Int.reduceToNat, Int.reduceEq, Int.reduceNe, Int.reduceBEq, Int.reduceBNe, Int.reduceMul, Int.reduceSub, reduceIte, reduceCtorEq, aiaddr_map hx, aiaddr_map hy, stateV]
      refine ⟨fun hb => ?_, fun hb => ?_⟩
      · have hv : (x == y) = false := by
          cases hxy : (x == y) with
          | false => rfl
          | true => exfalso; have := eq_of_beq hxy; subst this; simp at hb
        refine h _ ⟨_, _, rfl, rfl, fitB ?_⟩
        symm
        rw [decide_eq_false_iff_not]
        rintro rfl
        rw [hx] at hy
        cases hy
        simp at hv
      · have hv : (x == y) = true := by rw [stateEq]; simpa using hb
        simp -implicitDefEqProofs only [go_sem, Nat.reduceAdd, Nat.reduceSub, Nat.reduceMul, Nat.reduceLT, Nat.reduceLeDiff, Nat.reduceEqDiff, Nat.reduceBEq, Int.reduceNeg, Int.reduceAdd, Int.reduceLT, Int.reduceLE, Int.reduceToNat, Int.reduceEq, Int.reduceNe, Int.reduceBEq, Int.reduceBNe, Int.reduceMul, Int.reduceSub, reduceIte, reduceCtorEq, hw]
        exact fin hv
    · refine h _ ⟨_, _, rfl, rfl, fitB ?_⟩
      symm
      rw [decide_eq_true_eq]
      apply List.ext_getElem?
      intro j
      by_cases hj : j < k.length
      · rw [List.getElem?_eq_getElem hj, List.getElem?_eq_getElem (by omega)]
        have := hall j _ _ (by omega) (List.getElem?_eq_getElem hj) (List.getElem?_eq_getElem (by omega))
        rw [eq_of_beq this]
      · rw [List.getElem?_eq_none (by omega), List.getElem?_eq_none (by omega)]
theorem slices_Equal_api_Set_api_Set_pc (k l : List SetT) (hk : k.length < 9223372036854775807) (hl : l.length < 9223372036854775807) : PureC Tryd.prog G n_slices_Equal_api_Set_api_Set [.seq 2 (k.map setV), .seq 2 (l.map setV)] (.bool (decide (k = l))) := by
  refine pc_slices_Equal_api_Set_api_Set (Runs.of fun Φ h => ?_)
  unfold c_slices_Equal_api_Set_api_Set
  simp -implicitDefEqProofs only [go_sem, Nat.reduceAdd, Nat.reduceSub, Nat.reduceMul, Nat.reduceLT, Nat.reduceLeDiff, Nat.reduceEqDiff, Nat.reduceBEq, Int.reduceNeg, Int.reduceAdd, Int.reduceLT, Int.reduceLE, Int.reduceToNat, Int.reduceEq, Int.reduceNe, Int.reduceBEq, Int.reduceBNe, Int.reduceMul, Int.reduceSub, reduceIte, reduceCtorEq, List.length_map]
  refine ⟨fun hb => ?_, fun hb => ?_⟩
  · refine h _ ⟨_, _, rfl, rfl, fitB ?_⟩
    symm
    rw [decide_eq_false_iff_not]
    rintro rfl
    simp at hb
  · have hkl : k.length = l.length := by
      have : (k.length : Int) = l.length := by simpa using hb
      omega
    refine at_loop (fun n st => ∃ i : Nat, i + n = k.length ∧ st = ⟨26, [(0, .seq 2 (k.map setV)), (1, .seq 2 (l.map setV)), (12, iv k.length), (13, iv i)], []⟩ ∧ ∀ j x y, j < i → k[j]? = some x → l[j]? = some y → (x == y) = true) k.length ⟨0, by simp, rfl, fun j x y hj => by omega⟩ ?_
    rintro I hI n st ⟨i, hi, rfl, hall⟩
    simp -implicitDefEqProofs only [go_sem, Nat.reduceAdd, Nat.reduceSub, Nat.reduceMul, Nat.reduceLT, Nat.reduceLeDiff, Nat.reduceEqDiff, Nat.reduceBEq, Int.reduceNeg, Int.reduceAdd, Int.reduceLT, Int.reduceLE, Int.reduceToNat, Int.reduceEq, Int.reduceNe, Int.reduceBEq, Int.reduceBNe, Int.reduceMul, Int.reduceSub, reduceIte, reduceCtorEq]
    refine ⟨fun hlt => ?_, fun hge => ?_⟩
    · have hlt' : i < k.length := by omega
      obtain ⟨x, hx, hm⟩ := at_some hlt'
      obtain ⟨y, hy, hm'⟩ := at_some (l := l) (i := i) (by omega)
      have hw := wrap_succ hlt' (by omega)
      have fin : (x == y) = true → again I n ⟨26, [(0, .seq 2 (k.map setV)), (1, .seq 2 (l.map setV)), (12, iv k.length), (13, iv (i + 1 : Nat))], []⟩ := fun hv => at_again (n - 1) (by omega) (hI _ _ ⟨i + 1, by omega, rfl, fun j a b hj ha hb => by
        by_cases e : j = i
        · subst e; rw [hx] at ha; cases ha; rw [hy] at hb; cases hb; exact hv
        · exact hall j a b (by omega) ha hb⟩)
      simp -implicitDefEqProofs only [go_sem, Nat.reduceAdd, Nat.reduceSub, Nat.reduceMul, Nat.reduceLT, Nat.reduceLeDiff, Nat.reduceEqDiff, Nat.reduceBEq, Int.reduceNeg, Int.reduceAdd, Int.reduceLT, Int.reduceLE, Int.reduceToNat, Int.reduceEq, Int.reduceNe, Int.reduceBEq, Int.reduceBNe, Int.reduceMul, Int.reduceSub, reduceIte, reduceCtorEq, aiaddr_map hx, aiaddr_map hy, setV]
      refine ⟨fun hb => ?_, fun hb => ?_⟩
      · have hv : (x == y) = false := by
          cases hxy : (x == y) with
          | false => rfl
          | true => exfalso; have := eq_of_beq hxy; subst this; simp at hb
        refine h _ ⟨_, _, rfl, rfl, fitB ?_⟩
        symm
        rw [decide_eq_false_iff_not]
        rintro rfl
        rw [hx] at hy
        cases hy
        simp at hv
      · have hv : (x == y) = true := by rw [setEq]; simpa using hb
        simp -implicitDefEqProofs only [go_sem, Nat.reduceAdd, Nat.reduceSub, Nat.reduceMul, Nat.reduceLT, Nat.reduceLeDiff, Nat.reduceEqDiff, Nat.reduceBEq, Int.reduceNeg, Int.reduceAdd, Int.reduceLT, Int.reduceLE, Int.reduceToNat, Int.reduceEq, Int.reduceNe, Int.reduceBEq, Int.reduceBNe, Int.reduceMul, Int.reduceSub, reduceIte, reduceCtorEq, hw]
        exact fin hv
    · refine h _ ⟨_, _, rfl, rfl, fitB ?_⟩
      symm
      rw [decide_eq_true_eq]
      apply List.ext_getElem?
      intro j
      by_cases hj : j < k.length
      · rw [List.getElem?_eq_getElem hj, List.getElem?_eq_getElem (by omega)]
        have := hall j _ _ (by omega) (List.getElem?_eq_getElem hj) (List.getElem?_eq_getElem (by omega))
        rw [eq_of_beq this]
      · rw [List.getElem?_eq_none (by omega), List.getElem?_eq_none (by omega)]
theorem slices_Equal_api_Node_api_Node_pc (k l : List NodeT) (hk : k.length < 9223372036854775807) (hl : l.length < 9223372036854775807) : PureC Tryd.prog G n_slices_Equal_api_Node_api_Node [.seq 7 (k.map nodeV), .seq 7 (l.map nodeV)] (.bool (decide (k = l))) := by
  refine pc_slices_Equal_api_Node_api_Node (Runs.of fun Φ h => ?_)
  unfold c_slices_Equal_api_Node_api_Node
  simp -implicitDefEqProofs only [go_sem, Nat.reduceAdd, Nat.reduceSub, Nat.reduceMul, Nat.reduceLT, Nat.reduceLeDiff, Nat.reduceEqDiff, Nat.reduceBEq, Int.reduceNeg, Int.reduceAdd, Int.reduceLT, Int.reduceLE, Int.reduceToNat, Int.reduceEq, Int.reduceNe, Int.reduceBEq, Int.reduceBNe, Int.reduceMul, Int.reduceSub, reduceIte, reduceCtorEq, List.length_map]
  refine ⟨fun hb => ?_, fun hb => ?_⟩
  · refine h _ ⟨_, _, rfl, rfl, fitB ?_⟩
    symm
    rw [decide_eq_false_iff_not]
    rintro rfl
    simp at hb
  · have hkl : k.length = l.length := by
      have : (k.length : Int) = l.length := by simpa using hb
      omega
    refine at_loop (fun n st => ∃ i : Nat, i + n = k.length ∧ st = ⟨26, [(0, .seq 7 (k.map nodeV)), (1, .seq 7 (l.map nodeV)), (12, iv k.length), (13, iv i)], []⟩ ∧ ∀ j x y, j < i → k[j]? = some x → l[j]? = some y → (x == y) = true) k.length ⟨0, by simp, rfl, fun j x y hj => by omega⟩ ?_
    rintro I hI n st ⟨i, hi, rfl, hall⟩
    simp -implicitDefEqProofs only [go_sem, Nat.reduceAdd, Nat.reduceSub, Nat.reduceMul, Nat.reduceLT, Nat.reduceLeDiff, Nat.reduceEqDiff, Nat.reduceBEq, Int.reduceNeg, Int.reduceAdd, Int.reduceLT, Int.reduceLE, Int.reduceToNat, Int.reduceEq, Int.reduceNe, Int.reduceBEq, Int.reduceBNe, Int.reduceMul, Int.reduceSub, reduceIte, reduceCtorEq]
    refine ⟨fun hlt => ?_, fun hge => ?_⟩
    · have hlt' : i < k.length := by omega
      obtain ⟨x, hx, hm⟩ := at_some hlt'
      obtain ⟨y, hy, hm'⟩ := at_some (l := l) (i := i) (by omega)
      have hw := wrap_succ hlt' (by omega)
      have fin : (x == y) = true → again I n ⟨26, [(0, .seq 7 (k.map nodeV)), (1, .seq 7 (l.map nodeV)), (12, iv k.length), (13, iv (i + 1 : Nat))], []⟩ := fun hv => at_again (n - 1) (by omega) (hI _ _ ⟨i + 1, by omega, rfl, fun j a b hj ha hb => by
        by_cases e : j = i
        · subst e; rw [hx] at ha; cases ha; rw [hy] at hb; cases hb; exact hv
        · exact hall j a b (by omega) ha hb⟩)
      simp -implicitDefEqProofs only [go_sem, Nat.reduceAdd, Nat.reduceSub, Nat.reduceMul, Nat.reduceLT, Nat.reduceLeDiff, Nat.reduceEqDiff, Nat.reduceBEq, Int.reduceNeg, Int.reduceAdd, Int.reduceLT, Int.reduceLE, Int.reduceToNat, Int.reduceEq, Int.reduceNe, Int.reduceBEq, Int.reduceBNe, Int.reduceMul, Int.reduceSub, reduceIte, reduceCtorEq, aiaddr_map hx, aiaddr_map hy, nodeV]
      refine ⟨fun hb => ?_, fun hb => ?_⟩
      · have hv : (x == y) = false := by
          cases hxy : (x == y) with
          | false => rfl
          | true => exfalso; have := eq_of_beq hxy; subst this; simp at hb
        refine h _ ⟨_, _, rfl, rfl, fitB ?_⟩
        symm
        rw [decide_eq_false_iff_not]
        rintro rfl
        rw [hx] at hy
        cases hy
        simp at hv
      · have hv : (x == y) = true := by rw [nodeEq]; simpa using hb
        simp -implicitDefEqProofs only [go_sem, Nat.reduceAdd, Nat.reduceSub, Nat.reduceMul, Nat.reduceLT, Nat.reduceLeDiff, Nat.reduceEqDiff, Nat.reduceBEq, Int.reduceNeg, Int.reduceAdd, Int.reduceLT, Int.reduceLE, Int.reduceToNat, Int.reduceEq, Int.reduceNe, Int.reduceBEq, Int.reduceBNe, Int.reduceMul, Int.reduceSub, reduceIte, reduceCtorEq, hw]
        exact fin hv
    · refine h _ ⟨_, _, rfl, rfl, fitB ?_⟩
      symm
      rw [decide_eq_true_eq]
      apply List.ext_getElem?
      intro j
      by_cases hj : j < k.length
      · rw [List.getElem?_eq_getElem hj, List.getElem?_eq_getElem (by omega)]
        have := hall j _ _ (by omega) (List.getElem?_eq_getElem hj) (List.getElem?_eq_getElem (by omega))
        rw [eq_of_beq this]
      · rw [List.getElem?_eq_none (by omega), List.getElem?_eq_none (by omega)]
theorem slices_EqualFunc_api_Decl_api_Decl_api_Decl_api_Decl_pc (f : Nat) (caps : List AV) (hf : bodyB Tryd.prog f = true) (hcap : OkC caps) (p : DeclT → DeclT → Bool) (l : List DeclT) (k : List DeclT) (hp : ∀ x ∈ l, ∀ y ∈ k, PureC Tryd.prog G f (declV x :: declV y :: caps) (.bool (p x y))) (hl : l.length < 9223372036854775807) :
    PureC Tryd.prog G n_slices_EqualFunc_api_Decl_api_Decl_api_Decl_api_Decl [.seq 2 (l.map declV), .seq 2 (k.map declV), .fn f caps] (.bool (zipB p l k)) := by
  refine pc_slices_EqualFunc_api_Decl_api_Decl_api_Decl_api_Decl (Runs.of fun Φ h => ?_)
  unfold c_slices_EqualFunc_api_Decl_api_Decl_api_Decl_api_Decl
  by_cases hlk : l.length = k.length
  · generalize hv : zipB p l k = v at *
    (try (simp -implicitDefEqProofs only [go_sem, Nat.reduceAdd, Nat.reduceSub, Nat.reduceMul, Nat.reduceLT, Nat.reduceLeDiff, Nat.reduceEqDiff, Nat.reduceBEq, Int.reduceNeg, Int.reduceAdd, Int.reduceLT, Int.reduceLE, Int.reduceToNat, Int.reduceEq, Int.reduceNe, Int.reduceBEq, Int.reduceBNe, Int.reduceMul, Int.reduceSub, reduceIte, reduceCtorEq, List.length_map])); repeat' ((first | refine at_guard (fun hb => ?_) (fun hb => ?_) | refine ⟨fun hb => ?_, fun hb => ?_⟩ | fail) <;> (try (simp -implicitDefEqProofs only [go_sem, Nat.reduceAdd, Nat.reduceSub, Nat.reduceMul, Nat.reduceLT, Nat.reduceLeDiff, Nat.reduceEqDiff, Nat.reduceBEq, Int.reduceNeg, Int.reduceAdd, Int.reduceLT, Int.reduceLE, Int.reduceToNat, Int.reduceEq, Int.reduceNe, Int.reduceBEq, Int.reduceBNe, Int.reduceMul, Int.reduceSub, reduceIte, reduceCtorEq, List.length_map])))
    · exfalso; simp at *; omega
    refine at_loop (fun n st => ∃ i : Nat, i + n = l.length ∧ st = ⟨32, [(1, .seq 2 (k.map declV)), (2, .fn f caps), (15, .seq 2 (l.map declV)), (16, iv l.length), (17, iv i)], []⟩ ∧ zipB p (l.drop i) (k.drop i) = v) l.length ⟨0, by simp, rfl, hv⟩ ?_
    rintro I hI n st ⟨i, hi, rfl, hno⟩
    simp -implicitDefEqProofs only [go_sem, Nat.reduceAdd, Nat.reduceSub, Nat.reduceMul, Nat.reduceLT, Nat.reduceLeDiff, Nat.reduceEqDiff, Nat.reduceBEq, Int.reduceNeg, Int.reduceAdd, Int.reduceLT, Int.reduceLE, Int.reduceToNat, Int.reduceEq, Int.reduceNe, Int.reduceBEq, Int.reduceBNe, Int.reduceMul, Int.reduceSub, reduceIte, reduceCtorEq]
    refine ⟨fun hlt => ?_, fun hge => ?_⟩
    · have hlt' : i < l.length := by omega
      obtain ⟨x, hx, hm⟩ := at_some hlt'
      obtain ⟨y, hy, hm'⟩ := at_some (l := k) (i := i) (by omega)
      have hw := wrap_succ hlt' (by omega)
      have hc := hp x hm y hm'
      rw [zipB_step hx hy] at hno
      simp only [declV, intsV] at hc
      simp -implicitDefEqProofs only [go_sem, Nat.reduceAdd, Nat.reduceSub, Nat.reduceMul, Nat.reduceLT, Nat.reduceLeDiff, Nat.reduceEqDiff, Nat.reduceBEq, Int.reduceNeg, Int.reduceAdd, Int.reduceLT, Int.reduceLE, Int.reduceToNat, Int.reduceEq, Int.reduceNe, Int.reduceBEq, Int.reduceBNe, Int.reduceMul, Int.reduceSub, reduceIte, reduceCtorEq, aiaddr_map hx, aiaddr_map hy, hcap.purge, hw, declV, intsV]
      refine ⟨hf, at_call hc (by simp [viewC, flat, viewBs, viewB, viewK, viewK.go, hcap.viewBs, declV, intsV]) rfl ?_⟩
      generalize p x y = b at *
      cases b
      · simp -implicitDefEqProofs only [go_sem, Nat.reduceAdd, Nat.reduceSub, Nat.reduceMul, Nat.reduceLT, Nat.reduceLeDiff, Nat.reduceEqDiff, Nat.reduceBEq, Int.reduceNeg, Int.reduceAdd, Int.reduceLT, Int.reduceLE, Int.reduceToNat, Int.reduceEq, Int.reduceNe, Int.reduceBEq, Int.reduceBNe, Int.reduceMul, Int.reduceSub, reduceIte, reduceCtorEq, hcap.purge, hw]
        rw [Bool.false_and] at hno
        exact h _ ⟨_, _, rfl, rfl, fitB hno⟩
      · simp -implicitDefEqProofs only [go_sem, Nat.reduceAdd, Nat.reduceSub, Nat.reduceMul, Nat.reduceLT, Nat.reduceLeDiff, Nat.reduceEqDiff, Nat.reduceBEq, Int.reduceNeg, Int.reduceAdd, Int.reduceLT, Int.reduceLE, Int.reduceToNat, Int.reduceEq, Int.reduceNe, Int.reduceBEq, Int.reduceBNe, Int.reduceMul, Int.reduceSub, reduceIte, reduceCtorEq, hcap.purge, hw]
        rw [Bool.true_and] at hno
        exact at_again (n - 1) (by omega) (hI _ _ ⟨i + 1, by omega, rfl, hno⟩)
    · rw [zipB_end (by omega) (by omega)] at hno
      exact h _ ⟨_, _, rfl, rfl, fitB hno⟩
  · have hv := zipB_len (p := p) hlk
    (try (simp -implicitDefEqProofs only [go_sem, Nat.reduceAdd, Nat.reduceSub, Nat.reduceMul, Nat.reduceLT, Nat.reduceLeDiff, Nat.reduceEqDiff, Nat.reduceBEq, Int.reduceNeg, Int.reduceAdd, Int.reduceLT, Int.reduceLE, Int.reduceToNat, Int.reduceEq, Int.reduceNe, Int.reduceBEq, Int.reduceBNe, Int.reduceMul, Int.reduceSub, reduceIte, reduceCtorEq, List.length_map])); repeat' ((first | refine at_guard (fun hb => ?_) (fun hb => ?_) | refine ⟨fun hb => ?_, fun hb => ?_⟩ | fail) <;> (try (simp -implicitDefEqProofs only [go_sem, Nat.reduceAdd, Nat.reduceSub, Nat.reduceMul, Nat.reduceLT, Nat.reduceLeDiff, Nat.reduceEqDiff, Nat.reduceBEq, Int.reduceNeg, Int.reduceAdd, Int.reduceLT, Int.reduceLE, Int.reduceToNat, Int.reduceEq, Int.reduceNe, Int.reduceBEq, Int.reduceBNe, Int.reduceMul, Int.reduceSub, reduceIte, reduceCtorEq, List.length_map])))
    all_goals first | exact h _ ⟨_, _, rfl, rfl, fitB hv.symm⟩ | (exfalso; simp at *; omega)
theorem slices_EqualFunc_api_Symbol_api_Symbol_api_Symbol_api_Symbol_pc (f : Nat) (caps : List AV) (hf : bodyB Tryd.prog f = true) (hcap : OkC caps) (p : SymT → SymT → Bool) (l : List SymT) (k : List SymT) (hp : ∀ x ∈ l, ∀ y ∈ k, PureC Tryd.prog G f (symV x :: symV y :: caps) (.bool (p x y))) (hl : l.length < 9223372036854775807) :
    PureC Tryd.prog G n_slices_EqualFunc_api_Symbol_api_Symbol_api_Symbol_api_Symbol [.seq 2 (l.map symV), .seq 2 (k.map symV), .fn f caps] (.bool (zipB p l k)) := by
  refine pc_slices_EqualFunc_api_Symbol_api_Symbol_api_Symbol_api_Symbol (Runs.of fun Φ h => ?_)
  unfold c_slices_EqualFunc_api_Symbol_api_Symbol_api_Symbol_api_Symbol
  by_cases hlk : l.length = k.length
  · generalize hv : zipB p l k = v at *
    (try (simp -implicitDefEqProofs only [go_sem, Nat.reduceAdd, Nat.reduceSub, Nat.reduceMul, Nat.reduceLT, Nat.reduceLeDiff, Nat.reduceEqDiff, Nat.reduceBEq, Int.reduceNeg, Int.reduceAdd, Int.reduceLT, Int.reduceLE, Int.reduceToNat, Int.reduceEq, Int.reduceNe, Int.reduceBEq, Int.reduceBNe, Int.reduceMul, Int.reduceSub, reduceIte, reduceCtorEq, List.length_map])); repeat' ((first | refine at_guard (fun hb => ?_) (fun hb => ?_) | refine ⟨fun hb => ?_, fun hb => ?_⟩ | fail) <;> (try (simp -implicitDefEqProofs only [go_sem, Nat.reduceAdd, Nat.reduceSub, Nat.reduceMul, Nat.reduceLT, Nat.reduceLeDiff, Nat.reduceEqDiff, Nat.reduceBEq, Int.reduceNeg, Int.reduceAdd, Int.reduceLT, Int.reduceLE, Int.reduceToNat, Int.reduceEq, Int.reduceNe, Int.reduceBEq, Int.reduceBNe, Int.reduceMul, Int.reduceSub, reduceIte, reduceCtorEq, List.length_map])))
    · exfalso; simp at *; omega
    refine at_loop (fun n st => ∃ i : Nat, i + n = l.length ∧ st = ⟨32, [(1, .seq 2 (k.map symV)), (2, .fn f caps), (15, .seq 2 (l.map symV)), (16, iv l.length), (17, iv i)], []⟩ ∧ zipB p (l.drop i) (k.drop i) = v) l.length ⟨0, by simp, rfl, hv⟩ ?_
    rintro I hI n st ⟨i, hi, rfl, hno⟩
    simp -implicitDefEqProofs only [go_sem, Nat.reduceAdd, Nat.reduceSub, Nat.reduceMul, Nat.reduceLT, Nat.reduceLeDiff, Nat.reduceEqDiff, Nat.reduceBEq, Int.reduceNeg, Int.reduceAdd, Int.reduceLT, Int.reduceLE, Int.reduceToNat, Int.reduceEq, Int.reduceNe, Int.reduceBEq, Int.reduceBNe, Int.reduceMul, Int.reduceSub, reduceIte, reduceCtorEq]
    refine ⟨fun hlt => ?_, fun hge => ?_⟩
    · have hlt' : i < l.length := by omega
      obtain ⟨x, hx, hm⟩ := at_some hlt'
      obtain ⟨y, hy, hm'⟩ := at_some (l := k) (i := i) (by omega)
      have hw := wrap_succ hlt' (by omega)
      have hc := hp x hm y hm'
      rw [zipB_step hx hy] at hno
      simp only [symV, argsV] at hc
      simp -implicitDefEqProofs only [go_sem, Nat.reduceAdd, Nat.reduceSub, Nat.reduceMul, Nat.reduceLT, Nat.reduceLeDiff, Nat.reduceEqDiff, Nat.reduceBEq, Int.reduceNeg, Int.reduceAdd, Int.reduceLT, Int.reduceLE, Int.reduceToNat, Int.reduceEq, Int.reduceNe, Int.reduceBEq, Int.reduceBNe, Int.reduceMul, Int.reduceSub, reduceIte, reduceCtorEq, aiaddr_map hx, aiaddr_map hy, hcap.purge, hw, symV, argsV]
      refine ⟨hf, at_call hc (by simp [viewC, flat, viewBs, viewB, viewK, viewK.go, hcap.viewBs, symV, argsV]) rfl ?_⟩
      generalize p x y = b at *
      cases b
      · simp -implicitDefEqProofs only [go_sem, Nat.reduceAdd, Nat.reduceSub, Nat.reduceMul, Nat.reduceLT, Nat.reduceLeDiff, Nat.reduceEqDiff, Nat.reduceBEq, Int.reduceNeg, Int.reduceAdd, Int.reduceLT, Int.reduceLE, Int.reduceToNat, Int.reduceEq, Int.reduceNe, Int.reduceBEq, Int.reduceBNe, Int.reduceMul, Int.reduceSub, reduceIte, reduceCtorEq, hcap.purge, hw]
        rw [Bool.false_and] at hno
        exact h _ ⟨_, _, rfl, rfl, fitB hno⟩
      · simp -implicitDefEqProofs only [go_sem, Nat.reduceAdd, Nat.reduceSub, Nat.reduceMul, Nat.reduceLT, Nat.reduceLeDiff, Nat.reduceEqDiff, Nat.reduceBEq, Int.reduceNeg, Int.reduceAdd, Int.reduceLT, Int.reduceLE, Int.reduceToNat, Int.reduceEq, Int.reduceNe, Int.reduceBEq, Int.reduceBNe, Int.reduceMul, Int.reduceSub, reduceIte, reduceCtorEq, hcap.purge, hw]
        rw [Bool.true_and] at hno
        exact at_again (n - 1) (by omega) (hI _ _ ⟨i + 1, by omega, rfl, hno⟩)
    · rw [zipB_end (by omega) (by omega)] at hno
      exact h _ ⟨_, _, rfl, rfl, fitB hno⟩
  · have hv := zipB_len (p := p) hlk
    (try (simp -implicitDefEqProofs only [go_sem, Nat.reduceAdd, Nat.reduceSub, Nat.reduceMul, Nat.reduceLT, Nat.reduceLeDiff, Nat.reduceEqDiff, Nat.reduceBEq, Int.reduceNeg, Int.reduceAdd, Int.reduceLT, Int.reduceLE, Int.reduceToNat, Int.reduceEq, Int.reduceNe, Int.reduceBEq, Int.reduceBNe, Int.reduceMul, Int.reduceSub, reduceIte, reduceCtorEq, List.length_map])); repeat' ((first | refine at_guard (fun hb => ?_) (fun hb => ?_) | refine ⟨fun hb => ?_, fun hb => ?_⟩ | fail) <;> (try (simp -implicitDefEqProofs only [go_sem, Nat.reduceAdd, Nat.reduceSub, Nat.reduceMul, Nat.reduceLT, Nat.reduceLeDiff, Nat.reduceEqDiff, Nat.reduceBEq, Int.reduceNeg, Int.reduceAdd, Int.reduceLT, Int.reduceLE, Int.reduceToNat, Int.reduceEq, Int.reduceNe, Int.reduceBEq, Int.reduceBNe, Int.reduceMul, Int.reduceSub, reduceIte, reduceCtorEq, List.length_map])))
    all_goals first | exact h _ ⟨_, _, rfl, rfl, fitB hv.symm⟩ | (exfalso; simp at *; omega)
theorem slices_EqualFunc_api_Trans_api_Trans_api_Trans_api_Trans_pc (f : Nat) (caps : List AV) (hf : bodyB Tryd.prog f = true) (hcap : OkC caps) (p : TransT → TransT → Bool) (l : List TransT) (k : List TransT) (hp : ∀ x ∈ l, ∀ y ∈ k, PureC Tryd.prog G f (transV x :: transV y :: caps) (.bool (p x y))) (hl : l.length < 9223372036854775807) :
    PureC Tryd.prog G n_slices_EqualFunc_api_Trans_api_Trans_api_Trans_api_Trans [.seq 5 (l.map transV), .seq 5 (k.map transV), .fn f caps] (.bool (zipB p l k)) := by
  refine pc_slices_EqualFunc_api_Trans_api_Trans_api_Trans_api_Trans (Runs.of fun Φ h => ?_)
  unfold c_slices_EqualFunc_api_Trans_api_Trans_api_Trans_api_Trans
  by_cases hlk : l.length = k.length
  · generalize hv : zipB p l k = v at *
    (try (simp -implicitDefEqProofs only [go_sem, Nat.reduceAdd, Nat.reduceSub, Nat.reduceMul, Nat.reduceLT, Nat.reduceLeDiff, Nat.reduceEqDiff, Nat.reduceBEq, Int.reduceNeg, Int.reduceAdd, Int.reduceLT, Int.reduceLE, Int.reduceToNat, Int.reduceEq, Int.reduceNe, Int.reduceBEq, Int.reduceBNe, Int.reduceMul, Int.reduceSub, reduceIte, reduceCtorEq, List.length_map])); repeat' ((first | refine at_guard (fun hb => ?_) (fun hb => ?_) | refine ⟨fun hb => ?_, fun hb => ?_⟩ | fail) <;> (try (simp -implicitDefEqProofs only [go_sem, Nat.reduceAdd, Nat.reduceSub, Nat.reduceMul, Nat.reduceLT, Nat.reduceLeDiff, Nat.reduceEqDiff, Nat.reduceBEq, Int.reduceNeg, Int.reduceAdd, Int.reduceLT, Int.reduceLE, Int.reduceToNat, Int.reduceEq, Int.reduceNe, Int.reduceBEq, Int.reduceBNe, Int.reduceMul, Int.reduceSub, reduceIte, reduceCtorEq, List.length_map])))
    · exfalso; simp at *; omega
    refine at_loop (fun n st => ∃ i : Nat, i + n = l.length ∧ st = ⟨32, [(1, .seq 5 (k.map transV)), (2, .fn f caps), (15, .seq 5 (l.map transV)), (16, iv l.length), (17, iv i)], []⟩ ∧ zipB p (l.drop i) (k.drop i) = v) l.length ⟨0, by simp, rfl, hv⟩ ?_
    rintro I hI n st ⟨i, hi, rfl, hno⟩
    simp -implicitDefEqProofs only [go_sem, Nat.reduceAdd, Nat.reduceSub, Nat.reduceMul, Nat.reduceLT, Nat.reduceLeDiff, Nat.reduceEqDiff, Nat.reduceBEq, Int.reduceNeg, Int.reduceAdd, Int.reduceLT, Int.reduceLE, Int.reduceToNat, Int.reduceEq, Int.reduceNe, Int.reduceBEq, Int.reduceBNe, Int.reduceMul, Int.reduceSub, reduceIte, reduceCtorEq]
    refine ⟨fun hlt => ?_, fun hge => ?_⟩
    · have hlt' : i < l.length := by omega
      obtain ⟨x, hx, hm⟩ := at_some hlt'
      obtain ⟨y, hy, hm'⟩ := at_some (l := k) (i := i) (by omega)
      have hw := wrap_succ hlt' (by omega)
      have hc := hp x hm y hm'
      rw [zipB_step hx hy] at hno
      simp only [transV, setsV] at hc
      simp -implicitDefEqProofs only [go_sem, Nat.reduceAdd, Nat.reduceSub, Nat.reduceMul, Nat.reduceLT, Nat.reduceLeDiff, Nat.reduceEqDiff, Nat.reduceBEq, Int.reduceNeg, Int.reduceAdd, Int.reduceLT, Int.reduceLE, Int.reduceToNat, Int.reduceEq, Int.reduceNe, Int.reduceBEq, Int.reduceBNe, Int.reduceMul, Int.reduceSub, reduceIte, reduceCtorEq, aiaddr_map hx, aiaddr_map hy, hcap.purge, hw, transV, setsV]
      refine ⟨hf, at_call hc (by simp [viewC, flat, viewBs, viewB, viewK, viewK.go, hcap.viewBs, transV, setsV]) rfl ?_⟩
      generalize p x y = b at *
      cases b
      · simp -implicitDefEqProofs only [go_sem, Nat.reduceAdd, Nat.reduceSub, Nat.reduceMul, Nat.reduceLT, Nat.reduceLeDiff, Nat.reduceEqDiff, Nat.reduceBEq, Int.reduceNeg, Int.reduceAdd, Int.reduceLT, Int.reduceLE, Int.reduceToNat, Int.reduceEq, Int.reduceNe, Int.reduceBEq, Int.reduceBNe, Int.reduceMul, Int.reduceSub, reduceIte, reduceCtorEq, hcap.purge, hw]
        rw [Bool.false_and] at hno
        exact h _ ⟨_, _, rfl, rfl, fitB hno⟩
      · simp -implicitDefEqProofs only [go_sem, Nat.reduceAdd, Nat.reduceSub, Nat.reduceMul, Nat.reduceLT, Nat.reduceLeDiff, Nat.reduceEqDiff, Nat.reduceBEq, Int.reduceNeg, Int.reduceAdd, Int.reduceLT, Int.reduceLE, Int.reduceToNat, Int.reduceEq, Int.reduceNe, Int.reduceBEq, Int.reduceBNe, Int.reduceMul, Int.reduceSub, reduceIte, reduceCtorEq, hcap.purge, hw]
        rw [Bool.true_and] at hno
        exact at_again (n - 1) (by omega) (hI _ _ ⟨i + 1, by omega, rfl, hno⟩)
    · rw [zipB_end (by omega) (by omega)] at hno
      exact h _ ⟨_, _, rfl, rfl, fitB hno⟩
  · have hv := zipB_len (p := p) hlk
    (try (simp -implicitDefEqProofs only [go_sem, Nat.reduceAdd, Nat.reduceSub, Nat.reduceMul, Nat.reduceLT, Nat.reduceLeDiff, Nat.reduceEqDiff, Nat.reduceBEq, Int.reduceNeg, Int.reduceAdd, Int.reduceLT, Int.reduceLE, Int.reduceToNat, Int.reduceEq, Int.reduceNe, Int.reduceBEq, Int.reduceBNe, Int.reduceMul, Int.reduceSub, reduceIte, reduceCtorEq, List.length_map])); repeat' ((first | refine at_guard (fun hb => ?_) (fun hb => ?_) | refine ⟨fun hb => ?_, fun hb => ?_⟩ | fail) <;> (try (simp -implicitDefEqProofs only [go_sem, Nat.reduceAdd, Nat.reduceSub, Nat.reduceMul, Nat.reduceLT, Nat.reduceLeDiff, Nat.reduceEqDiff, Nat.reduceBEq, Int.reduceNeg, Int.reduceAdd, Int.reduceLT, Int.reduceLE, Int.reduceToNat, Int.reduceEq, Int.reduceNe, Int.reduceBEq, Int.reduceBNe, Int.reduceMul, Int.reduceSub, reduceIte, reduceCtorEq, List.length_map])))
    all_goals first | exact h _ ⟨_, _, rfl, rfl, fitB hv.symm⟩ | (exfalso; simp at *; omega)

theorem zipB_eq {α : Type} [DecidableEq α] : ∀ (l k : List α), zipB (fun x y => decide (x = y)) l k = decide (l = k)
  | [], [] => by simp [zipB]
  | [], _ :: _ => by simp [zipB]
  | _ :: _, [] => by simp [zipB]
  | x :: r, y :: s => by rw [zipB, zipB_eq r s, Bool.eq_iff_iff]; simp
theorem schema_Same_1_pc (a b : DeclT) (ha : a.types.length < 9223372036854775807) (hb : b.types.length < 9223372036854775807) : PureC Tryd.prog G n_schema_Same_1 [declV a, declV b] (.bool (decide (a = b))) := by
  obtain ⟨n, l⟩ := a
  obtain ⟨m, k⟩ := b
  have hc := slices_Equal_int_int_pc (G := G) l k ha hb
  refine pc_schema_Same_1 (Runs.of fun Φ h => ?_)
  unfold c_schema_Same_1
  (try (simp -implicitDefEqProofs only [go_sem, Nat.reduceAdd, Nat.reduceSub, Nat.reduceMul, Nat.reduceLT, Nat.reduceLeDiff, Nat.reduceEqDiff, Nat.reduceBEq, Int.reduceNeg, Int.reduceAdd, Int.reduceLT, Int.reduceLE, Int.reduceToNat, Int.reduceEq, Int.reduceNe, Int.reduceBEq, Int.reduceBNe, Int.reduceMul, Int.reduceSub, reduceIte, reduceCtorEq, declV, intsV])); repeat' ((first | refine at_guard (fun hb => ?_) (fun hb => ?_) | refine ⟨fun hb => ?_, fun hb => ?_⟩ | refine at_call (hc) rfl rfl ?_ | fail) <;> (try (simp -implicitDefEqProofs only [go_sem, Nat.reduceAdd, Nat.reduceSub, Nat.reduceMul, Nat.reduceLT, Nat.reduceLeDiff, Nat.reduceEqDiff, Nat.reduceBEq, Int.reduceNeg, Int.reduceAdd, Int.reduceLT, Int.reduceLE, Int.reduceToNat, Int.reduceEq, Int.reduceNe, Int.reduceBEq, Int.reduceBNe, Int.reduceMul, Int.reduceSub, reduceIte, reduceCtorEq, declV, intsV])))
  all_goals
    refine h _ ⟨_, _, rfl, rfl, fitB ?_⟩
    simp_all
theorem schema_Same_pc (a b : List DeclT) (ha : ∀ d ∈ a, d.types.length < 9223372036854775807) (hb : ∀ d ∈ b, d.types.length < 9223372036854775807) (hl : a.length < 9223372036854775807) : PureC Tryd.prog G n_schema_Same [declsV a, declsV b] (.bool (decide (a = b))) := by
  have hc := slices_EqualFunc_api_Decl_api_Decl_api_Decl_api_Decl_pc (G := G) n_schema_Same_1 [] (by kernel_rfl) okC_nil (fun x y => decide (x = y)) a b (fun x hx y hy => schema_Same_1_pc x y (ha x hx) (hb y hy)) hl
  rw [zipB_eq] at hc
  refine pc_schema_Same (Runs.of fun Φ h => ?_)
  unfold c_schema_Same
  (try (simp -implicitDefEqProofs only [go_sem, Nat.reduceAdd, Nat.reduceSub, Nat.reduceMul, Nat.reduceLT, Nat.reduceLeDiff, Nat.reduceEqDiff, Nat.reduceBEq, Int.reduceNeg, Int.reduceAdd, Int.reduceLT, Int.reduceLE, Int.reduceToNat, Int.reduceEq, Int.reduceNe, Int.reduceBEq, Int.reduceBNe, Int.reduceMul, Int.reduceSub, reduceIte, reduceCtorEq, declsV])); repeat' ((first | refine at_guard (fun hb => ?_) (fun hb => ?_) | refine ⟨fun hb => ?_, fun hb => ?_⟩ | refine at_call (hc) rfl rfl ?_ | fail) <;> (try (simp -implicitDefEqProofs only [go_sem, Nat.reduceAdd, Nat.reduceSub, Nat.reduceMul, Nat.reduceLT, Nat.reduceLeDiff, Nat.reduceEqDiff, Nat.reduceBEq, Int.reduceNeg, Int.reduceAdd, Int.reduceLT, Int.reduceLE, Int.reduceToNat, Int.reduceEq, Int.reduceNe, Int.reduceBEq, Int.reduceBNe, Int.reduceMul, Int.reduceSub, reduceIte, reduceCtorEq, declsV])))
  all_goals (refine h _ ⟨_, _, rfl, rfl, fit_eq ?_⟩; clear h; first | rfl | simp_all)
theorem core_Same_1_pc (a b : TransT) (ha : a.sets.length < 9223372036854775807) (hb : b.sets.length < 9223372036854775807) : PureC Tryd.prog G n_core_Same_1 [transV a, transV b] (.bool (decide (a = b))) := by
  obtain ⟨a1, a2, a3, a4, l⟩ := a
  obtain ⟨b1, b2, b3, b4, k⟩ := b
  have hc := slices_Equal_api_Set_api_Set_pc (G := G) l k ha hb
  refine pc_core_Same_1 (Runs.of fun Φ h => ?_)
  unfold c_core_Same_1
  (try (simp -implicitDefEqProofs only [go_sem, Nat.reduceAdd, Nat.reduceSub, Nat.reduceMul, Nat.reduceLT, Nat.reduceLeDiff, Nat.reduceEqDiff, Nat.reduceBEq, Int.reduceNeg, Int.reduceAdd, Int.reduceLT, Int.reduceLE, Int.reduceToNat, Int.reduceEq, Int.reduceNe, Int.reduceBEq, Int.reduceBNe, Int.reduceMul, Int.reduceSub, reduceIte, reduceCtorEq, transV, setsV])); repeat' ((first | refine at_guard (fun hb => ?_) (fun hb => ?_) | refine ⟨fun hb => ?_, fun hb => ?_⟩ | refine at_call (hc) rfl rfl ?_ | fail) <;> (try (simp -implicitDefEqProofs only [go_sem, Nat.reduceAdd, Nat.reduceSub, Nat.reduceMul, Nat.reduceLT, Nat.reduceLeDiff, Nat.reduceEqDiff, Nat.reduceBEq, Int.reduceNeg, Int.reduceAdd, Int.reduceLT, Int.reduceLE, Int.reduceToNat, Int.reduceEq, Int.reduceNe, Int.reduceBEq, Int.reduceBNe, Int.reduceMul, Int.reduceSub, reduceIte, reduceCtorEq, transV, setsV])))
  all_goals
    refine h _ ⟨_, _, rfl, rfl, fitB ?_⟩
    clear h hc
    simp_all
theorem core_Same_pc (a b : QeaT) (ha : a.Few) (hb : b.Few) : PureC Tryd.prog G n_core_Same [qeaV a, qeaV b] (.bool (decide (a = b))) := by
  have l1 := ha.decls
  have l2 := ha.quants
  have l3 := ha.frees
  have l4 := ha.states
  have l5 := ha.symbols
  have l6 := ha.nodes
  have l7 := ha.trans
  have m2 := hb.quants
  have m3 := hb.frees
  have m4 := hb.states
  have m6 := hb.nodes
  have h1 := schema_Same_pc (G := G) a.decls b.decls (fun d hd => by have := ha.types d hd; omega) (fun d hd => by have := hb.types d hd; omega) (by omega)
  have h2 := slices_Equal_api_Quant_api_Quant_pc (G := G) a.quants b.quants (by omega) (by omega)
  have h3 := slices_Equal_api_Free_api_Free_pc (G := G) a.frees b.frees (by omega) (by omega)
  have h4 := slices_Equal_api_State_api_State_pc (G := G) a.states b.states (by omega) (by omega)
  have h5 := slices_EqualFunc_api_Symbol_api_Symbol_api_Symbol_api_Symbol_pc (G := G) n_core_sameSymbol [] (by kernel_rfl) okC_nil (fun x y => decide (x = y)) a.symbols b.symbols (fun x hx y hy => core_sameSymbol_pc x y (by have := ha.args x hx; omega) (by have := hb.args y hy; omega)) (by omega)
  have h6 := slices_Equal_api_Node_api_Node_pc (G := G) a.nodes b.nodes (by omega) (by omega)
  have h7 := slices_EqualFunc_api_Trans_api_Trans_api_Trans_api_Trans_pc (G := G) n_core_Same_1 [] (by kernel_rfl) okC_nil (fun x y => decide (x = y)) a.trans b.trans (fun x hx y hy => core_Same_1_pc x y (by have := ha.sets x hx; omega) (by have := hb.sets y hy; omega)) (by omega)
  rw [zipB_eq] at h5 h7
  obtain ⟨a1, a2, a3, a4, a5, a6, a7, a8, a9⟩ := a
  obtain ⟨b1, b2, b3, b4, b5, b6, b7, b8, b9⟩ := b
  dsimp only at *
  have key : decide ((⟨a1, a2, a3, a4, a5, a6, a7, a8, a9⟩ : QeaT) = ⟨b1, b2, b3, b4, b5, b6, b7, b8, b9⟩) = (a1 == b1 && (decide (a2 = b2) && (decide (a3 = b3) && (decide (a4 = b4) && (decide (a5 = b5) && (a6 == b6 && (decide (a7 = b7) && (decide (a8 = b8) && decide (a9 = b9))))))))) := by
    rw [Bool.eq_iff_iff]
    simp
  refine pc_core_Same (Runs.of fun Φ h => ?_)
  unfold c_core_Same
  rw [key] at h
  clear key
  simp only [qeaV, declsV, quantsV, freesV, statesV, symsV, nodesV, transsV] at h1
  generalize decide (a2 = b2) = c2 at *
  generalize decide (a3 = b3) = c3 at *
  generalize decide (a4 = b4) = c4 at *
  generalize decide (a5 = b5) = c5 at *
  generalize decide (a7 = b7) = c7 at *
  generalize decide (a8 = b8) = c8 at *
  generalize decide (a9 = b9) = c9 at *
  clear l1 l2 l3 l4 l5 l6 l7 m2 m3 m4 m6 ha hb
  (try (simp -implicitDefEqProofs only [go_sem, Nat.reduceAdd, Nat.reduceSub, Nat.reduceMul, Nat.reduceLT, Nat.reduceLeDiff, Nat.reduceEqDiff, Nat.reduceBEq, Int.reduceNeg, Int.reduceAdd, Int.reduceLT, Int.reduceLE, Int.reduceToNat, Int.reduceEq, Int.reduceNe, Int.reduceBEq, Int.reduceBNe, Int.reduceMul, Int.reduceSub, reduceIte, reduceCtorEq, qeaV, declsV, quantsV, freesV, statesV, symsV, nodesV, transsV])); repeat' ((first | refine at_guard (fun hb => ?_) (fun hb => ?_) | refine ⟨fun hb => ?_, fun hb => ?_⟩ | refine at_call (h1) rfl rfl ?_ | refine at_call (h2) rfl rfl ?_ | refine at_call (h3) rfl rfl ?_ | refine at_call (h4) rfl rfl ?_ | refine at_call (h5) rfl rfl ?_ | refine at_call (h6) rfl rfl ?_ | refine at_call (h7) rfl rfl ?_ | fail) <;> (try (simp -implicitDefEqProofs only [go_sem, Nat.reduceAdd, Nat.reduceSub, Nat.reduceMul, Nat.reduceLT, Nat.reduceLeDiff, Nat.reduceEqDiff, Nat.reduceBEq, Int.reduceNeg, Int.reduceAdd, Int.reduceLT, Int.reduceLE, Int.reduceToNat, Int.reduceEq, Int.reduceNe, Int.reduceBEq, Int.reduceBNe, Int.reduceMul, Int.reduceSub, reduceIte, reduceCtorEq, qeaV, declsV, quantsV, freesV, statesV, symsV, nodesV, transsV])))
  all_goals
    refine h _ ⟨_, _, rfl, rfl, fitB ?_⟩
    clear h h1 h2 h3 h4 h5 h6 h7
    simp_all
end Go.Proofs.YtdfdiglnpekcpaaDoor.Ab
