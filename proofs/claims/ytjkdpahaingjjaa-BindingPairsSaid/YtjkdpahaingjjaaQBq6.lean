/-
  proctorlaw05.small; the law BindingPairs. No claim is proved here.
-/
import Derived.Test.YtjkdpahaingjjaaQBq5
namespace Go.Proofs.Ytjkdpahaingjjaa.Ab
open Go Go.RowKit
set_option linter.unusedSimpArgs false
set_option maxHeartbeats 4000000
set_option maxRecDepth 100000
variable {G : Nat → Option AV}
def smallB (b : List SlotT) : Bool := decide (b.length ≤ 8) && (b.all (fun s => decide (s.value.str.length ≤ 1000)) && bindOk b)
theorem small_of {b : List SlotT} (h : smallB b = true) : b.length ≤ 8 ∧ (∀ s ∈ b, s.value.str.length ≤ 1000) ∧ Can b := by
  simp only [smallB, Bool.and_eq_true, decide_eq_true_eq, List.all_eq_true] at h
  exact ⟨h.1, h.2.1, can_of h.2.2⟩
theorem law05_small_pc (b : List SlotT) : PureC Try.prog G n_proctorlaw05_small [slotsV b] (.bool (smallB b)) := by
  refine pc_proctorlaw05_small (Runs.of fun Φ h => ?_)
  unfold c_proctorlaw05_small
  have fin : ∀ β heap, β = smallB b → Φ ⟨23, [(2, .bool β)], heap⟩ := fun β heap e => h _ ⟨_, _, rfl, rfl, fitB e⟩
  clear h
  unfold smallB at fin
  by_cases hl : b.length ≤ 8
  · have hr := ref05_Right_pc (G := G) b (by omega)
    have e0 : decide ((8 : Int) < (b.length : Int)) = false := by simp; omega
    rw [decide_eq_true hl, Bool.true_and] at fin
    simp -implicitDefEqProofs only [go_sem, Nat.reduceAdd, Nat.reduceSub, Nat.reduceMul, Nat.reduceLT, Nat.reduceLeDiff, Nat.reduceEqDiff, Nat.reduceBEq, Int.reduceNeg, Int.reduceAdd, Int.reduceLT, Int.reduceLE, Int.reduceToNat, Int.reduceEq, Int.reduceNe, Int.reduceBEq, Int.reduceBNe, Int.reduceMul, Int.reduceSub, reduceIte, reduceCtorEq, slotsV, List.length_map, e0]
    refine at_loop (fun n st => ∃ i : Nat, i + n = b.length ∧ st = ⟨23, [(0, .seq 5 (b.map slotV)), (3, iv i)], []⟩ ∧ ∀ j x, j < i → b[j]? = some x → decide (x.value.str.length ≤ 1000) = true) b.length ⟨0, by simp, rfl, fun j x hj => by omega⟩ ?_
    rintro I hI n st ⟨i, hi, rfl, hno⟩
    simp -implicitDefEqProofs only [go_sem, Nat.reduceAdd, Nat.reduceSub, Nat.reduceMul, Nat.reduceLT, Nat.reduceLeDiff, Nat.reduceEqDiff, Nat.reduceBEq, Int.reduceNeg, Int.reduceAdd, Int.reduceLT, Int.reduceLE, Int.reduceToNat, Int.reduceEq, Int.reduceNe, Int.reduceBEq, Int.reduceBNe, Int.reduceMul, Int.reduceSub, reduceIte, reduceCtorEq, List.length_map]
    refine ⟨fun hlt => ?_, fun hge => ?_⟩
    · have hlt' : i < b.length := by omega
      obtain ⟨x, hx, hxm⟩ := at_some hlt'
      have hw := wrap_succ hlt' (by omega)
      have hnext : decide (x.value.str.length ≤ 1000) = true → again I n ⟨23, [(0, .seq 5 (b.map slotV)), (3, iv (i + 1 : Nat))], []⟩ := fun hv => at_again (n - 1) (by omega) (hI _ _ ⟨i + 1, by omega, rfl, fun j y hj hy => by
        by_cases e : j = i
        · subst e; rw [hx] at hy; cases hy; exact hv
        · exact hno j y (by omega) hy⟩)
      have hbad : decide (x.value.str.length ≤ 1000) = false → false = (b.all (fun s => decide (s.value.str.length ≤ 1000)) && bindOk b) := fun hv => by
        symm
        rw [Bool.and_eq_false_iff]
        left
        rw [List.all_eq_false]
        exact ⟨x, hxm, by rw [hv]; simp⟩
      obtain ⟨v1, ⟨k1, n1, s1, t1⟩⟩ := x
      simp only at hnext hbad
      by_cases hs : s1.length ≤ 1000
      · have e1 : decide ((1000 : Int) < (s1.length : Int)) = false := by simp; omega
        have := hnext (by simpa using hs)
        clear hnext hbad
        (try (simp -implicitDefEqProofs only [go_sem, Nat.reduceAdd, Nat.reduceSub, Nat.reduceMul, Nat.reduceLT, Nat.reduceLeDiff, Nat.reduceEqDiff, Nat.reduceBEq, Int.reduceNeg, Int.reduceAdd, Int.reduceLT, Int.reduceLE, Int.reduceToNat, Int.reduceEq, Int.reduceNe, Int.reduceBEq, Int.reduceBNe, Int.reduceMul, Int.reduceSub, reduceIte, reduceCtorEq, aiaddr_map hx, slotV, valV, hw, e1])); repeat' ((first | refine at_guard (fun hb => ?_) (fun hb => ?_) | refine ⟨fun hb => ?_, fun hb => ?_⟩ | fail) <;> (try (simp -implicitDefEqProofs only [go_sem, Nat.reduceAdd, Nat.reduceSub, Nat.reduceMul, Nat.reduceLT, Nat.reduceLeDiff, Nat.reduceEqDiff, Nat.reduceBEq, Int.reduceNeg, Int.reduceAdd, Int.reduceLT, Int.reduceLE, Int.reduceToNat, Int.reduceEq, Int.reduceNe, Int.reduceBEq, Int.reduceBNe, Int.reduceMul, Int.reduceSub, reduceIte, reduceCtorEq, aiaddr_map hx, slotV, valV, hw, e1])))
        exact this
      · have e1 : decide ((1000 : Int) < (s1.length : Int)) = true := by simp; omega
        have := hbad (by simpa using hs)
        clear hnext hbad
        (try (simp -implicitDefEqProofs only [go_sem, Nat.reduceAdd, Nat.reduceSub, Nat.reduceMul, Nat.reduceLT, Nat.reduceLeDiff, Nat.reduceEqDiff, Nat.reduceBEq, Int.reduceNeg, Int.reduceAdd, Int.reduceLT, Int.reduceLE, Int.reduceToNat, Int.reduceEq, Int.reduceNe, Int.reduceBEq, Int.reduceBNe, Int.reduceMul, Int.reduceSub, reduceIte, reduceCtorEq, aiaddr_map hx, slotV, valV, hw, e1])); repeat' ((first | refine at_guard (fun hb => ?_) (fun hb => ?_) | refine ⟨fun hb => ?_, fun hb => ?_⟩ | fail) <;> (try (simp -implicitDefEqProofs only [go_sem, Nat.reduceAdd, Nat.reduceSub, Nat.reduceMul, Nat.reduceLT, Nat.reduceLeDiff, Nat.reduceEqDiff, Nat.reduceBEq, Int.reduceNeg, Int.reduceAdd, Int.reduceLT, Int.reduceLE, Int.reduceToNat, Int.reduceEq, Int.reduceNe, Int.reduceBEq, Int.reduceBNe, Int.reduceMul, Int.reduceSub, reduceIte, reduceCtorEq, aiaddr_map hx, slotV, valV, hw, e1])))
        exact fin _ _ this
    · have hall : b.all (fun s => decide (s.value.str.length ≤ 1000)) = true := by
        rw [List.all_eq_true]
        intro x hx
        obtain ⟨j, hj⟩ := List.getElem?_of_mem hx
        exact hno j x (by have := (List.getElem?_eq_some_iff.1 hj).1; omega) hj
      rw [hall, Bool.true_and] at fin
      simp only [slotsV] at hr
      (try (simp -implicitDefEqProofs only [go_sem, Nat.reduceAdd, Nat.reduceSub, Nat.reduceMul, Nat.reduceLT, Nat.reduceLeDiff, Nat.reduceEqDiff, Nat.reduceBEq, Int.reduceNeg, Int.reduceAdd, Int.reduceLT, Int.reduceLE, Int.reduceToNat, Int.reduceEq, Int.reduceNe, Int.reduceBEq, Int.reduceBNe, Int.reduceMul, Int.reduceSub, reduceIte, reduceCtorEq])); repeat' ((first | refine at_guard (fun hb => ?_) (fun hb => ?_) | refine ⟨fun hb => ?_, fun hb => ?_⟩ | refine at_call (hr) rfl rfl ?_ | fail) <;> (try (simp -implicitDefEqProofs only [go_sem, Nat.reduceAdd, Nat.reduceSub, Nat.reduceMul, Nat.reduceLT, Nat.reduceLeDiff, Nat.reduceEqDiff, Nat.reduceBEq, Int.reduceNeg, Int.reduceAdd, Int.reduceLT, Int.reduceLE, Int.reduceToNat, Int.reduceEq, Int.reduceNe, Int.reduceBEq, Int.reduceBNe, Int.reduceMul, Int.reduceSub, reduceIte, reduceCtorEq])))
      exact fin _ _ rfl
  · have e0 : decide ((8 : Int) < (b.length : Int)) = true := by simp; omega
    rw [decide_eq_false hl, Bool.false_and] at fin
    (try (simp -implicitDefEqProofs only [go_sem, Nat.reduceAdd, Nat.reduceSub, Nat.reduceMul, Nat.reduceLT, Nat.reduceLeDiff, Nat.reduceEqDiff, Nat.reduceBEq, Int.reduceNeg, Int.reduceAdd, Int.reduceLT, Int.reduceLE, Int.reduceToNat, Int.reduceEq, Int.reduceNe, Int.reduceBEq, Int.reduceBNe, Int.reduceMul, Int.reduceSub, reduceIte, reduceCtorEq, slotsV, List.length_map, e0])); repeat' ((first | refine at_guard (fun hb => ?_) (fun hb => ?_) | refine ⟨fun hb => ?_, fun hb => ?_⟩ | fail) <;> (try (simp -implicitDefEqProofs only [go_sem, Nat.reduceAdd, Nat.reduceSub, Nat.reduceMul, Nat.reduceLT, Nat.reduceLeDiff, Nat.reduceEqDiff, Nat.reduceBEq, Int.reduceNeg, Int.reduceAdd, Int.reduceLT, Int.reduceLE, Int.reduceToNat, Int.reduceEq, Int.reduceNe, Int.reduceBEq, Int.reduceBNe, Int.reduceMul, Int.reduceSub, reduceIte, reduceCtorEq, slotsV, List.length_map, e0])))
    exact fin _ _ rfl
theorem key_of {b : List SlotT} (h : smallB b = true) (h64 : ∀ s ∈ b, i64 s.value.int) : ∀ s ∈ b, s.Key := fun s hs => by
  obtain ⟨_, h2, h3⟩ := small_of h
  obtain ⟨g1, g2, g3⟩ := h3.good s hs
  exact ⟨g1, g2, g3, h64 s hs, h2 s hs⟩
theorem law05_BindingPairs_pc (a b : List SlotT) (ha64 : ∀ s ∈ a, i64 s.value.int) (hb64 : ∀ s ∈ b, i64 s.value.int) : PureC Try.prog G n_proctorlaw05_BindingPairs [slotsV a, slotsV b] (.bool true) := by
  have s1 := law05_small_pc (G := G) a
  have s2 := law05_small_pc (G := G) b
  have aw := law05_awake_pc (G := G)
  refine pc_proctorlaw05_BindingPairs (Runs.of fun Φ h => ?_)
  unfold c_proctorlaw05_BindingPairs
  have fin : ∀ heap, Φ ⟨98, [(4, .bool true)], heap⟩ := fun heap => h _ ⟨_, _, rfl, rfl, .refl _⟩
  clear h
  cases e1 : smallB a with
  | false =>
    rw [e1] at s1
    simp only [slotsV] at s1 s2
    generalize smallB b = z at *
    (try (simp -implicitDefEqProofs only [go_sem, Nat.reduceAdd, Nat.reduceSub, Nat.reduceMul, Nat.reduceLT, Nat.reduceLeDiff, Nat.reduceEqDiff, Nat.reduceBEq, Int.reduceNeg, Int.reduceAdd, Int.reduceLT, Int.reduceLE, Int.reduceToNat, Int.reduceEq, Int.reduceNe, Int.reduceBEq, Int.reduceBNe, Int.reduceMul, Int.reduceSub, reduceIte, reduceCtorEq, slotsV])); repeat' ((first | refine at_guard (fun hb => ?_) (fun hb => ?_) | refine ⟨fun hb => ?_, fun hb => ?_⟩ | refine at_call (s1) rfl rfl ?_ | refine at_call (s2) rfl rfl ?_ | refine at_call (aw) rfl rfl ?_ | fail) <;> (try (simp -implicitDefEqProofs only [go_sem, Nat.reduceAdd, Nat.reduceSub, Nat.reduceMul, Nat.reduceLT, Nat.reduceLeDiff, Nat.reduceEqDiff, Nat.reduceBEq, Int.reduceNeg, Int.reduceAdd, Int.reduceLT, Int.reduceLE, Int.reduceToNat, Int.reduceEq, Int.reduceNe, Int.reduceBEq, Int.reduceBNe, Int.reduceMul, Int.reduceSub, reduceIte, reduceCtorEq, slotsV])))
    all_goals exact fin _
  | true =>
    cases e2 : smallB b with
    | false =>
      rw [e1] at s1
      rw [e2] at s2
      simp only [slotsV] at s1 s2
      (try (simp -implicitDefEqProofs only [go_sem, Nat.reduceAdd, Nat.reduceSub, Nat.reduceMul, Nat.reduceLT, Nat.reduceLeDiff, Nat.reduceEqDiff, Nat.reduceBEq, Int.reduceNeg, Int.reduceAdd, Int.reduceLT, Int.reduceLE, Int.reduceToNat, Int.reduceEq, Int.reduceNe, Int.reduceBEq, Int.reduceBNe, Int.reduceMul, Int.reduceSub, reduceIte, reduceCtorEq, slotsV])); repeat' ((first | refine at_guard (fun hb => ?_) (fun hb => ?_) | refine ⟨fun hb => ?_, fun hb => ?_⟩ | refine at_call (s1) rfl rfl ?_ | refine at_call (s2) rfl rfl ?_ | refine at_call (aw) rfl rfl ?_ | fail) <;> (try (simp -implicitDefEqProofs only [go_sem, Nat.reduceAdd, Nat.reduceSub, Nat.reduceMul, Nat.reduceLT, Nat.reduceLeDiff, Nat.reduceEqDiff, Nat.reduceBEq, Int.reduceNeg, Int.reduceAdd, Int.reduceLT, Int.reduceLE, Int.reduceToNat, Int.reduceEq, Int.reduceNe, Int.reduceBEq, Int.reduceBNe, Int.reduceMul, Int.reduceSub, reduceIte, reduceCtorEq, slotsV])))
      all_goals exact fin _
    | true =>
      rw [e1] at s1
      rw [e2] at s2
      obtain ⟨a8, aS, aC⟩ := small_of e1
      obtain ⟨b8, bS, bC⟩ := small_of e2
      have hla : a.length < 9223372036854775807 := by omega
      have hlb : b.length < 9223372036854775807 := by omega
      have ka := key_of e1 ha64
      have kb := key_of e2 hb64
      have c1 := ref05_Fits_pc (G := G) a b hla hlb
      have c2 := binding_Union_pc (G := G) a b (by omega) (by omega)
      have c3 := binding_Under_pc (G := G) a b (by omega) (by omega)
      have c4 := ref05_Under_pc (G := G) a b hla hlb
      have c5 := binding_Fits_pc (G := G) a b (by omega) (by omega)
      have c6 := binding_Same_pc (G := G) a b hla hlb
      have c7 := ref05_Same_pc (G := G) a b hla hlb
      have c8 := binding_Less_pc (G := G) a b (by omega) (by omega)
      have c9 := ref05_Less_pc (G := G) a b (by omega) (by omega) (fun x hx => by have := aS x hx; omega)
      have c10 := binding_Key_pc (G := G) a (by omega) ka
      have c11 := binding_Key_pc (G := G) b (by omega) kb
      have hkey : (keyB a == keyB b) = decide (a = b) := by
        rw [Bool.eq_iff_iff, beq_iff_eq, decide_eq_true_eq]
        exact ⟨fun h => keyB_inj ka kb h, fun h => by rw [h]⟩
      generalize lessB a b = L at *
      generalize decide (a = b) = S at *
      cases hf : fitsB a b with
      | false =>
        have hu : unionB a b = none := by unfold unionB; rw [hf]; rfl
        rw [hf] at c1 c5
        rw [hu] at c2
        generalize underR a b = U at *
        simp only [slotsV, ofV, Option.getD_none, Option.isSome_none, List.map_nil] at s1 s2 c1 c2 c3 c4 c5 c6 c7 c8 c9 c10 c11
        (try (simp -implicitDefEqProofs only [go_sem, Nat.reduceAdd, Nat.reduceSub, Nat.reduceMul, Nat.reduceLT, Nat.reduceLeDiff, Nat.reduceEqDiff, Nat.reduceBEq, Int.reduceNeg, Int.reduceAdd, Int.reduceLT, Int.reduceLE, Int.reduceToNat, Int.reduceEq, Int.reduceNe, Int.reduceBEq, Int.reduceBNe, Int.reduceMul, Int.reduceSub, reduceIte, reduceCtorEq, slotsV, hkey, bne_self_eq_false])); repeat' ((first | refine at_guard (fun hb => ?_) (fun hb => ?_) | refine ⟨fun hb => ?_, fun hb => ?_⟩ | refine at_call (s1) rfl rfl ?_ | refine at_call (s2) rfl rfl ?_ | refine at_call (aw) rfl rfl ?_ | refine at_call (c1) rfl rfl ?_ | refine at_call (c2) rfl rfl ?_ | refine at_call (c3) rfl rfl ?_ | refine at_call (c4) rfl rfl ?_ | refine at_call (c5) rfl rfl ?_ | refine at_call (c6) rfl rfl ?_ | refine at_call (c7) rfl rfl ?_ | refine at_call (c8) rfl rfl ?_ | refine at_call (c9) rfl rfl ?_ | refine at_call (c10) rfl rfl ?_ | refine at_call (c11) rfl rfl ?_ | fail) <;> (try (simp -implicitDefEqProofs only [go_sem, Nat.reduceAdd, Nat.reduceSub, Nat.reduceMul, Nat.reduceLT, Nat.reduceLeDiff, Nat.reduceEqDiff, Nat.reduceBEq, Int.reduceNeg, Int.reduceAdd, Int.reduceLT, Int.reduceLE, Int.reduceToNat, Int.reduceEq, Int.reduceNe, Int.reduceBEq, Int.reduceBNe, Int.reduceMul, Int.reduceSub, reduceIte, reduceCtorEq, slotsV, hkey, bne_self_eq_false])))
        all_goals first
          | exact fin _
          | (exfalso; revert hb; decide)
      | true =>
        obtain ⟨hu, uC⟩ := unionB_fits aC bC hf
        have d1 := under_can (a := a) uC fun x hx => (mem_unionR aC bC hf).2 (.inl hx)
        have d2 := under_can (a := b) uC fun x hx => (mem_unionR aC bC hf).2 (.inr hx)
        have ul : (unionR a b).length ≤ 8 := unionN_len a b 8
        have c12 := ref05_Union_pc (G := G) a b hla hlb
        have c13 := ref05_Same_pc (G := G) (unionR a b) (unionR a b) (by omega) (by omega)
        rw [decide_eq_true rfl] at c13
        have c14 := binding_Under_pc (G := G) a (unionR a b) (by omega) (by omega)
        have c15 := binding_Under_pc (G := G) b (unionR a b) (by omega) (by omega)
        rw [d1] at c14
        rw [d2] at c15
        rw [hf] at c1 c5
        rw [hu] at c2
        generalize underR a b = U at *
        generalize unionR a b = u at *
        simp only [slotsV, ofV, Option.getD_some, Option.isSome_some] at s1 s2 c1 c2 c3 c4 c5 c6 c7 c8 c9 c10 c11 c12 c13 c14 c15
        (try (simp -implicitDefEqProofs only [go_sem, Nat.reduceAdd, Nat.reduceSub, Nat.reduceMul, Nat.reduceLT, Nat.reduceLeDiff, Nat.reduceEqDiff, Nat.reduceBEq, Int.reduceNeg, Int.reduceAdd, Int.reduceLT, Int.reduceLE, Int.reduceToNat, Int.reduceEq, Int.reduceNe, Int.reduceBEq, Int.reduceBNe, Int.reduceMul, Int.reduceSub, reduceIte, reduceCtorEq, slotsV, hkey, bne_self_eq_false])); repeat' ((first | refine at_guard (fun hb => ?_) (fun hb => ?_) | refine ⟨fun hb => ?_, fun hb => ?_⟩ | refine at_call (s1) rfl rfl ?_ | refine at_call (s2) rfl rfl ?_ | refine at_call (aw) rfl rfl ?_ | refine at_call (c1) rfl rfl ?_ | refine at_call (c2) rfl rfl ?_ | refine at_call (c3) rfl rfl ?_ | refine at_call (c4) rfl rfl ?_ | refine at_call (c5) rfl rfl ?_ | refine at_call (c6) rfl rfl ?_ | refine at_call (c7) rfl rfl ?_ | refine at_call (c8) rfl rfl ?_ | refine at_call (c9) rfl rfl ?_ | refine at_call (c10) rfl rfl ?_ | refine at_call (c11) rfl rfl ?_ | refine at_call (c12) rfl rfl ?_ | refine at_call (c13) rfl rfl ?_ | refine at_call (c14) rfl rfl ?_ | refine at_call (c15) rfl rfl ?_ | fail) <;> (try (simp -implicitDefEqProofs only [go_sem, Nat.reduceAdd, Nat.reduceSub, Nat.reduceMul, Nat.reduceLT, Nat.reduceLeDiff, Nat.reduceEqDiff, Nat.reduceBEq, Int.reduceNeg, Int.reduceAdd, Int.reduceLT, Int.reduceLE, Int.reduceToNat, Int.reduceEq, Int.reduceNe, Int.reduceBEq, Int.reduceBNe, Int.reduceMul, Int.reduceSub, reduceIte, reduceCtorEq, slotsV, hkey, bne_self_eq_false])))
        all_goals exact fin _
end Go.Proofs.Ytjkdpahaingjjaa.Ab
