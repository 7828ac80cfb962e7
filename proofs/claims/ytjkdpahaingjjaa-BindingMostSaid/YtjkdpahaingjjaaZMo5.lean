/-
  The law BindingMost. No claim is proved here.
-/
import Derived.Test.YtjkdpahaingjjaaZMo4
namespace Go.Proofs.Ytjkdpahaingjjaa.Ab
open Go Go.RowKit
set_option linter.unusedSimpArgs false
set_option linter.unusedVariables false
set_option maxHeartbeats 4000000
set_option maxRecDepth 100000
variable {G : Nat → Option AV}
theorem puts_mem : ∀ (m w : List (List SlotT)) (x : List SlotT), x ∈ m.foldl putB w → x ∈ w ∨ x ∈ m
  | [], w, x, h => .inl h
  | b :: m, w, x, h => by
    rw [List.foldl_cons] at h
    rcases puts_mem m (putB w b) x h with h | h
    · rcases putB_mem.1 h with h | h
      · exact .inl h
      · exact .inr (by simp [h])
    · exact .inr (by simp [h])
theorem puts_len : ∀ (m w : List (List SlotT)), (m.foldl putB w).length ≤ w.length + m.length
  | [], w => by simp
  | b :: m, w => by
    have h := puts_len m (putB w b)
    have h2 : (putB w b).length ≤ w.length + 1 := by
      unfold putB
      split
      · omega
      · have := goPut_le b w w.length
        simp only [insP, List.length_append, List.length_cons, List.length_take, List.length_drop]
        omega
    rw [List.foldl_cons, List.length_cons]
    omega
theorem law05_BindingMost_pc (ho : OrderC Try.prog G n_binding_order) (l : List (List SlotT)) (b : List SlotT) : PureC Try.prog G n_proctorlaw05_BindingMost [llV l, slotsV b] (.bool true) := by
  have s1 := law05_few_pc (G := G) l
  have s2 := law05_small_pc (G := G) b
  have aw := law05_awake_pc (G := G)
  refine pc_proctorlaw05_BindingMost (Runs.of fun Φ h => ?_)
  unfold c_proctorlaw05_BindingMost
  have fin : ∀ heap, Φ ⟨81, [(4, .bool true)], heap⟩ := fun heap => h _ ⟨_, _, rfl, rfl, .refl _⟩
  clear h
  cases e1 : fewB l with
  | false =>
    rw [e1] at s1
    simp only [slotsV, llV] at s1 s2
    generalize smallB b = z at *
    (try (simp -implicitDefEqProofs only [go_sem, Nat.reduceAdd, Nat.reduceSub, Nat.reduceMul, Nat.reduceLT, Nat.reduceLeDiff, Nat.reduceEqDiff, Nat.reduceBEq, Int.reduceNeg, Int.reduceAdd, Int.reduceLT, Int.reduceLE, Int.reduceToNat, Int.reduceEq, Int.reduceNe, Int.reduceBEq, Int.reduceBNe, Int.reduceMul, Int.reduceSub, reduceIte, reduceCtorEq, slotsV, llV])); repeat' ((first | refine at_guard (fun hb => ?_) (fun hb => ?_) | refine ⟨fun hb => ?_, fun hb => ?_⟩ | refine at_call (s1) rfl rfl ?_ | refine at_call (s2) rfl rfl ?_ | refine at_call (aw) rfl rfl ?_ | fail) <;> (try (simp -implicitDefEqProofs only [go_sem, Nat.reduceAdd, Nat.reduceSub, Nat.reduceMul, Nat.reduceLT, Nat.reduceLeDiff, Nat.reduceEqDiff, Nat.reduceBEq, Int.reduceNeg, Int.reduceAdd, Int.reduceLT, Int.reduceLE, Int.reduceToNat, Int.reduceEq, Int.reduceNe, Int.reduceBEq, Int.reduceBNe, Int.reduceMul, Int.reduceSub, reduceIte, reduceCtorEq, slotsV, llV])))
    all_goals exact fin _
  | true =>
    cases e2 : smallB b with
    | false =>
      rw [e1] at s1
      rw [e2] at s2
      simp only [slotsV, llV] at s1 s2
      (try (simp -implicitDefEqProofs only [go_sem, Nat.reduceAdd, Nat.reduceSub, Nat.reduceMul, Nat.reduceLT, Nat.reduceLeDiff, Nat.reduceEqDiff, Nat.reduceBEq, Int.reduceNeg, Int.reduceAdd, Int.reduceLT, Int.reduceLE, Int.reduceToNat, Int.reduceEq, Int.reduceNe, Int.reduceBEq, Int.reduceBNe, Int.reduceMul, Int.reduceSub, reduceIte, reduceCtorEq, slotsV, llV])); repeat' ((first | refine at_guard (fun hb => ?_) (fun hb => ?_) | refine ⟨fun hb => ?_, fun hb => ?_⟩ | refine at_call (s1) rfl rfl ?_ | refine at_call (s2) rfl rfl ?_ | refine at_call (aw) rfl rfl ?_ | fail) <;> (try (simp -implicitDefEqProofs only [go_sem, Nat.reduceAdd, Nat.reduceSub, Nat.reduceMul, Nat.reduceLT, Nat.reduceLeDiff, Nat.reduceEqDiff, Nat.reduceBEq, Int.reduceNeg, Int.reduceAdd, Int.reduceLT, Int.reduceLE, Int.reduceToNat, Int.reduceEq, Int.reduceNe, Int.reduceBEq, Int.reduceBNe, Int.reduceMul, Int.reduceSub, reduceIte, reduceCtorEq, slotsV, llV])))
      all_goals exact fin _
    | true =>
      rw [e1] at s1
      rw [e2] at s2
      obtain ⟨b8, bS, bC⟩ := small_of e2
      simp only [fewB, Bool.and_eq_true, decide_eq_true_eq, List.all_eq_true] at e1
      obtain ⟨l12, hsm⟩ := e1
      have hx8 : ∀ x ∈ l, x.length ≤ 8 := fun x hx => (small_of (hsm x hx)).1
      have hS : ∀ x ∈ l, ∀ s ∈ x, s.value.str.length ≤ 1000 := fun x hx => (small_of (hsm x hx)).2.1
      have hok : ∀ x ∈ l, okL x := fun x hx s hs => ((small_of (hsm x hx)).2.2.good s hs).2.2
      have hM := Most_pc ho l b (by omega) (by omega) (fun x hx => ⟨hok x hx, by have := hx8 x hx; omega⟩)
      rw [most_want hok] at hM
      simp only [slotsV, llV] at s1 s2 hM
      (try (simp -implicitDefEqProofs only [go_sem, Nat.reduceAdd, Nat.reduceSub, Nat.reduceMul, Nat.reduceLT, Nat.reduceLeDiff, Nat.reduceEqDiff, Nat.reduceBEq, Int.reduceNeg, Int.reduceAdd, Int.reduceLT, Int.reduceLE, Int.reduceToNat, Int.reduceEq, Int.reduceNe, Int.reduceBEq, Int.reduceBNe, Int.reduceMul, Int.reduceSub, reduceIte, reduceCtorEq, slotsV, llV])); repeat' ((first | refine at_guard (fun hb => ?_) (fun hb => ?_) | refine ⟨fun hb => ?_, fun hb => ?_⟩ | refine at_call (s1) rfl rfl ?_ | refine at_call (s2) rfl rfl ?_ | fail) <;> (try (simp -implicitDefEqProofs only [go_sem, Nat.reduceAdd, Nat.reduceSub, Nat.reduceMul, Nat.reduceLT, Nat.reduceLeDiff, Nat.reduceEqDiff, Nat.reduceBEq, Int.reduceNeg, Int.reduceAdd, Int.reduceLT, Int.reduceLE, Int.reduceToNat, Int.reduceEq, Int.reduceNe, Int.reduceBEq, Int.reduceBNe, Int.reduceMul, Int.reduceSub, reduceIte, reduceCtorEq, slotsV, llV])))
      refine at_loop (fun n st => ∃ (i : Nat) (m : List (List SlotT)) (X : AV) (H : List (Nat × Box)), i + n = l.length ∧ st = ⟨81, [(0, .seq 1 (l.map slotsV)), (1, .seq 5 (b.map slotV)), (5, X), (6, iv i)], H⟩ ∧
        ((X = .arr 5 0 0 ∧ m = [] ∧ H = [(5, ⟨true, t_Sapi_Slot, 1, []⟩)]) ∨ (X = .seq 1 (m.map slotsV) ∧ H = [])) ∧ m = ((l.take i).filter (isB l b)).foldl putB []) l.length ⟨0, [], _, _, by simp, rfl, .inl ⟨rfl, rfl, rfl⟩, rfl⟩ ?_
      rintro I hI n st ⟨i, m, X, H, hi, rfl, hX, hm⟩
      have hmem : ∀ z ∈ m, z ∈ l := fun z hz => by
        rw [hm] at hz
        rcases puts_mem _ _ _ hz with h | h
        · cases h
        · exact List.mem_of_mem_take (List.mem_filter.1 h).1
      have hml : m.length ≤ 12 := by
        have h1 := puts_len ((l.take i).filter (isB l b)) []
        have h2 := List.length_filter_le (isB l b) (l.take i)
        rw [List.length_take] at h2
        rw [hm]
        simp only [List.length_nil] at h1
        omega
      clear s1 s2
      simp -implicitDefEqProofs only [go_sem, Nat.reduceAdd, Nat.reduceSub, Nat.reduceMul, Nat.reduceLT, Nat.reduceLeDiff, Nat.reduceEqDiff, Nat.reduceBEq, Int.reduceNeg, Int.reduceAdd, Int.reduceLT, Int.reduceLE, Int.reduceToNat, Int.reduceEq, Int.reduceNe, Int.reduceBEq, Int.reduceBNe, Int.reduceMul, Int.reduceSub, reduceIte, reduceCtorEq, List.length_map]
      refine ⟨fun hlt => ?_, fun hge => ?_⟩
      · have hlt' : i < l.length := by omega
        obtain ⟨x, hx1, hxm⟩ := at_some hlt'
        have hw := wrap_succ hlt' (by omega)
        have d0 := ref05_Under_pc (G := G) x b (by have := hx8 x hxm; omega) (by omega)
        simp only [slotsV] at d0
        rcases hX with ⟨rfl, rfl, rfl⟩ | ⟨rfl, rfl⟩
        · have ha := aiaddr_ll (H := [(5, ⟨true, t_Sapi_Slot, 1, []⟩)]) hx1
          (try (simp -implicitDefEqProofs only [go_sem, Nat.reduceAdd, Nat.reduceSub, Nat.reduceMul, Nat.reduceLT, Nat.reduceLeDiff, Nat.reduceEqDiff, Nat.reduceBEq, Int.reduceNeg, Int.reduceAdd, Int.reduceLT, Int.reduceLE, Int.reduceToNat, Int.reduceEq, Int.reduceNe, Int.reduceBEq, Int.reduceBNe, Int.reduceMul, Int.reduceSub, reduceIte, reduceCtorEq, ha])); repeat' ((first | refine at_guard (fun hb => ?_) (fun hb => ?_) | refine ⟨fun hb => ?_, fun hb => ?_⟩ | refine at_call (d0) rfl rfl ?_ | fail) <;> (try (simp -implicitDefEqProofs only [go_sem, Nat.reduceAdd, Nat.reduceSub, Nat.reduceMul, Nat.reduceLT, Nat.reduceLeDiff, Nat.reduceEqDiff, Nat.reduceBEq, Int.reduceNeg, Int.reduceAdd, Int.reduceLT, Int.reduceLE, Int.reduceToNat, Int.reduceEq, Int.reduceNe, Int.reduceBEq, Int.reduceBNe, Int.reduceMul, Int.reduceSub, reduceIte, reduceCtorEq, ha])))
          refine at_loop (fun n2 st => ∃ (k : Nat) (C : Bool), k + n2 = l.length ∧ st = ⟨81, [(0, .seq 1 (l.map slotsV)), (1, .seq 5 (b.map slotV)), (5, .arr 5 0 0), (6, iv i), (7, .bool C), (8, iv k)], [(5, ⟨true, t_Sapi_Slot, 1, []⟩)]⟩ ∧ C = (underR x b && !(l.take k).any (isQ b x))) l.length ⟨0, underR x b, by simp, rfl, by simp⟩ ?_
          rintro I2 hI2 n2 st ⟨k, C, hk, rfl, hC⟩
          simp -implicitDefEqProofs only [go_sem, Nat.reduceAdd, Nat.reduceSub, Nat.reduceMul, Nat.reduceLT, Nat.reduceLeDiff, Nat.reduceEqDiff, Nat.reduceBEq, Int.reduceNeg, Int.reduceAdd, Int.reduceLT, Int.reduceLE, Int.reduceToNat, Int.reduceEq, Int.reduceNe, Int.reduceBEq, Int.reduceBNe, Int.reduceMul, Int.reduceSub, reduceIte, reduceCtorEq, List.length_map]
          refine ⟨fun hlt2 => ?_, fun hge2 => ?_⟩
          · have hlt3 : k < l.length := by omega
            obtain ⟨y, hy, hym⟩ := at_some hlt3
            have hay := aiaddr_ll (H := [(5, ⟨true, t_Sapi_Slot, 1, []⟩)]) hy
            have hw2 := wrap_succ hlt3 (by omega)
            have d1 := ref05_Under_pc (G := G) y b (by have := hx8 y hym; omega) (by omega)
            have d2 := ref05_Under_pc (G := G) x y (by have := hx8 x hxm; omega) (by have := hx8 y hym; omega)
            have hnx : (l.take (k + 1)).any (isQ b x) = ((l.take k).any (isQ b x) || isQ b x y) := by
              rw [takeC hy, List.any_append]
              simp
            have e1 : decide ((x.length : Int) < (y.length : Int)) = decide (x.length < y.length) := by simp
            have nx : (underR x b && !(l.take (k + 1)).any (isQ b x)) = ((underR x b && !(l.take k).any (isQ b x)) && !isQ b x y) := by
              rw [hnx]
              cases underR x b <;> cases (l.take k).any (isQ b x) <;> cases isQ b x y <;> rfl
            unfold isQ at nx
            simp only [slotsV] at d1 d2
            have go : ∀ β : Bool, β = (underR x b && !(l.take (k + 1)).any (isQ b x)) → again I2 n2 ⟨81, [(0, .seq 1 (l.map slotsV)), (1, .seq 5 (b.map slotV)), (5, .arr 5 0 0), (6, iv i), (7, .bool β), (8, iv (k + 1 : Nat))], [(5, ⟨true, t_Sapi_Slot, 1, []⟩)]⟩ := fun β e => at_again (n2 - 1) (by omega) (hI2 _ _ ⟨k + 1, β, by omega, rfl, e⟩)
            unfold isQ at go
            generalize (underR x b && !(l.take (k + 1)).any fun y => underR y b && (decide (x.length < y.length) && underR x y)) = N at *
            rw [show (underR x b && !(l.take k).any fun y => underR y b && (decide (x.length < y.length) && underR x y)) = C from hC.symm] at nx
            generalize underR y b = u1 at *
            generalize underR x y = u2 at *
            generalize decide (x.length < y.length) = u3 at *
            clear hI hI2 hnx hC
            cases u1 <;> cases u2 <;> cases u3
            all_goals
              (try (simp -implicitDefEqProofs only [go_sem, Nat.reduceAdd, Nat.reduceSub, Nat.reduceMul, Nat.reduceLT, Nat.reduceLeDiff, Nat.reduceEqDiff, Nat.reduceBEq, Int.reduceNeg, Int.reduceAdd, Int.reduceLT, Int.reduceLE, Int.reduceToNat, Int.reduceEq, Int.reduceNe, Int.reduceBEq, Int.reduceBNe, Int.reduceMul, Int.reduceSub, reduceIte, reduceCtorEq, ha, hay, hw2, List.length_map, e1])); repeat' ((first | refine at_guard (fun hb => ?_) (fun hb => ?_) | refine ⟨fun hb => ?_, fun hb => ?_⟩ | refine at_call (d1) rfl rfl ?_ | refine at_call (d2) rfl rfl ?_ | fail) <;> (try (simp -implicitDefEqProofs only [go_sem, Nat.reduceAdd, Nat.reduceSub, Nat.reduceMul, Nat.reduceLT, Nat.reduceLeDiff, Nat.reduceEqDiff, Nat.reduceBEq, Int.reduceNeg, Int.reduceAdd, Int.reduceLT, Int.reduceLE, Int.reduceToNat, Int.reduceEq, Int.reduceNe, Int.reduceBEq, Int.reduceBNe, Int.reduceMul, Int.reduceSub, reduceIte, reduceCtorEq, ha, hay, hw2, List.length_map, e1])))
              all_goals first
                | (refine go _ ?_; rw [nx]; cases C <;> rfl)
                | (exfalso; simp_all; done)
          · have hkl : k = l.length := by omega
            have hB : C = isB l b x := by rw [hC, hkl, List.take_of_length_le (Nat.le_refl _)]; rfl
            have hnx := filter_takeC (p := isB l b) hx1
            have hfold : ((l.take (i + 1)).filter (isB l b)).foldl putB [] = if isB l b x then putB [] x else [] := by
              rw [hnx, List.foldl_append, ← hm]
              split <;> rfl
            have c1 := ref05_Put_pc (G := G) [] x (by simp) (by simp) (hx8 x hxm |> fun h => by omega) (fun s hs => by have := hS x hxm s hs; omega)
            simp only [llV, slotsV, List.map_nil] at c1
            rw [← hB] at hfold
            clear hB hC hnx
            cases C with
            | true =>
              rw [if_pos rfl] at hfold
              (try (simp -implicitDefEqProofs only [go_sem, Nat.reduceAdd, Nat.reduceSub, Nat.reduceMul, Nat.reduceLT, Nat.reduceLeDiff, Nat.reduceEqDiff, Nat.reduceBEq, Int.reduceNeg, Int.reduceAdd, Int.reduceLT, Int.reduceLE, Int.reduceToNat, Int.reduceEq, Int.reduceNe, Int.reduceBEq, Int.reduceBNe, Int.reduceMul, Int.reduceSub, reduceIte, reduceCtorEq, ha, hw, List.length_map])); repeat' ((first | refine at_guard (fun hb => ?_) (fun hb => ?_) | refine ⟨fun hb => ?_, fun hb => ?_⟩ | refine at_call (c1) rfl rfl ?_ | fail) <;> (try (simp -implicitDefEqProofs only [go_sem, Nat.reduceAdd, Nat.reduceSub, Nat.reduceMul, Nat.reduceLT, Nat.reduceLeDiff, Nat.reduceEqDiff, Nat.reduceBEq, Int.reduceNeg, Int.reduceAdd, Int.reduceLT, Int.reduceLE, Int.reduceToNat, Int.reduceEq, Int.reduceNe, Int.reduceBEq, Int.reduceBNe, Int.reduceMul, Int.reduceSub, reduceIte, reduceCtorEq, ha, hw, List.length_map])))
              exact at_again (n - 1) (by omega) (hI _ _ ⟨i + 1, _, _, _, by omega, rfl, .inr ⟨rfl, rfl⟩, hfold.symm⟩)
            | false =>
              rw [if_neg (by simp)] at hfold
              (try (simp -implicitDefEqProofs only [go_sem, Nat.reduceAdd, Nat.reduceSub, Nat.reduceMul, Nat.reduceLT, Nat.reduceLeDiff, Nat.reduceEqDiff, Nat.reduceBEq, Int.reduceNeg, Int.reduceAdd, Int.reduceLT, Int.reduceLE, Int.reduceToNat, Int.reduceEq, Int.reduceNe, Int.reduceBEq, Int.reduceBNe, Int.reduceMul, Int.reduceSub, reduceIte, reduceCtorEq, ha, hw, List.length_map])); repeat' ((first | refine at_guard (fun hb => ?_) (fun hb => ?_) | refine ⟨fun hb => ?_, fun hb => ?_⟩ | fail) <;> (try (simp -implicitDefEqProofs only [go_sem, Nat.reduceAdd, Nat.reduceSub, Nat.reduceMul, Nat.reduceLT, Nat.reduceLeDiff, Nat.reduceEqDiff, Nat.reduceBEq, Int.reduceNeg, Int.reduceAdd, Int.reduceLT, Int.reduceLE, Int.reduceToNat, Int.reduceEq, Int.reduceNe, Int.reduceBEq, Int.reduceBNe, Int.reduceMul, Int.reduceSub, reduceIte, reduceCtorEq, ha, hw, List.length_map])))
              exact at_again (n - 1) (by omega) (hI _ _ ⟨i + 1, _, _, _, by omega, rfl, .inl ⟨rfl, rfl, rfl⟩, hfold.symm⟩)
        · have ha := aiaddr_ll (H := []) hx1
          (try (simp -implicitDefEqProofs only [go_sem, Nat.reduceAdd, Nat.reduceSub, Nat.reduceMul, Nat.reduceLT, Nat.reduceLeDiff, Nat.reduceEqDiff, Nat.reduceBEq, Int.reduceNeg, Int.reduceAdd, Int.reduceLT, Int.reduceLE, Int.reduceToNat, Int.reduceEq, Int.reduceNe, Int.reduceBEq, Int.reduceBNe, Int.reduceMul, Int.reduceSub, reduceIte, reduceCtorEq, ha])); repeat' ((first | refine at_guard (fun hb => ?_) (fun hb => ?_) | refine ⟨fun hb => ?_, fun hb => ?_⟩ | refine at_call (d0) rfl rfl ?_ | fail) <;> (try (simp -implicitDefEqProofs only [go_sem, Nat.reduceAdd, Nat.reduceSub, Nat.reduceMul, Nat.reduceLT, Nat.reduceLeDiff, Nat.reduceEqDiff, Nat.reduceBEq, Int.reduceNeg, Int.reduceAdd, Int.reduceLT, Int.reduceLE, Int.reduceToNat, Int.reduceEq, Int.reduceNe, Int.reduceBEq, Int.reduceBNe, Int.reduceMul, Int.reduceSub, reduceIte, reduceCtorEq, ha])))
          refine at_loop (fun n2 st => ∃ (k : Nat) (C : Bool), k + n2 = l.length ∧ st = ⟨81, [(0, .seq 1 (l.map slotsV)), (1, .seq 5 (b.map slotV)), (5, .seq 1 (m.map slotsV)), (6, iv i), (7, .bool C), (8, iv k)], []⟩ ∧ C = (underR x b && !(l.take k).any (isQ b x))) l.length ⟨0, underR x b, by simp, rfl, by simp⟩ ?_
          rintro I2 hI2 n2 st ⟨k, C, hk, rfl, hC⟩
          simp -implicitDefEqProofs only [go_sem, Nat.reduceAdd, Nat.reduceSub, Nat.reduceMul, Nat.reduceLT, Nat.reduceLeDiff, Nat.reduceEqDiff, Nat.reduceBEq, Int.reduceNeg, Int.reduceAdd, Int.reduceLT, Int.reduceLE, Int.reduceToNat, Int.reduceEq, Int.reduceNe, Int.reduceBEq, Int.reduceBNe, Int.reduceMul, Int.reduceSub, reduceIte, reduceCtorEq, List.length_map]
          refine ⟨fun hlt2 => ?_, fun hge2 => ?_⟩
          · have hlt3 : k < l.length := by omega
            obtain ⟨y, hy, hym⟩ := at_some hlt3
            have hay := aiaddr_ll (H := []) hy
            have hw2 := wrap_succ hlt3 (by omega)
            have d1 := ref05_Under_pc (G := G) y b (by have := hx8 y hym; omega) (by omega)
            have d2 := ref05_Under_pc (G := G) x y (by have := hx8 x hxm; omega) (by have := hx8 y hym; omega)
            have hnx : (l.take (k + 1)).any (isQ b x) = ((l.take k).any (isQ b x) || isQ b x y) := by
              rw [takeC hy, List.any_append]
              simp
            have e1 : decide ((x.length : Int) < (y.length : Int)) = decide (x.length < y.length) := by simp
            have nx : (underR x b && !(l.take (k + 1)).any (isQ b x)) = ((underR x b && !(l.take k).any (isQ b x)) && !isQ b x y) := by
              rw [hnx]
              cases underR x b <;> cases (l.take k).any (isQ b x) <;> cases isQ b x y <;> rfl
            unfold isQ at nx
            simp only [slotsV] at d1 d2
            have go : ∀ β : Bool, β = (underR x b && !(l.take (k + 1)).any (isQ b x)) → again I2 n2 ⟨81, [(0, .seq 1 (l.map slotsV)), (1, .seq 5 (b.map slotV)), (5, .seq 1 (m.map slotsV)), (6, iv i), (7, .bool β), (8, iv (k + 1 : Nat))], []⟩ := fun β e => at_again (n2 - 1) (by omega) (hI2 _ _ ⟨k + 1, β, by omega, rfl, e⟩)
            unfold isQ at go
            generalize (underR x b && !(l.take (k + 1)).any fun y => underR y b && (decide (x.length < y.length) && underR x y)) = N at *
            rw [show (underR x b && !(l.take k).any fun y => underR y b && (decide (x.length < y.length) && underR x y)) = C from hC.symm] at nx
            generalize underR y b = u1 at *
            generalize underR x y = u2 at *
            generalize decide (x.length < y.length) = u3 at *
            clear hI hI2 hnx hC
            cases u1 <;> cases u2 <;> cases u3
            all_goals
              (try (simp -implicitDefEqProofs only [go_sem, Nat.reduceAdd, Nat.reduceSub, Nat.reduceMul, Nat.reduceLT, Nat.reduceLeDiff, Nat.reduceEqDiff, Nat.reduceBEq, Int.reduceNeg, Int.reduceAdd, Int.reduceLT, Int.reduceLE, Int.reduceToNat, Int.reduceEq, Int.reduceNe, Int.reduceBEq, Int.reduceBNe, Int.reduceMul, Int.reduceSub, reduceIte, reduceCtorEq, ha, hay, hw2, List.length_map, e1])); repeat' ((first | refine at_guard (fun hb => ?_) (fun hb => ?_) | refine ⟨fun hb => ?_, fun hb => ?_⟩ | refine at_call (d1) rfl rfl ?_ | refine at_call (d2) rfl rfl ?_ | fail) <;> (try (simp -implicitDefEqProofs only [go_sem, Nat.reduceAdd, Nat.reduceSub, Nat.reduceMul, Nat.reduceLT, Nat.reduceLeDiff, Nat.reduceEqDiff, Nat.reduceBEq, Int.reduceNeg, Int.reduceAdd, Int.reduceLT, Int.reduceLE, Int.reduceToNat, Int.reduceEq, Int.reduceNe, Int.reduceBEq, Int.reduceBNe, Int.reduceMul, Int.reduceSub, reduceIte, reduceCtorEq, ha, hay, hw2, List.length_map, e1])))
              all_goals first
                | (refine go _ ?_; rw [nx]; cases C <;> rfl)
                | (exfalso; simp_all; done)
          · have hkl : k = l.length := by omega
            have hB : C = isB l b x := by rw [hC, hkl, List.take_of_length_le (Nat.le_refl _)]; rfl
            have hnx := filter_takeC (p := isB l b) hx1
            have hfold : ((l.take (i + 1)).filter (isB l b)).foldl putB [] = if isB l b x then putB m x else m := by
              rw [hnx, List.foldl_append, ← hm]
              split <;> rfl
            have c1 := ref05_Put_pc (G := G) m x (by omega) (by intro z hz; have := hx8 z (hmem z hz); omega) (hx8 x hxm |> fun h => by omega) (fun s hs => by have := hS x hxm s hs; omega)
            simp only [llV, slotsV, List.map_nil] at c1
            rw [← hB] at hfold
            clear hB hC hnx
            cases C with
            | true =>
              rw [if_pos rfl] at hfold
              (try (simp -implicitDefEqProofs only [go_sem, Nat.reduceAdd, Nat.reduceSub, Nat.reduceMul, Nat.reduceLT, Nat.reduceLeDiff, Nat.reduceEqDiff, Nat.reduceBEq, Int.reduceNeg, Int.reduceAdd, Int.reduceLT, Int.reduceLE, Int.reduceToNat, Int.reduceEq, Int.reduceNe, Int.reduceBEq, Int.reduceBNe, Int.reduceMul, Int.reduceSub, reduceIte, reduceCtorEq, ha, hw, List.length_map])); repeat' ((first | refine at_guard (fun hb => ?_) (fun hb => ?_) | refine ⟨fun hb => ?_, fun hb => ?_⟩ | refine at_call (c1) rfl rfl ?_ | fail) <;> (try (simp -implicitDefEqProofs only [go_sem, Nat.reduceAdd, Nat.reduceSub, Nat.reduceMul, Nat.reduceLT, Nat.reduceLeDiff, Nat.reduceEqDiff, Nat.reduceBEq, Int.reduceNeg, Int.reduceAdd, Int.reduceLT, Int.reduceLE, Int.reduceToNat, Int.reduceEq, Int.reduceNe, Int.reduceBEq, Int.reduceBNe, Int.reduceMul, Int.reduceSub, reduceIte, reduceCtorEq, ha, hw, List.length_map])))
              exact at_again (n - 1) (by omega) (hI _ _ ⟨i + 1, _, _, _, by omega, rfl, .inr ⟨rfl, rfl⟩, hfold.symm⟩)
            | false =>
              rw [if_neg (by simp)] at hfold
              (try (simp -implicitDefEqProofs only [go_sem, Nat.reduceAdd, Nat.reduceSub, Nat.reduceMul, Nat.reduceLT, Nat.reduceLeDiff, Nat.reduceEqDiff, Nat.reduceBEq, Int.reduceNeg, Int.reduceAdd, Int.reduceLT, Int.reduceLE, Int.reduceToNat, Int.reduceEq, Int.reduceNe, Int.reduceBEq, Int.reduceBNe, Int.reduceMul, Int.reduceSub, reduceIte, reduceCtorEq, ha, hw, List.length_map])); repeat' ((first | refine at_guard (fun hb => ?_) (fun hb => ?_) | refine ⟨fun hb => ?_, fun hb => ?_⟩ | fail) <;> (try (simp -implicitDefEqProofs only [go_sem, Nat.reduceAdd, Nat.reduceSub, Nat.reduceMul, Nat.reduceLT, Nat.reduceLeDiff, Nat.reduceEqDiff, Nat.reduceBEq, Int.reduceNeg, Int.reduceAdd, Int.reduceLT, Int.reduceLE, Int.reduceToNat, Int.reduceEq, Int.reduceNe, Int.reduceBEq, Int.reduceBNe, Int.reduceMul, Int.reduceSub, reduceIte, reduceCtorEq, ha, hw, List.length_map])))
              exact at_again (n - 1) (by omega) (hI _ _ ⟨i + 1, _, _, _, by omega, rfl, .inr ⟨rfl, rfl⟩, hfold.symm⟩)
      · rw [List.take_of_length_le (by omega)] at hm
        have hc := law05_same_pc (G := G) m (by omega) (fun x h => by have := hx8 x (hmem x h); omega)
        rw [show wantB l b = m from hm.symm] at hM
        simp only [llV] at hc hM
        rcases hX with ⟨rfl, rfl, rfl⟩ | ⟨rfl, rfl⟩
        · simp only [List.map_nil] at hc hM
          (try (simp -implicitDefEqProofs only [go_sem, Nat.reduceAdd, Nat.reduceSub, Nat.reduceMul, Nat.reduceLT, Nat.reduceLeDiff, Nat.reduceEqDiff, Nat.reduceBEq, Int.reduceNeg, Int.reduceAdd, Int.reduceLT, Int.reduceLE, Int.reduceToNat, Int.reduceEq, Int.reduceNe, Int.reduceBEq, Int.reduceBNe, Int.reduceMul, Int.reduceSub, reduceIte, reduceCtorEq])); repeat' ((first | refine at_guard (fun hb => ?_) (fun hb => ?_) | refine ⟨fun hb => ?_, fun hb => ?_⟩ | refine at_call (hM) rfl rfl ?_ | refine at_call (hc) rfl rfl ?_ | refine at_call (aw) rfl rfl ?_ | fail) <;> (try (simp -implicitDefEqProofs only [go_sem, Nat.reduceAdd, Nat.reduceSub, Nat.reduceMul, Nat.reduceLT, Nat.reduceLeDiff, Nat.reduceEqDiff, Nat.reduceBEq, Int.reduceNeg, Int.reduceAdd, Int.reduceLT, Int.reduceLE, Int.reduceToNat, Int.reduceEq, Int.reduceNe, Int.reduceBEq, Int.reduceBNe, Int.reduceMul, Int.reduceSub, reduceIte, reduceCtorEq])))
          all_goals exact fin _
        · (try (simp -implicitDefEqProofs only [go_sem, Nat.reduceAdd, Nat.reduceSub, Nat.reduceMul, Nat.reduceLT, Nat.reduceLeDiff, Nat.reduceEqDiff, Nat.reduceBEq, Int.reduceNeg, Int.reduceAdd, Int.reduceLT, Int.reduceLE, Int.reduceToNat, Int.reduceEq, Int.reduceNe, Int.reduceBEq, Int.reduceBNe, Int.reduceMul, Int.reduceSub, reduceIte, reduceCtorEq])); repeat' ((first | refine at_guard (fun hb => ?_) (fun hb => ?_) | refine ⟨fun hb => ?_, fun hb => ?_⟩ | refine at_call (hM) rfl rfl ?_ | refine at_call (hc) rfl rfl ?_ | refine at_call (aw) rfl rfl ?_ | fail) <;> (try (simp -implicitDefEqProofs only [go_sem, Nat.reduceAdd, Nat.reduceSub, Nat.reduceMul, Nat.reduceLT, Nat.reduceLeDiff, Nat.reduceEqDiff, Nat.reduceBEq, Int.reduceNeg, Int.reduceAdd, Int.reduceLT, Int.reduceLE, Int.reduceToNat, Int.reduceEq, Int.reduceNe, Int.reduceBEq, Int.reduceBNe, Int.reduceMul, Int.reduceSub, reduceIte, reduceCtorEq])))
          all_goals exact fin _
end Go.Proofs.Ytjkdpahaingjjaa.Ab
