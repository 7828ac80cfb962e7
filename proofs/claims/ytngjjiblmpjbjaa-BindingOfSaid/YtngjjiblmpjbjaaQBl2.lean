/-
  The law BindingOf, walked. No claim is proved here.
-/
import Derived.Test.YtngjjiblmpjbjaaQBl1
namespace Go.Proofs.Ytngjjiblmpjbjaa.Ab
open Go Go.RowKit
set_option linter.unusedSimpArgs false
set_option maxHeartbeats 4000000
set_option maxRecDepth 100000
variable {G : Nat → Option AV}
theorem refGo_len : ∀ {l m m' : List SlotT}, m.length ≤ 8 → refGo m l = some m' → m'.length ≤ 8
  | [], m, m', hm, h => by
    simp only [refGo, Option.some.injEq] at h
    subst h
    exact hm
  | s :: l, m, m', _, h => by
    rw [refGo] at h
    split at h
    · cases h
    · exact refGo_len (unionN_len m [s] 8) h
theorem law05_BindingOf_pc0 (l : List SlotT) (v : Int) (hof : ofB l = refGo [] l) : PureC Try.prog G n_proctorlaw05_BindingOf [slotsV l, iv v] (.bool true) := by
  have ha := law05_awake_pc (G := G)
  refine pc_proctorlaw05_BindingOf (Runs.of fun Φ h => ?_)
  unfold c_proctorlaw05_BindingOf
  have fin : ∀ heap, Φ ⟨131, [(4, .bool true)], heap⟩ := fun heap => h _ ⟨_, _, rfl, rfl, .refl _⟩
  clear h
  by_cases h20 : (20 : Int) < l.length
  · have e20 : ((20 : Int) < l.length) = True := by simp; omega
    (try (simp -implicitDefEqProofs only [go_sem, Nat.reduceAdd, Nat.reduceSub, Nat.reduceMul, Nat.reduceLT, Nat.reduceLeDiff, Nat.reduceEqDiff, Nat.reduceBEq, Int.reduceNeg, Int.reduceAdd, Int.reduceLT, Int.reduceLE, Int.reduceToNat, Int.reduceEq, Int.reduceNe, Int.reduceBEq, Int.reduceBNe, Int.reduceMul, Int.reduceSub, reduceIte, reduceCtorEq, slotsV, List.length_map, e20, decide_true])); repeat' ((first | refine at_guard (fun hb => ?_) (fun hb => ?_) | refine ⟨fun hb => ?_, fun hb => ?_⟩ | refine at_call (ha) rfl rfl ?_ | fail) <;> (try (simp -implicitDefEqProofs only [go_sem, Nat.reduceAdd, Nat.reduceSub, Nat.reduceMul, Nat.reduceLT, Nat.reduceLeDiff, Nat.reduceEqDiff, Nat.reduceBEq, Int.reduceNeg, Int.reduceAdd, Int.reduceLT, Int.reduceLE, Int.reduceToNat, Int.reduceEq, Int.reduceNe, Int.reduceBEq, Int.reduceBNe, Int.reduceMul, Int.reduceSub, reduceIte, reduceCtorEq, slotsV, List.length_map, e20, decide_true])))
    exact fin _
  have e20 : ((20 : Int) < l.length) = False := by simp; omega
  have h1 := binding_Of_pc (G := G) l (by omega)
  have h2 := binding_Right_pc (G := G) l (by omega)
  have h3 := ref05_Right_pc (G := G) l (by omega)
  rw [hof] at h1
  generalize bindOk l = R at *
  obtain ⟨o, ho⟩ : ∃ o, refGo [] l = o := ⟨_, rfl⟩
  rw [ho] at h1
  have hol : (o.getD []).length ≤ 1000 := by
    cases o with
    | none => simp
    | some m' =>
      have := refGo_len (by simp) ho
      simp only [Option.getD_some]
      omega
  obtain ⟨os, hos⟩ : ∃ os, o.getD [] = os := ⟨_, rfl⟩
  obtain ⟨ob, hob⟩ : ∃ ob, o.isSome = ob := ⟨_, rfl⟩
  unfold ofV at h1
  rw [hos, hob] at h1
  rw [hos] at hol
  simp only [slotsV] at h1 h2 h3
  (try (simp -implicitDefEqProofs only [go_sem, Nat.reduceAdd, Nat.reduceSub, Nat.reduceMul, Nat.reduceLT, Nat.reduceLeDiff, Nat.reduceEqDiff, Nat.reduceBEq, Int.reduceNeg, Int.reduceAdd, Int.reduceLT, Int.reduceLE, Int.reduceToNat, Int.reduceEq, Int.reduceNe, Int.reduceBEq, Int.reduceBNe, Int.reduceMul, Int.reduceSub, reduceIte, reduceCtorEq, slotsV, List.length_map, e20, decide_false])); repeat' ((first | refine at_guard (fun hb => ?_) (fun hb => ?_) | refine ⟨fun hb => ?_, fun hb => ?_⟩ | refine at_call (h1) rfl rfl ?_ | refine at_call (h2) rfl rfl ?_ | refine at_call (h3) rfl rfl ?_ | fail) <;> (try (simp -implicitDefEqProofs only [go_sem, Nat.reduceAdd, Nat.reduceSub, Nat.reduceMul, Nat.reduceLT, Nat.reduceLeDiff, Nat.reduceEqDiff, Nat.reduceBEq, Int.reduceNeg, Int.reduceAdd, Int.reduceLT, Int.reduceLE, Int.reduceToNat, Int.reduceEq, Int.reduceNe, Int.reduceBEq, Int.reduceBNe, Int.reduceMul, Int.reduceSub, reduceIte, reduceCtorEq, slotsV, List.length_map, e20, decide_false])))
  have hsl : ∀ (i : Nat) (x : SlotT), l[i]? = some x → aslc 5 (.seq 5 (l.map slotV)) (some (.int .i64 (i : Int))) (some (.int .i64 ((i + 1 : Nat) : Int))) = some (.seq 5 [slotV x]) := fun i x hx => by
    have hil := (List.getElem?_eq_some_iff.1 hx).1
    simp only [aslc, Option.getD_some, List.length_map]
    rw [if_pos (by simp), if_pos ⟨by omega, by omega, by omega⟩]
    rw [← List.map_drop, ← List.map_take, show ((i + 1 : Nat) : Int).toNat - (i : Int).toNat = 1 by omega, Int.toNat_natCast, drop_at hx]
    rfl
  have hbad : refGo [] l = none → os = [] ∧ ob = false := fun e => by
    rw [ho] at e
    subst e
    exact ⟨hos.symm, hob.symm⟩
  have hgood : ∀ m, refGo [] l = some m → os = m ∧ ob = true := fun m e => by
    rw [ho] at e
    subst e
    exact ⟨hos.symm, hob.symm⟩
  clear ho hos hob h1 h2 h3 hof
  refine at_loop (fun n st => ∃ (i : Nat) (m : List SlotT) (X : AV) (H : List (Nat × Box)), i + n = l.length ∧ st = ⟨131, [(0, .seq 5 (l.map slotV)), (1, iv v), (5, .seq 5 (os.map slotV)), (6, .bool ob), (7, X), (8, .bool true), (9, iv i)], H⟩ ∧
    ((X = .arr 7 0 0 ∧ m = [] ∧ H = [(7, ⟨true, t_api_Slot, 5, []⟩)]) ∨ (X = .seq 5 (m.map slotV) ∧ H = [])) ∧ m.length ≤ 8 ∧ refGo m (l.drop i) = refGo [] l) l.length ⟨0, [], _, _, by simp, rfl, .inl ⟨rfl, rfl, rfl⟩, by simp, rfl⟩ ?_
  rintro I hI n st ⟨i, m, X, H, hi, rfl, hX, hm8, hgo⟩
  simp -implicitDefEqProofs only [go_sem, Nat.reduceAdd, Nat.reduceSub, Nat.reduceMul, Nat.reduceLT, Nat.reduceLeDiff, Nat.reduceEqDiff, Nat.reduceBEq, Int.reduceNeg, Int.reduceAdd, Int.reduceLT, Int.reduceLE, Int.reduceToNat, Int.reduceEq, Int.reduceNe, Int.reduceBEq, Int.reduceBNe, Int.reduceMul, Int.reduceSub, reduceIte, reduceCtorEq, List.length_map]
  refine ⟨fun hlt => ?_, fun hge => ?_⟩
  · have hlt' : i < l.length := by omega
    obtain ⟨x, hx, _⟩ := at_some hlt'
    have hw := wrap_succ hlt' (by omega)
    rw [drop_at hx, refGo] at hgo
    have c1 := ref05_Get_pc (G := G) m (by omega) x.var
    have c2 := ref05_Right_pc (G := G) [x] (by simp)
    have c3 := ref05_Union_pc (G := G) m [x] (by omega) (by simp)
    have hsx := hsl i x hx
    have hun : (unionR m [x]).length ≤ 8 := unionN_len m [x] 8
    unfold badS at hgo
    generalize unionR m [x] = m2 at *
    generalize bindOk [x] = R1 at *
    generalize getR m x.var = r at *
    obtain ⟨v1, ⟨k1, n1, s1, t1⟩⟩ := x
    obtain ⟨⟨k2, n2, s2, t2⟩, o2⟩ := r
    simp only [slotsV, vbt, valV, slotV, List.map_cons, List.map_nil] at c1 c2 c3 hsx hgo
    obtain ⟨B, hB⟩ : ∃ B, (o2 && !decide ((⟨k2, n2, s2, t2⟩ : Val) = ⟨k1, n1, s1, t1⟩) || (decide (v1 < 0) || (decide (7 < v1) || !R1))) = B := ⟨_, rfl⟩
    rw [hB] at hgo
    have hnb : B = false → refGo m2 (l.drop (i + 1)) = refGo [] l := fun e => by rw [e] at hgo; simpa using hgo
    have hbb : B = true → os = [] ∧ ob = false := fun e => hbad (by rw [e] at hgo; simpa using hgo.symm)
    clear hgo
    rcases hX with ⟨rfl, rfl, rfl⟩ | ⟨rfl, rfl⟩
    · skip
      cases o2
      · (try (simp -implicitDefEqProofs only [go_sem, Nat.reduceAdd, Nat.reduceSub, Nat.reduceMul, Nat.reduceLT, Nat.reduceLeDiff, Nat.reduceEqDiff, Nat.reduceBEq, Int.reduceNeg, Int.reduceAdd, Int.reduceLT, Int.reduceLE, Int.reduceToNat, Int.reduceEq, Int.reduceNe, Int.reduceBEq, Int.reduceBNe, Int.reduceMul, Int.reduceSub, reduceIte, reduceCtorEq, aiaddr_map hx, slotV, valV, hw, hsx, List.length_map])); repeat' ((first | refine at_guard (fun hb => ?_) (fun hb => ?_) | refine ⟨fun hb => ?_, fun hb => ?_⟩ | refine at_call (c1) rfl rfl ?_ | refine at_call (c2) rfl rfl ?_ | refine at_call (c3) rfl rfl ?_ | refine at_call (ha) rfl rfl ?_ | fail) <;> (try (simp -implicitDefEqProofs only [go_sem, Nat.reduceAdd, Nat.reduceSub, Nat.reduceMul, Nat.reduceLT, Nat.reduceLeDiff, Nat.reduceEqDiff, Nat.reduceBEq, Int.reduceNeg, Int.reduceAdd, Int.reduceLT, Int.reduceLE, Int.reduceToNat, Int.reduceEq, Int.reduceNe, Int.reduceBEq, Int.reduceBNe, Int.reduceMul, Int.reduceSub, reduceIte, reduceCtorEq, aiaddr_map hx, slotV, valV, hw, hsx, List.length_map])))
        all_goals first
          | exact fin _
          | (refine at_again (n - 1) (by omega) (hI _ _ ⟨i + 1, m2, _, _, by omega, rfl, .inr ⟨rfl, rfl⟩, hun, hnb ?_⟩); clear hI hnb hbb c1 c2 c3 ha fin hsx hsl hbad hgood; subst hB; simp_all; done)
          | (exfalso; have hz := hbb (by clear hI hnb hbb c1 c2 c3 ha fin hsx hsl hbad hgood; subst hB; simp_all; done); clear hI hnb hbb c1 c2 c3 ha fin hsx hsl hbad hgood; obtain ⟨z1, z2⟩ := hz; subst z1 z2; simp_all; done)
      · have hxy : ((⟨k2, n2, s2, t2⟩ : Val) == ⟨k1, n1, s1, t1⟩) = (k2 == k1 && (n2 == n1 && (s2 == s1 && t2 == t1))) := val_beq _ _ _ _ _ _ _ _
        cases hE : ((⟨k2, n2, s2, t2⟩ : Val) == ⟨k1, n1, s1, t1⟩) with
        | true =>
          rw [hE] at hxy
          have hEd : decide ((⟨k2, n2, s2, t2⟩ : Val) = ⟨k1, n1, s1, t1⟩) = true := by simpa using hE
          rw [hEd] at hB
          clear hEd
          (try (simp -implicitDefEqProofs only [go_sem, Nat.reduceAdd, Nat.reduceSub, Nat.reduceMul, Nat.reduceLT, Nat.reduceLeDiff, Nat.reduceEqDiff, Nat.reduceBEq, Int.reduceNeg, Int.reduceAdd, Int.reduceLT, Int.reduceLE, Int.reduceToNat, Int.reduceEq, Int.reduceNe, Int.reduceBEq, Int.reduceBNe, Int.reduceMul, Int.reduceSub, reduceIte, reduceCtorEq, aiaddr_map hx, slotV, valV, hw, hsx, List.length_map, aeqA, aeqs, leafEq, andO, Bool.and_true, ← hxy, Bool.not_true])); repeat' ((first | refine at_guard (fun hb => ?_) (fun hb => ?_) | refine ⟨fun hb => ?_, fun hb => ?_⟩ | refine at_call (c1) rfl rfl ?_ | refine at_call (c2) rfl rfl ?_ | refine at_call (c3) rfl rfl ?_ | refine at_call (ha) rfl rfl ?_ | fail) <;> (try (simp -implicitDefEqProofs only [go_sem, Nat.reduceAdd, Nat.reduceSub, Nat.reduceMul, Nat.reduceLT, Nat.reduceLeDiff, Nat.reduceEqDiff, Nat.reduceBEq, Int.reduceNeg, Int.reduceAdd, Int.reduceLT, Int.reduceLE, Int.reduceToNat, Int.reduceEq, Int.reduceNe, Int.reduceBEq, Int.reduceBNe, Int.reduceMul, Int.reduceSub, reduceIte, reduceCtorEq, aiaddr_map hx, slotV, valV, hw, hsx, List.length_map, aeqA, aeqs, leafEq, andO, Bool.and_true, ← hxy, Bool.not_true])))
          all_goals first
            | exact fin _
            | (refine at_again (n - 1) (by omega) (hI _ _ ⟨i + 1, m2, _, _, by omega, rfl, .inr ⟨rfl, rfl⟩, hun, hnb ?_⟩); clear hI hnb hbb c1 c2 c3 ha fin hsx hsl hbad hgood; subst hB; simp_all; done)
            | (exfalso; have hz := hbb (by clear hI hnb hbb c1 c2 c3 ha fin hsx hsl hbad hgood; subst hB; simp_all; done); clear hI hnb hbb c1 c2 c3 ha fin hsx hsl hbad hgood; obtain ⟨z1, z2⟩ := hz; subst z1 z2; simp_all; done)
        | false =>
          rw [hE] at hxy
          have hEd : decide ((⟨k2, n2, s2, t2⟩ : Val) = ⟨k1, n1, s1, t1⟩) = false := by simpa using hE
          rw [hEd] at hB
          clear hEd
          (try (simp -implicitDefEqProofs only [go_sem, Nat.reduceAdd, Nat.reduceSub, Nat.reduceMul, Nat.reduceLT, Nat.reduceLeDiff, Nat.reduceEqDiff, Nat.reduceBEq, Int.reduceNeg, Int.reduceAdd, Int.reduceLT, Int.reduceLE, Int.reduceToNat, Int.reduceEq, Int.reduceNe, Int.reduceBEq, Int.reduceBNe, Int.reduceMul, Int.reduceSub, reduceIte, reduceCtorEq, aiaddr_map hx, slotV, valV, hw, hsx, List.length_map, aeqA, aeqs, leafEq, andO, Bool.and_true, ← hxy, Bool.not_false])); repeat' ((first | refine at_guard (fun hb => ?_) (fun hb => ?_) | refine ⟨fun hb => ?_, fun hb => ?_⟩ | refine at_call (c1) rfl rfl ?_ | refine at_call (c2) rfl rfl ?_ | refine at_call (c3) rfl rfl ?_ | refine at_call (ha) rfl rfl ?_ | fail) <;> (try (simp -implicitDefEqProofs only [go_sem, Nat.reduceAdd, Nat.reduceSub, Nat.reduceMul, Nat.reduceLT, Nat.reduceLeDiff, Nat.reduceEqDiff, Nat.reduceBEq, Int.reduceNeg, Int.reduceAdd, Int.reduceLT, Int.reduceLE, Int.reduceToNat, Int.reduceEq, Int.reduceNe, Int.reduceBEq, Int.reduceBNe, Int.reduceMul, Int.reduceSub, reduceIte, reduceCtorEq, aiaddr_map hx, slotV, valV, hw, hsx, List.length_map, aeqA, aeqs, leafEq, andO, Bool.and_true, ← hxy, Bool.not_false])))
          all_goals first
            | exact fin _
            | (refine at_again (n - 1) (by omega) (hI _ _ ⟨i + 1, m2, _, _, by omega, rfl, .inr ⟨rfl, rfl⟩, hun, hnb ?_⟩); clear hI hnb hbb c1 c2 c3 ha fin hsx hsl hbad hgood; subst hB; simp_all; done)
            | (exfalso; have hz := hbb (by clear hI hnb hbb c1 c2 c3 ha fin hsx hsl hbad hgood; subst hB; simp_all; done); clear hI hnb hbb c1 c2 c3 ha fin hsx hsl hbad hgood; obtain ⟨z1, z2⟩ := hz; subst z1 z2; simp_all; done)
    · skip
      cases o2
      · (try (simp -implicitDefEqProofs only [go_sem, Nat.reduceAdd, Nat.reduceSub, Nat.reduceMul, Nat.reduceLT, Nat.reduceLeDiff, Nat.reduceEqDiff, Nat.reduceBEq, Int.reduceNeg, Int.reduceAdd, Int.reduceLT, Int.reduceLE, Int.reduceToNat, Int.reduceEq, Int.reduceNe, Int.reduceBEq, Int.reduceBNe, Int.reduceMul, Int.reduceSub, reduceIte, reduceCtorEq, aiaddr_map hx, slotV, valV, hw, hsx, List.length_map])); repeat' ((first | refine at_guard (fun hb => ?_) (fun hb => ?_) | refine ⟨fun hb => ?_, fun hb => ?_⟩ | refine at_call (c1) rfl rfl ?_ | refine at_call (c2) rfl rfl ?_ | refine at_call (c3) rfl rfl ?_ | refine at_call (ha) rfl rfl ?_ | fail) <;> (try (simp -implicitDefEqProofs only [go_sem, Nat.reduceAdd, Nat.reduceSub, Nat.reduceMul, Nat.reduceLT, Nat.reduceLeDiff, Nat.reduceEqDiff, Nat.reduceBEq, Int.reduceNeg, Int.reduceAdd, Int.reduceLT, Int.reduceLE, Int.reduceToNat, Int.reduceEq, Int.reduceNe, Int.reduceBEq, Int.reduceBNe, Int.reduceMul, Int.reduceSub, reduceIte, reduceCtorEq, aiaddr_map hx, slotV, valV, hw, hsx, List.length_map])))
        all_goals first
          | exact fin _
          | (refine at_again (n - 1) (by omega) (hI _ _ ⟨i + 1, m2, _, _, by omega, rfl, .inr ⟨rfl, rfl⟩, hun, hnb ?_⟩); clear hI hnb hbb c1 c2 c3 ha fin hsx hsl hbad hgood; subst hB; simp_all; done)
          | (exfalso; have hz := hbb (by clear hI hnb hbb c1 c2 c3 ha fin hsx hsl hbad hgood; subst hB; simp_all; done); clear hI hnb hbb c1 c2 c3 ha fin hsx hsl hbad hgood; obtain ⟨z1, z2⟩ := hz; subst z1 z2; simp_all; done)
      · have hxy : ((⟨k2, n2, s2, t2⟩ : Val) == ⟨k1, n1, s1, t1⟩) = (k2 == k1 && (n2 == n1 && (s2 == s1 && t2 == t1))) := val_beq _ _ _ _ _ _ _ _
        cases hE : ((⟨k2, n2, s2, t2⟩ : Val) == ⟨k1, n1, s1, t1⟩) with
        | true =>
          rw [hE] at hxy
          have hEd : decide ((⟨k2, n2, s2, t2⟩ : Val) = ⟨k1, n1, s1, t1⟩) = true := by simpa using hE
          rw [hEd] at hB
          clear hEd
          (try (simp -implicitDefEqProofs only [go_sem, Nat.reduceAdd, Nat.reduceSub, Nat.reduceMul, Nat.reduceLT, Nat.reduceLeDiff, Nat.reduceEqDiff, Nat.reduceBEq, Int.reduceNeg, Int.reduceAdd, Int.reduceLT, Int.reduceLE, Int.reduceToNat, Int.reduceEq, Int.reduceNe, Int.reduceBEq, Int.reduceBNe, Int.reduceMul, Int.reduceSub, reduceIte, reduceCtorEq, aiaddr_map hx, slotV, valV, hw, hsx, List.length_map, aeqA, aeqs, leafEq, andO, Bool.and_true, ← hxy, Bool.not_true])); repeat' ((first | refine at_guard (fun hb => ?_) (fun hb => ?_) | refine ⟨fun hb => ?_, fun hb => ?_⟩ | refine at_call (c1) rfl rfl ?_ | refine at_call (c2) rfl rfl ?_ | refine at_call (c3) rfl rfl ?_ | refine at_call (ha) rfl rfl ?_ | fail) <;> (try (simp -implicitDefEqProofs only [go_sem, Nat.reduceAdd, Nat.reduceSub, Nat.reduceMul, Nat.reduceLT, Nat.reduceLeDiff, Nat.reduceEqDiff, Nat.reduceBEq, Int.reduceNeg, Int.reduceAdd, Int.reduceLT, Int.reduceLE, Int.reduceToNat, Int.reduceEq, Int.reduceNe, Int.reduceBEq, Int.reduceBNe, Int.reduceMul, Int.reduceSub, reduceIte, reduceCtorEq, aiaddr_map hx, slotV, valV, hw, hsx, List.length_map, aeqA, aeqs, leafEq, andO, Bool.and_true, ← hxy, Bool.not_true])))
          all_goals first
            | exact fin _
            | (refine at_again (n - 1) (by omega) (hI _ _ ⟨i + 1, m2, _, _, by omega, rfl, .inr ⟨rfl, rfl⟩, hun, hnb ?_⟩); clear hI hnb hbb c1 c2 c3 ha fin hsx hsl hbad hgood; subst hB; simp_all; done)
            | (exfalso; have hz := hbb (by clear hI hnb hbb c1 c2 c3 ha fin hsx hsl hbad hgood; subst hB; simp_all; done); clear hI hnb hbb c1 c2 c3 ha fin hsx hsl hbad hgood; obtain ⟨z1, z2⟩ := hz; subst z1 z2; simp_all; done)
        | false =>
          rw [hE] at hxy
          have hEd : decide ((⟨k2, n2, s2, t2⟩ : Val) = ⟨k1, n1, s1, t1⟩) = false := by simpa using hE
          rw [hEd] at hB
          clear hEd
          (try (simp -implicitDefEqProofs only [go_sem, Nat.reduceAdd, Nat.reduceSub, Nat.reduceMul, Nat.reduceLT, Nat.reduceLeDiff, Nat.reduceEqDiff, Nat.reduceBEq, Int.reduceNeg, Int.reduceAdd, Int.reduceLT, Int.reduceLE, Int.reduceToNat, Int.reduceEq, Int.reduceNe, Int.reduceBEq, Int.reduceBNe, Int.reduceMul, Int.reduceSub, reduceIte, reduceCtorEq, aiaddr_map hx, slotV, valV, hw, hsx, List.length_map, aeqA, aeqs, leafEq, andO, Bool.and_true, ← hxy, Bool.not_false])); repeat' ((first | refine at_guard (fun hb => ?_) (fun hb => ?_) | refine ⟨fun hb => ?_, fun hb => ?_⟩ | refine at_call (c1) rfl rfl ?_ | refine at_call (c2) rfl rfl ?_ | refine at_call (c3) rfl rfl ?_ | refine at_call (ha) rfl rfl ?_ | fail) <;> (try (simp -implicitDefEqProofs only [go_sem, Nat.reduceAdd, Nat.reduceSub, Nat.reduceMul, Nat.reduceLT, Nat.reduceLeDiff, Nat.reduceEqDiff, Nat.reduceBEq, Int.reduceNeg, Int.reduceAdd, Int.reduceLT, Int.reduceLE, Int.reduceToNat, Int.reduceEq, Int.reduceNe, Int.reduceBEq, Int.reduceBNe, Int.reduceMul, Int.reduceSub, reduceIte, reduceCtorEq, aiaddr_map hx, slotV, valV, hw, hsx, List.length_map, aeqA, aeqs, leafEq, andO, Bool.and_true, ← hxy, Bool.not_false])))
          all_goals first
            | exact fin _
            | (refine at_again (n - 1) (by omega) (hI _ _ ⟨i + 1, m2, _, _, by omega, rfl, .inr ⟨rfl, rfl⟩, hun, hnb ?_⟩); clear hI hnb hbb c1 c2 c3 ha fin hsx hsl hbad hgood; subst hB; simp_all; done)
            | (exfalso; have hz := hbb (by clear hI hnb hbb c1 c2 c3 ha fin hsx hsl hbad hgood; subst hB; simp_all; done); clear hI hnb hbb c1 c2 c3 ha fin hsx hsl hbad hgood; obtain ⟨z1, z2⟩ := hz; subst z1 z2; simp_all; done)
  · have hd : l.drop i = [] := List.drop_of_length_le (by omega)
    rw [hd, refGo] at hgo
    obtain ⟨e1, e2⟩ := hgood m hgo.symm
    subst e1 e2
    have c1 := binding_Get_pc (G := G) os (by omega) v
    have c2 := ref05_Get_pc (G := G) os (by omega) v
    have c3 := ref05_Same_pc (G := G) os os (by omega) (by omega)
    rw [decide_eq_true rfl] at c3
    generalize getR os v = r at *
    obtain ⟨⟨k2, n2, s2, t2⟩, o2⟩ := r
    simp only [slotsV, vbt, valV] at c1 c2 c3
    have hxy : ((⟨k2, n2, s2, t2⟩ : Val) == ⟨k2, n2, s2, t2⟩) = (k2 == k2 && (n2 == n2 && (s2 == s2 && t2 == t2))) := val_beq _ _ _ _ _ _ _ _
    rw [beq_self_eq_true] at hxy
    rcases hX with ⟨rfl, rfl, rfl⟩ | ⟨rfl, rfl⟩
    · (try (simp -implicitDefEqProofs only [go_sem, Nat.reduceAdd, Nat.reduceSub, Nat.reduceMul, Nat.reduceLT, Nat.reduceLeDiff, Nat.reduceEqDiff, Nat.reduceBEq, Int.reduceNeg, Int.reduceAdd, Int.reduceLT, Int.reduceLE, Int.reduceToNat, Int.reduceEq, Int.reduceNe, Int.reduceBEq, Int.reduceBNe, Int.reduceMul, Int.reduceSub, reduceIte, reduceCtorEq, slotV, valV, aeqA, aeqs, leafEq, andO, Bool.and_true, ← hxy])); repeat' ((first | refine at_guard (fun hb => ?_) (fun hb => ?_) | refine ⟨fun hb => ?_, fun hb => ?_⟩ | refine at_call (c1) rfl rfl ?_ | refine at_call (c2) rfl rfl ?_ | refine at_call (c3) rfl rfl ?_ | refine at_call (ha) rfl rfl ?_ | fail) <;> (try (simp -implicitDefEqProofs only [go_sem, Nat.reduceAdd, Nat.reduceSub, Nat.reduceMul, Nat.reduceLT, Nat.reduceLeDiff, Nat.reduceEqDiff, Nat.reduceBEq, Int.reduceNeg, Int.reduceAdd, Int.reduceLT, Int.reduceLE, Int.reduceToNat, Int.reduceEq, Int.reduceNe, Int.reduceBEq, Int.reduceBNe, Int.reduceMul, Int.reduceSub, reduceIte, reduceCtorEq, slotV, valV, aeqA, aeqs, leafEq, andO, Bool.and_true, ← hxy])))
      all_goals first
        | exact fin _
    · (try (simp -implicitDefEqProofs only [go_sem, Nat.reduceAdd, Nat.reduceSub, Nat.reduceMul, Nat.reduceLT, Nat.reduceLeDiff, Nat.reduceEqDiff, Nat.reduceBEq, Int.reduceNeg, Int.reduceAdd, Int.reduceLT, Int.reduceLE, Int.reduceToNat, Int.reduceEq, Int.reduceNe, Int.reduceBEq, Int.reduceBNe, Int.reduceMul, Int.reduceSub, reduceIte, reduceCtorEq, slotV, valV, aeqA, aeqs, leafEq, andO, Bool.and_true, ← hxy])); repeat' ((first | refine at_guard (fun hb => ?_) (fun hb => ?_) | refine ⟨fun hb => ?_, fun hb => ?_⟩ | refine at_call (c1) rfl rfl ?_ | refine at_call (c2) rfl rfl ?_ | refine at_call (c3) rfl rfl ?_ | refine at_call (ha) rfl rfl ?_ | fail) <;> (try (simp -implicitDefEqProofs only [go_sem, Nat.reduceAdd, Nat.reduceSub, Nat.reduceMul, Nat.reduceLT, Nat.reduceLeDiff, Nat.reduceEqDiff, Nat.reduceBEq, Int.reduceNeg, Int.reduceAdd, Int.reduceLT, Int.reduceLE, Int.reduceToNat, Int.reduceEq, Int.reduceNe, Int.reduceBEq, Int.reduceBNe, Int.reduceMul, Int.reduceSub, reduceIte, reduceCtorEq, slotV, valV, aeqA, aeqs, leafEq, andO, Bool.and_true, ← hxy])))
      all_goals first
        | exact fin _
end Go.Proofs.Ytngjjiblmpjbjaa.Ab
