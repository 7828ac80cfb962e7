/-
  The law ConfigPairs. No claim is proved here.
-/
import Derived.Test.YtdfdiglnpekcpabDoorWT8
import Derived.Test.YtdfdiglnpekcpabDoorWC6
namespace Go.Proofs.YtdfdiglnpekcpabDoor.Ab
open Nat renaming reduceAdd → zq0, reduceSub → zq1, reduceMul → zq2, reduceLT → zq3, reduceLeDiff → zq4, reduceEqDiff → zq5, reduceBEq → zq6
open Int renaming reduceNeg → zq7, reduceAdd → zq8, reduceLT → zq9, reduceLE → zq10, reduceToNat → zq11, reduceEq → zq12, reduceNe → zq13, reduceBEq → zq14, reduceBNe → zq15, reduceMul → zq16, reduceSub → zq17
open Go Go.RowKit
set_option linter.unusedSimpArgs false
set_option maxHeartbeats 4000000
set_option maxRecDepth 100000
variable {G : Nat → Option AV}
/-- What the law's sets are like. -/
structure SetOK (q : QeaT) (a : List CfgT) : Prop where
  len : a.length ≤ 20
  right : ∀ c ∈ a, cfgR q c = true
  key : ∀ c ∈ a, c.Key ∧ c.vals.length = q.frees.length
  sm : ∀ c ∈ a, c.Sm
  st : ∀ c ∈ a, c.St
theorem few_states {q : QeaT} (h : fewQ q = true) : q.states.length ≤ 12 := by
  unfold fewQ fewTop at h
  simp only [Bool.and_eq_true, decide_eq_true_eq] at h
  have := h.1.2.2.2.1
  omega
theorem setOK {q : QeaT} {l : List CfgT} (h : small18 q l = true) (h64 : ∀ c ∈ l, ∀ v ∈ c.vals, i64 v.int) : SetOK q (ofR (l.filter (cfgR q))) ∧ (∀ x ∈ l.filter (cfgR q), x.Sm) := by
  unfold small18 at h
  simp only [Bool.and_eq_true, decide_eq_true_eq] at h
  obtain ⟨hq, hl, hs, hr⟩ := h
  have hfew := few_of q hq
  have hsh : ∀ c ∈ l, c.vals.length ≤ 20 ∧ ∀ v ∈ c.vals, v.str.length ≤ 1000 := fun c hc => by
    obtain ⟨i, hi⟩ := List.getElem?_of_mem hc
    have h1 := allI_true.1 hs i c hi
    simp only [Bool.and_eq_true, decide_eq_true_eq] at h1
    refine ⟨by omega, fun v hv => ?_⟩
    obtain ⟨j, hj⟩ := List.getElem?_of_mem hv
    have h2 := allI_true.1 h1.2 j v hj
    simp only [decide_eq_true_eq] at h2
    omega
  have hmem : ∀ c ∈ ofR (l.filter (cfgR q)), c ∈ l ∧ cfgR q c = true := fun c hc => by
    rcases ofR_mem hc with h | h
    · cases h
    · exact List.mem_filter.1 h
  have hsm : ∀ c ∈ l, c.Sm := fun c hc => ⟨by have := (hsh c hc).1; omega, fun v hv => by have := (hsh c hc).2 v hv; omega⟩
  have hstn : (q.states.length : Int) ≤ 12 := by have := few_states hq; omega
  refine ⟨⟨?_, fun c hc => (hmem c hc).2, fun c hc => ?_, fun c hc => hsm c (hmem c hc).1, fun c hc => ?_⟩, fun x hx => hsm x (List.mem_filter.1 hx).1⟩
  · have h1 := ofR_len (l.filter (cfgR q)) []
    have h2 := List.length_filter_le (cfgR q) l
    unfold ofR
    simp only [List.length_nil] at h1
    omega
  · obtain ⟨h1, h2⟩ := hmem c hc
    unfold cfgR at h2
    simp only [Bool.and_eq_true, decide_eq_true_eq] at h2
    obtain ⟨a1, a2⟩ := fitsR_at h2.2.2
    refine ⟨⟨h2.1, by omega, by have := (hsh c h1).1; omega, fun v hv => ?_⟩, a1⟩
    obtain ⟨j, hj⟩ := List.getElem?_of_mem hv
    have hjl := (List.getElem?_eq_some_iff.1 hj).1
    obtain ⟨f, hf, _⟩ := at_some (l := q.frees) (i := j) (by omega)
    exact ⟨(a2 j v f hj hf).1, h64 c h1 v hv, (hsh c h1).2 v hv⟩
  · obtain ⟨h1, h2⟩ := hmem c hc
    unfold cfgR at h2
    simp only [Bool.and_eq_true, decide_eq_true_eq] at h2
    exact ⟨h2.1, by omega, by have := (hsh c h1).1; omega⟩
theorem law18_ConfigPairs_pc (hG : G 4 = some (.agg (Lib.pow10Tab.map (AV.int .u64)))) (q : QeaT) (l m : List CfgT) (hl64 : ∀ c ∈ l, ∀ v ∈ c.vals, i64 v.int) (hm64 : ∀ c ∈ m, ∀ v ∈ c.vals, i64 v.int) : PureC Tryd.prog G n_proctorlaw18_ConfigPairs [qeaV q, cfgsV l, cfgsV m] (.bool true) := by
  have ha := law18_awake_pc hG
  have hs1 := law18_small_pc (G := G) q l
  have hs2 := law18_small_pc (G := G) q m
  refine pc_proctorlaw18_ConfigPairs (Runs.of fun Φ h => ?_)
  unfold c_proctorlaw18_ConfigPairs
  cases h1 : small18 q l with
  | false =>
    rw [h1] at hs1
    simp only [qeaV, declsV, quantsV, freesV, statesV, symsV, nodesV, transsV, cfgsV] at hs1
    (try (simp -implicitDefEqProofs only [go_sem, zq0, zq1, zq2, zq3, zq4, zq5, zq6, zq7, zq8, zq9, zq10, zq11, zq12, zq13, zq14, zq15, zq16, zq17, reduceIte, reduceCtorEq, qeaV, declsV, quantsV, freesV, statesV, symsV, nodesV, transsV, cfgsV])); repeat' ((first | refine at_guard (fun hb => ?_) (fun hb => ?_) | refine ⟨fun hb => ?_, fun hb => ?_⟩ | refine at_call (hs1) rfl rfl ?_ | refine at_call (ha) rfl rfl ?_ | fail) <;> (try (simp -implicitDefEqProofs only [go_sem, zq0, zq1, zq2, zq3, zq4, zq5, zq6, zq7, zq8, zq9, zq10, zq11, zq12, zq13, zq14, zq15, zq16, zq17, reduceIte, reduceCtorEq, qeaV, declsV, quantsV, freesV, statesV, symsV, nodesV, transsV, cfgsV])))
    exact h _ ⟨_, _, rfl, rfl, .refl _⟩
  | true =>
    cases h2 : small18 q m with
    | false =>
      rw [h1] at hs1
      rw [h2] at hs2
      simp only [qeaV, declsV, quantsV, freesV, statesV, symsV, nodesV, transsV, cfgsV] at hs1 hs2
      (try (simp -implicitDefEqProofs only [go_sem, zq0, zq1, zq2, zq3, zq4, zq5, zq6, zq7, zq8, zq9, zq10, zq11, zq12, zq13, zq14, zq15, zq16, zq17, reduceIte, reduceCtorEq, qeaV, declsV, quantsV, freesV, statesV, symsV, nodesV, transsV, cfgsV])); repeat' ((first | refine at_guard (fun hb => ?_) (fun hb => ?_) | refine ⟨fun hb => ?_, fun hb => ?_⟩ | refine at_call (hs1) rfl rfl ?_ | refine at_call (hs2) rfl rfl ?_ | refine at_call (ha) rfl rfl ?_ | fail) <;> (try (simp -implicitDefEqProofs only [go_sem, zq0, zq1, zq2, zq3, zq4, zq5, zq6, zq7, zq8, zq9, zq10, zq11, zq12, zq13, zq14, zq15, zq16, zq17, reduceIte, reduceCtorEq, qeaV, declsV, quantsV, freesV, statesV, symsV, nodesV, transsV, cfgsV])))
      exact h _ ⟨_, _, rfl, rfl, .refl _⟩
    | true =>
      obtain ⟨oa, sa⟩ := setOK h1 hl64
      obtain ⟨ob, sb⟩ := setOK h2 hm64
      have hb : ∀ {l : List CfgT}, small18 q l = true → l.length ≤ 20 ∧ (∀ c ∈ l, c.vals.length ≤ 1000) ∧ q.frees.length < 9223372036854775807 := fun {l} h => by
        unfold small18 at h
        simp only [Bool.and_eq_true, decide_eq_true_eq] at h
        obtain ⟨hq, hl, hs, hr⟩ := h
        have hfew := few_of q hq
        refine ⟨by omega, fun c hc => ?_, by have := hfew.frees; omega⟩
        obtain ⟨i, hi⟩ := List.getElem?_of_mem hc
        have h1 := allI_true.1 hs i c hi
        simp only [Bool.and_eq_true, decide_eq_true_eq] at h1
        omega
      obtain ⟨b1, b2, b3⟩ := hb h1
      obtain ⟨b4, b5, _⟩ := hb h2
      have hf1 : (l.filter (cfgR q)).length ≤ 100 := by have := List.length_filter_le (cfgR q) l; omega
      have hf2 : (m.filter (cfgR q)).length ≤ 100 := by have := List.length_filter_le (cfgR q) m; omega
      have hr1 := law18_rights_pc (G := G) q l (by omega) b2 b3
      have hr2 := law18_rights_pc (G := G) q m (by omega) b5 b3
      have ho1 := ref18_Of_pc (G := G) (l.filter (cfgR q)) hf1 sa
      have ho2 := ref18_Of_pc (G := G) (m.filter (cfgR q)) hf2 sb
      have hsm := ref18_Same_pc (G := G) _ _ oa.sm ob.sm (by have := oa.len; omega)
      have hcs := config_Same_pc (G := G) (ofR (l.filter (cfgR q))) (ofR (m.filter (cfgR q))) (fun c hc => (oa.sm c hc).1) (fun c hc => (ob.sm c hc).1) (by have := oa.len; omega)
      rw [same_eq oa.right ob.right] at hsm
      have hk1 := config_Key_pc (G := G) (ofR (l.filter (cfgR q))) (by have := oa.len; omega) fun c hc => (oa.key c hc).1
      have hk2 := config_Key_pc (G := G) (ofR (m.filter (cfgR q))) (by have := ob.len; omega) fun c hc => (ob.key c hc).1
      have hke : (keySet (ofR (l.filter (cfgR q))) == keySet (ofR (m.filter (cfgR q)))) = decide (ofR (l.filter (cfgR q)) = ofR (m.filter (cfgR q))) := by
        rw [Bool.eq_iff_iff, beq_iff_eq, decide_eq_true_eq]
        exact ⟨fun e => keySet_inj oa.key ob.key e, fun e => by rw [e]⟩
      rw [h1] at hs1
      rw [h2] at hs2
      clear h1 h2 sa sb hl64 hm64 b1 b2 b3 b4 b5 hf1 hf2 hb
      generalize l.filter (cfgR q) = lf at *
      generalize m.filter (cfgR q) = mf at *
      generalize ofR lf = a at *
      generalize ofR mf = b at *
      generalize hβ : decide (a = b) = β at *
      generalize keySet a = ka at *
      generalize keySet b = kb at *
      have hal := oa.len
      have hbl := ob.len
      simp only [qeaV, declsV, quantsV, freesV, statesV, symsV, nodesV, transsV, cfgsV] at hs1 hs2 hr1 hr2 ho1 ho2 hsm hcs hk1 hk2
      (try (simp -implicitDefEqProofs only [go_sem, zq0, zq1, zq2, zq3, zq4, zq5, zq6, zq7, zq8, zq9, zq10, zq11, zq12, zq13, zq14, zq15, zq16, zq17, reduceIte, reduceCtorEq, qeaV, declsV, quantsV, freesV, statesV, symsV, nodesV, transsV, cfgsV])); repeat' ((first | refine at_guard (fun hb => ?_) (fun hb => ?_) | refine ⟨fun hb => ?_, fun hb => ?_⟩ | refine at_call (hs1) rfl rfl ?_ | refine at_call (hs2) rfl rfl ?_ | refine at_call (hr1) rfl rfl ?_ | refine at_call (hr2) rfl rfl ?_ | refine at_call (ho1) rfl rfl ?_ | refine at_call (ho2) rfl rfl ?_ | fail) <;> (try (simp -implicitDefEqProofs only [go_sem, zq0, zq1, zq2, zq3, zq4, zq5, zq6, zq7, zq8, zq9, zq10, zq11, zq12, zq13, zq14, zq15, zq16, zq17, reduceIte, reduceCtorEq, qeaV, declsV, quantsV, freesV, statesV, symsV, nodesV, transsV, cfgsV])))
      refine at_loop (fun n st => ∃ i : Nat, i + n = a.length ∧ st = ⟨82, [(7, .seq 2 (a.map cfgV)), (8, .seq 2 (b.map cfgV)), (9, iv i)], [(3, ⟨false, t_api_Qea, 9, [qeaV q]⟩)]⟩) a.length ⟨0, by simp, rfl⟩ ?_
      rintro I hI n st ⟨i, hi, rfl⟩
      simp -implicitDefEqProofs only [go_sem, zq0, zq1, zq2, zq3, zq4, zq5, zq6, zq7, zq8, zq9, zq10, zq11, zq12, zq13, zq14, zq15, zq16, zq17, reduceIte, reduceCtorEq, List.length_map]
      refine ⟨fun hlt => ?_, fun hge => ?_⟩
      · have hlt' : i < a.length := by omega
        obtain ⟨x, hx, hxm⟩ := at_some hlt'
        have hw := wrap_succ hlt' (by omega)
        try (simp -implicitDefEqProofs only [go_sem, zq0, zq1, zq2, zq3, zq4, zq5, zq6, zq7, zq8, zq9, zq10, zq11, zq12, zq13, zq14, zq15, zq16, zq17, reduceIte, reduceCtorEq])
        refine at_loop (fun n' st => ∃ k : Nat, k + n' = b.length ∧ st = ⟨82, [(7, .seq 2 (a.map cfgV)), (8, .seq 2 (b.map cfgV)), (9, iv i), (10, iv k)], [(3, ⟨false, t_api_Qea, 9, [qeaV q]⟩)]⟩) b.length ⟨0, by simp, rfl⟩ ?_
        rintro I' hI' n' st ⟨k, hk, rfl⟩
        simp -implicitDefEqProofs only [go_sem, zq0, zq1, zq2, zq3, zq4, zq5, zq6, zq7, zq8, zq9, zq10, zq11, zq12, zq13, zq14, zq15, zq16, zq17, reduceIte, reduceCtorEq, List.length_map]
        refine ⟨fun hlt2 => ?_, fun hge => ?_⟩
        · have hlt2' : k < b.length := by omega
          obtain ⟨y, hy, hym⟩ := at_some hlt2'
          have hw2 := wrap_succ hlt2' (by omega)
          have hc1 := config_Less_pc (G := G) x y (oa.st x hxm) (ob.st y hym)
          have hc2 := ref18_Less_pc (G := G) x y (oa.sm x hxm).2 (oa.sm x hxm).1 (ob.sm y hym).1
          generalize cfgLess x y = z at *
          obtain ⟨x1, x2⟩ := x
          obtain ⟨y1, y2⟩ := y
          simp only [cfgV] at hc1 hc2
          (try (simp -implicitDefEqProofs only [go_sem, zq0, zq1, zq2, zq3, zq4, zq5, zq6, zq7, zq8, zq9, zq10, zq11, zq12, zq13, zq14, zq15, zq16, zq17, reduceIte, reduceCtorEq, aiaddr_map hx, aiaddr_map hy, cfgV, hw2])); repeat' ((first | refine at_guard (fun hb => ?_) (fun hb => ?_) | refine ⟨fun hb => ?_, fun hb => ?_⟩ | refine at_call (hc1) rfl rfl ?_ | refine at_call (hc2) rfl rfl ?_ | fail) <;> (try (simp -implicitDefEqProofs only [go_sem, zq0, zq1, zq2, zq3, zq4, zq5, zq6, zq7, zq8, zq9, zq10, zq11, zq12, zq13, zq14, zq15, zq16, zq17, reduceIte, reduceCtorEq, aiaddr_map hx, aiaddr_map hy, cfgV, hw2])))
          all_goals first
            | exact at_again (n' - 1) (by omega) (hI' _ _ ⟨k + 1, by omega, rfl⟩)
            | (exfalso; simp_all; done)
        · (try (simp -implicitDefEqProofs only [go_sem, zq0, zq1, zq2, zq3, zq4, zq5, zq6, zq7, zq8, zq9, zq10, zq11, zq12, zq13, zq14, zq15, zq16, zq17, reduceIte, reduceCtorEq, hw])); repeat' ((first | refine at_guard (fun hb => ?_) (fun hb => ?_) | refine ⟨fun hb => ?_, fun hb => ?_⟩ | fail) <;> (try (simp -implicitDefEqProofs only [go_sem, zq0, zq1, zq2, zq3, zq4, zq5, zq6, zq7, zq8, zq9, zq10, zq11, zq12, zq13, zq14, zq15, zq16, zq17, reduceIte, reduceCtorEq, hw])))
          exact at_again (n - 1) (by omega) (hI _ _ ⟨i + 1, by omega, rfl⟩)
      · cases β
        · (try (simp -implicitDefEqProofs only [go_sem, zq0, zq1, zq2, zq3, zq4, zq5, zq6, zq7, zq8, zq9, zq10, zq11, zq12, zq13, zq14, zq15, zq16, zq17, reduceIte, reduceCtorEq, hke])); repeat' ((first | refine at_guard (fun hb => ?_) (fun hb => ?_) | refine ⟨fun hb => ?_, fun hb => ?_⟩ | refine at_call (hsm) rfl rfl ?_ | refine at_call (hcs) rfl rfl ?_ | refine at_call (hk1) rfl rfl ?_ | refine at_call (hk2) rfl rfl ?_ | refine at_call (ha) rfl rfl ?_ | fail) <;> (try (simp -implicitDefEqProofs only [go_sem, zq0, zq1, zq2, zq3, zq4, zq5, zq6, zq7, zq8, zq9, zq10, zq11, zq12, zq13, zq14, zq15, zq16, zq17, reduceIte, reduceCtorEq, hke])))
          exact h _ ⟨_, _, rfl, rfl, .refl _⟩
        · (try (simp -implicitDefEqProofs only [go_sem, zq0, zq1, zq2, zq3, zq4, zq5, zq6, zq7, zq8, zq9, zq10, zq11, zq12, zq13, zq14, zq15, zq16, zq17, reduceIte, reduceCtorEq, hke])); repeat' ((first | refine at_guard (fun hb => ?_) (fun hb => ?_) | refine ⟨fun hb => ?_, fun hb => ?_⟩ | refine at_call (hsm) rfl rfl ?_ | refine at_call (hcs) rfl rfl ?_ | refine at_call (hk1) rfl rfl ?_ | refine at_call (hk2) rfl rfl ?_ | refine at_call (ha) rfl rfl ?_ | fail) <;> (try (simp -implicitDefEqProofs only [go_sem, zq0, zq1, zq2, zq3, zq4, zq5, zq6, zq7, zq8, zq9, zq10, zq11, zq12, zq13, zq14, zq15, zq16, zq17, reduceIte, reduceCtorEq, hke])))
          exact h _ ⟨_, _, rfl, rfl, .refl _⟩
end Go.Proofs.YtdfdiglnpekcpabDoor.Ab
