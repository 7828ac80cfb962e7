/-
  proctorlaw42.ReportTexts: true, whatever the outcome, whose numbers are numbers. No claim is proved here.
-/
import Derived.Test.YtdfdiglnpekcpaaDoorN8
import Derived.Test.YtdfdiglnpekcpaaDoorAbTrod
namespace Go.Proofs.YtdfdiglnpekcpaaDoor.Ab
open Go
set_option linter.unusedSimpArgs false
set_option maxHeartbeats 4000000
theorem rep_eq (l : List Int) (part err line col : Int) : repT l part err line col = bodyL l.length (cntAt l l.length).tr (cntAt l l.length).tu (cntAt l l.length).su (cntAt l l.length).la ++ lineE part err line col := by
  unfold repT bodyL headT sureT lastT endT sureL lastL lineE lineS numsS
  simp only [List.flatMap_cons, List.flatMap_nil, List.append_nil, List.append_assoc, List.cons_append, List.nil_append]
theorem report_Text_pc (o : Oc) (hl : o.vs.length ≤ 200) (h14 : ∀ v ∈ o.vs, 1 ≤ v ∧ v ≤ 4) (i1 : i64 o.err) (i2 : i64 o.line) (i3 : i64 o.col) : PureC Tryd.prog G1 n_report_Text [ocV o] (.str (repT o.vs o.part o.err o.line o.col)) := by
  rw [rep_eq]
  refine PureC.of_str fun w F vs hg ha => ?_
  obtain ⟨v, rfl, h1⟩ := argsR_1 ha
  unfold ocV at h1
  cases h1 with
  | agg _ _ us hl' h =>
    match us, hl' with
    | [a, b, c, d, e], _ =>
      have h0 := h 0 _ _ rfl rfl
      have h1 := h 1 _ _ rfl rfl
      have h2 := h 2 _ _ rfl rfl
      have h3 := h 3 _ _ rfl rfl
      have h4 := h 4 _ _ rfl rfl
      cases h1
      cases h2
      cases h3
      cases h4
      exact text_walk w F hg o hl h14 i1 i2 i3 a h0 _ _ _ _ _ rfl rfl
theorem ReportTexts_pc (o : Oc) (i1 : i64 o.err) (i2 : i64 o.line) (i3 : i64 o.col) : PureC Tryd.prog G1 n_proctorlaw42_ReportTexts [ocV o] (.bool true) := by
  refine pc_proctorlaw42_ReportTexts (Runs.of fun Φ h => ?_)
  unfold c_proctorlaw42_ReportTexts
  have fin : ∀ heap, Φ ⟨75, [(2, .bool true)], heap⟩ := fun heap => h _ ⟨_, _, rfl, rfl, .refl _⟩
  clear h
  by_cases hl : o.vs.length ≤ 200
  · have hR := Right_pc o.vs (by omega)
    have hg : decide ((o.vs.length : Int) > 200) = false := by simp; omega
    cases hk : (o.vs.all fun v => decide (1 ≤ v) && decide (v ≤ 4)) with
    | false =>
      rw [hk] at hR
      (try (simp -implicitDefEqProofs only [go_sem, Nat.reduceAdd, Nat.reduceSub, Nat.reduceMul, Nat.reduceLT, Nat.reduceLeDiff, Nat.reduceEqDiff, Nat.reduceBEq, Int.reduceNeg, Int.reduceAdd, Int.reduceLT, Int.reduceLE, Int.reduceToNat, Int.reduceEq, Int.reduceNe, Int.reduceBEq, Int.reduceBNe, Int.reduceMul, Int.reduceSub, reduceIte, reduceCtorEq, ocV, ivs, List.length_map, hg])); repeat' ((first | refine at_guard (fun hb => ?_) (fun hb => ?_) | refine ⟨fun hb => ?_, fun hb => ?_⟩ | refine at_call (hR) rfl rfl ?_ | refine at_call (awake42_pc) rfl rfl ?_ | fail) <;> (try (simp -implicitDefEqProofs only [go_sem, Nat.reduceAdd, Nat.reduceSub, Nat.reduceMul, Nat.reduceLT, Nat.reduceLeDiff, Nat.reduceEqDiff, Nat.reduceBEq, Int.reduceNeg, Int.reduceAdd, Int.reduceLT, Int.reduceLE, Int.reduceToNat, Int.reduceEq, Int.reduceNe, Int.reduceBEq, Int.reduceBNe, Int.reduceMul, Int.reduceSub, reduceIte, reduceCtorEq, ocV, ivs, List.length_map, hg])))
      all_goals first | exact fin _ | (exfalso; simp at *; omega)
    | true =>
      rw [hk] at hR
      have h14 : ∀ v ∈ o.vs, 1 ≤ v ∧ v ≤ 4 := fun v hv => by
        have := List.all_eq_true.1 hk v hv
        simpa using this
      have hO := Of_pc o.vs (by omega)
      have hO2 := ref42_Of_pc o.vs (by omega) h14
      have hT := report_Text_pc o hl h14 i1 i2 i3
      have hT2 := ref42_Text_pc o.vs hl h14 o.part o.err o.line o.col i1 i2 i3
      generalize repT o.vs o.part o.err o.line o.col = s at *
      generalize cntAt o.vs o.vs.length = c at *
      obtain ⟨tr, tu, su, la⟩ := c
      unfold cntV at hO hO2
      dsimp only at hO hO2
      unfold ocV at hT
      unfold ivs at *
      (try (simp -implicitDefEqProofs only [go_sem, Nat.reduceAdd, Nat.reduceSub, Nat.reduceMul, Nat.reduceLT, Nat.reduceLeDiff, Nat.reduceEqDiff, Nat.reduceBEq, Int.reduceNeg, Int.reduceAdd, Int.reduceLT, Int.reduceLE, Int.reduceToNat, Int.reduceEq, Int.reduceNe, Int.reduceBEq, Int.reduceBNe, Int.reduceMul, Int.reduceSub, reduceIte, reduceCtorEq, ocV, ivs, List.length_map, hg])); repeat' ((first | refine at_guard (fun hb => ?_) (fun hb => ?_) | refine ⟨fun hb => ?_, fun hb => ?_⟩ | refine at_call (hR) rfl rfl ?_ | refine at_call (hO) rfl rfl ?_ | refine at_call (hO2) rfl rfl ?_ | refine at_call (hT) rfl rfl ?_ | refine at_call (hT2) rfl rfl ?_ | refine at_call (awake42_pc) rfl rfl ?_ | fail) <;> (try (simp -implicitDefEqProofs only [go_sem, Nat.reduceAdd, Nat.reduceSub, Nat.reduceMul, Nat.reduceLT, Nat.reduceLeDiff, Nat.reduceEqDiff, Nat.reduceBEq, Int.reduceNeg, Int.reduceAdd, Int.reduceLT, Int.reduceLE, Int.reduceToNat, Int.reduceEq, Int.reduceNe, Int.reduceBEq, Int.reduceBNe, Int.reduceMul, Int.reduceSub, reduceIte, reduceCtorEq, ocV, ivs, List.length_map, hg])))
      all_goals first | exact fin _ | (exfalso; simp at *; done)
  · have hg : decide ((o.vs.length : Int) > 200) = true := by simp; omega
    (try (simp -implicitDefEqProofs only [go_sem, Nat.reduceAdd, Nat.reduceSub, Nat.reduceMul, Nat.reduceLT, Nat.reduceLeDiff, Nat.reduceEqDiff, Nat.reduceBEq, Int.reduceNeg, Int.reduceAdd, Int.reduceLT, Int.reduceLE, Int.reduceToNat, Int.reduceEq, Int.reduceNe, Int.reduceBEq, Int.reduceBNe, Int.reduceMul, Int.reduceSub, reduceIte, reduceCtorEq, ocV, ivs, List.length_map, hg])); repeat' ((first | refine at_guard (fun hb => ?_) (fun hb => ?_) | refine ⟨fun hb => ?_, fun hb => ?_⟩ | refine at_call (awake42_pc) rfl rfl ?_ | fail) <;> (try (simp -implicitDefEqProofs only [go_sem, Nat.reduceAdd, Nat.reduceSub, Nat.reduceMul, Nat.reduceLT, Nat.reduceLeDiff, Nat.reduceEqDiff, Nat.reduceBEq, Int.reduceNeg, Int.reduceAdd, Int.reduceLT, Int.reduceLE, Int.reduceToNat, Int.reduceEq, Int.reduceNe, Int.reduceBEq, Int.reduceBNe, Int.reduceMul, Int.reduceSub, reduceIte, reduceCtorEq, ocV, ivs, List.length_map, hg])))
    all_goals first | exact fin _ | (exfalso; simp at *; omega)
end Go.Proofs.YtdfdiglnpekcpaaDoor.Ab
namespace Go.Proofs.YtdfdiglnpekcpaaDoor.Ab
open Go Go.ChangeShapes Go.WideShapes Go.RowKit
set_option linter.unusedSimpArgs false
set_option maxRecDepth 100000
theorem i64_wf {n : Int} (h : (Lit.int .i64 n).wf = true) : i64 n := by
  simp [Lit.wf, IntKind.min, IntKind.max, IntKind.signed, IntKind.bits] at h
  exact ⟨h.1, by omega⟩
theorem rInts : RdT Tryd.prog 22 1 fun cs => ∃ l : List Int, cs = [ivs l] :=
  (rd_slice (e := 3) false (by kernel_rfl) (by kernel_rfl) (rd_int (by kernel_rfl) (by kernel_rfl)) (by decide) (by rintro - _ ⟨n, rfl, _⟩; exact ⟨_, rfl, rfl⟩)).mono (by
    rintro _ ⟨es, rfl, hl, h⟩
    obtain ⟨l, rfl⟩ := list_of (f := iv) (fun x hx => by obtain ⟨_, ⟨n, rfl, _⟩, rfl⟩ := h x hx; exact ⟨n, rfl⟩)
    exact ⟨l, rfl⟩)
theorem rI64 {t : Nat} (ht : Tryd.prog.underlying t = some (.int .i64)) (hs : Tryd.prog.cellsOf t = 1) : RdT Tryd.prog t 1 fun cs => ∃ n : Int, cs = [iv n] ∧ i64 n :=
  (rd_int ht hs).mono (by rintro _ ⟨n, rfl, h⟩; exact ⟨n, rfl, i64_wf h⟩)
theorem rFail64 : RdT Tryd.prog 25 3 fun cs => ∃ a b c : Int, cs = [iv a, iv b, iv c] ∧ i64 a ∧ i64 b ∧ i64 c :=
  (rd_struct (t := 25) (fs := (Tryd.prog.fieldsOf 25)) (by kernel_rfl) (by kernel_rfl) (rdf_cons (f := (Tryd.prog.fieldsOf 25)[0]!) (rI64 (by kernel_rfl) (by kernel_rfl)) (by kernel_rfl) rfl (rdf_cons (f := (Tryd.prog.fieldsOf 25)[1]!) (rI64 (by kernel_rfl) (by kernel_rfl)) (by kernel_rfl) rfl (rdf_cons (f := (Tryd.prog.fieldsOf 25)[2]!) (rI64 (by kernel_rfl) (by kernel_rfl)) (by kernel_rfl) rfl (rdf_nil _))))).mono (by
    rintro _ ⟨_, _, rfl, ⟨a, rfl, ha⟩, _, _, rfl, ⟨b, rfl, hb⟩, _, _, rfl, ⟨c, rfl, hc⟩, rfl⟩
    exact ⟨a, b, c, rfl, ha, hb, hc⟩)
/-- An outcome whose numbers are numbers. -/
def Oc64 (o : Oc) : Prop := i64 o.err ∧ i64 o.line ∧ i64 o.col
theorem rOc64 : RdT Tryd.prog 27 5 fun cs => ∃ o : {o : Oc // Oc64 o}, .agg cs = ocV o.1 :=
  (rd_struct (t := 27) (fs := (Tryd.prog.fieldsOf 27)) (by kernel_rfl) (by kernel_rfl) (rdf_cons (f := (Tryd.prog.fieldsOf 27)[0]!) rInts (by kernel_rfl) rfl (rdf_cons (f := (Tryd.prog.fieldsOf 27)[1]!) (rI64 (by kernel_rfl) (by kernel_rfl)) (by kernel_rfl) rfl (rdf_cons (f := (Tryd.prog.fieldsOf 27)[2]!) rFail64 (by kernel_rfl) rfl (rdf_nil _))))).mono (by
    rintro _ ⟨_, _, rfl, ⟨l, rfl⟩, _, _, rfl, ⟨p, rfl, _⟩, _, _, rfl, ⟨a, b, c, rfl, ha, hb, hc⟩, rfl⟩
    exact ⟨⟨⟨l, p, a, b, c⟩, ha, hb, hc⟩, rfl⟩)
end Go.Proofs.YtdfdiglnpekcpaaDoor.Ab
