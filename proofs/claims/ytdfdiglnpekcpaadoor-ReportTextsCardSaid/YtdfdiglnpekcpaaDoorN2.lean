/-
  verdict.Name, proctorref32.Name, num.Text, proctorref42.Of and Text: what they hand back. No claim is proved here.
-/
import Derived.Test.YtdfdiglnpekcpaaDoorN1
namespace Go.Proofs.YtdfdiglnpekcpaaDoor.Ab
open Go
set_option linter.unusedSimpArgs false
set_option maxHeartbeats 4000000
theorem G1_pow : G1 3 = some (.agg (Lib.pow10Tab.map (AV.int .u64))) := rfl
theorem G1_names : G1 1 = some (.agg (nameL.map AV.str)) := rfl
theorem G1_wheres : G1 0 = some (.agg (whereL.map AV.str)) := rfl
/-- A verdict's name. -/
def nameS (v : Int) : Str := nameL.getD (v - 1).toNat []
theorem name_len (v : Int) (h : 1 ≤ v ∧ v ≤ 4) : (nameS v).length ≤ 10 := by
  have : v = 1 ∨ v = 2 ∨ v = 3 ∨ v = 4 := by omega
  rcases this with rfl | rfl | rfl | rfl <;> decide
theorem verdict_Name_pc (v : Int) (h : 1 ≤ v ∧ v ≤ 4) : PureC Tryd.prog G1 n_verdict_Name [iv v] (.str (nameS v)) := by
  have : v = 1 ∨ v = 2 ∨ v = 3 ∨ v = 4 := by omega
  rcases this with rfl | rfl | rfl | rfl
  all_goals
    refine pc_verdict_Name (Runs.of fun Φ h => ?_)
    unfold c_verdict_Name
    have e : IntKind.i64.wrap (1 - 1) = 0 ∧ IntKind.i64.wrap (2 - 1) = 1 ∧ IntKind.i64.wrap (3 - 1) = 2 ∧ IntKind.i64.wrap (4 - 1) = 3 := ⟨rfl, rfl, rfl, rfl⟩
    (try (simp -implicitDefEqProofs only [go_sem, Nat.reduceAdd, Nat.reduceSub, Nat.reduceMul, Nat.reduceLT, Nat.reduceLeDiff, Nat.reduceEqDiff, Nat.reduceBEq, Int.reduceNeg, Int.reduceAdd, Int.reduceLT, Int.reduceLE, Int.reduceToNat, Int.reduceEq, Int.reduceNe, Int.reduceBEq, Int.reduceBNe, Int.reduceMul, Int.reduceSub, reduceIte, reduceCtorEq, e, G1_names, nameL])); repeat' ((first | refine at_guard (fun hb => ?_) (fun hb => ?_) | refine ⟨fun hb => ?_, fun hb => ?_⟩ | fail) <;> (try (simp -implicitDefEqProofs only [go_sem, Nat.reduceAdd, Nat.reduceSub, Nat.reduceMul, Nat.reduceLT, Nat.reduceLeDiff, Nat.reduceEqDiff, Nat.reduceBEq, Int.reduceNeg, Int.reduceAdd, Int.reduceLT, Int.reduceLE, Int.reduceToNat, Int.reduceEq, Int.reduceNe, Int.reduceBEq, Int.reduceBNe, Int.reduceMul, Int.reduceSub, reduceIte, reduceCtorEq, e, G1_names, nameL])))
    refine h _ ⟨_, _, rfl, rfl, .refl _⟩
theorem ref32_Name_pc (v : Int) (h : 1 ≤ v ∧ v ≤ 4) : PureC Tryd.prog G1 n_proctorref32_Name [iv v] (.str (nameS v)) := by
  have : v = 1 ∨ v = 2 ∨ v = 3 ∨ v = 4 := by omega
  rcases this with rfl | rfl | rfl | rfl
  all_goals
    refine pc_proctorref32_Name (Runs.of fun Φ h => ?_)
    unfold c_proctorref32_Name
    (try (simp -implicitDefEqProofs only [go_sem, Nat.reduceAdd, Nat.reduceSub, Nat.reduceMul, Nat.reduceLT, Nat.reduceLeDiff, Nat.reduceEqDiff, Nat.reduceBEq, Int.reduceNeg, Int.reduceAdd, Int.reduceLT, Int.reduceLE, Int.reduceToNat, Int.reduceEq, Int.reduceNe, Int.reduceBEq, Int.reduceBNe, Int.reduceMul, Int.reduceSub, reduceIte, reduceCtorEq])); repeat' ((first | refine at_guard (fun hb => ?_) (fun hb => ?_) | refine ⟨fun hb => ?_, fun hb => ?_⟩ | fail) <;> (try (simp -implicitDefEqProofs only [go_sem, Nat.reduceAdd, Nat.reduceSub, Nat.reduceMul, Nat.reduceLT, Nat.reduceLeDiff, Nat.reduceEqDiff, Nat.reduceBEq, Int.reduceNeg, Int.reduceAdd, Int.reduceLT, Int.reduceLE, Int.reduceToNat, Int.reduceEq, Int.reduceNe, Int.reduceBEq, Int.reduceBNe, Int.reduceMul, Int.reduceSub, reduceIte, reduceCtorEq])))
    refine h _ ⟨_, _, rfl, rfl, .refl _⟩
theorem num_Text_pc (n : Int) (hn : i64 n) : PureC Tryd.prog G1 n_num_Text [iv n] (.str (Lib.itoa n)) := by
  have h1 := strconv_FormatInt_pc (G := G1) G1_pow n hn
  refine pc_num_Text (Runs.of fun Φ h => ?_)
  unfold c_num_Text
  generalize Lib.itoa n = x at *
  (try (simp -implicitDefEqProofs only [go_sem, Nat.reduceAdd, Nat.reduceSub, Nat.reduceMul, Nat.reduceLT, Nat.reduceLeDiff, Nat.reduceEqDiff, Nat.reduceBEq, Int.reduceNeg, Int.reduceAdd, Int.reduceLT, Int.reduceLE, Int.reduceToNat, Int.reduceEq, Int.reduceNe, Int.reduceBEq, Int.reduceBNe, Int.reduceMul, Int.reduceSub, reduceIte, reduceCtorEq, G1_pow])); repeat' ((first | refine at_guard (fun hb => ?_) (fun hb => ?_) | refine ⟨fun hb => ?_, fun hb => ?_⟩ | refine at_call (h1) rfl rfl ?_ | fail) <;> (try (simp -implicitDefEqProofs only [go_sem, Nat.reduceAdd, Nat.reduceSub, Nat.reduceMul, Nat.reduceLT, Nat.reduceLeDiff, Nat.reduceEqDiff, Nat.reduceBEq, Int.reduceNeg, Int.reduceAdd, Int.reduceLT, Int.reduceLE, Int.reduceToNat, Int.reduceEq, Int.reduceNe, Int.reduceBEq, Int.reduceBNe, Int.reduceMul, Int.reduceSub, reduceIte, reduceCtorEq, G1_pow])))
  all_goals (refine h _ ⟨_, _, rfl, rfl, fit_eq ?_⟩; clear h; first | rfl | simp_all)
theorem ref42_text_pc (n : Int) (hn : i64 n) : PureC Tryd.prog G1 n_proctorref42_text [iv n] (.str (Lib.itoa n)) := by
  have h1 := ref01_Text_pc (G := G1) _ n (Nat.lt_succ_self _) hn
  refine pc_proctorref42_text (Runs.of fun Φ h => ?_)
  unfold c_proctorref42_text
  generalize Lib.itoa n = x at *
  (try (simp -implicitDefEqProofs only [go_sem, Nat.reduceAdd, Nat.reduceSub, Nat.reduceMul, Nat.reduceLT, Nat.reduceLeDiff, Nat.reduceEqDiff, Nat.reduceBEq, Int.reduceNeg, Int.reduceAdd, Int.reduceLT, Int.reduceLE, Int.reduceToNat, Int.reduceEq, Int.reduceNe, Int.reduceBEq, Int.reduceBNe, Int.reduceMul, Int.reduceSub, reduceIte, reduceCtorEq, G1_pow])); repeat' ((first | refine at_guard (fun hb => ?_) (fun hb => ?_) | refine ⟨fun hb => ?_, fun hb => ?_⟩ | refine at_call (h1) rfl rfl ?_ | fail) <;> (try (simp -implicitDefEqProofs only [go_sem, Nat.reduceAdd, Nat.reduceSub, Nat.reduceMul, Nat.reduceLT, Nat.reduceLeDiff, Nat.reduceEqDiff, Nat.reduceBEq, Int.reduceNeg, Int.reduceAdd, Int.reduceLT, Int.reduceLE, Int.reduceToNat, Int.reduceEq, Int.reduceNe, Int.reduceBEq, Int.reduceBNe, Int.reduceMul, Int.reduceSub, reduceIte, reduceCtorEq, G1_pow])))
  all_goals (refine h _ ⟨_, _, rfl, rfl, fit_eq ?_⟩; clear h; first | rfl | simp_all)

theorem ref42_Of_pc (l : List Int) (hl : l.length < 9223372036854775807) (h14 : ∀ v ∈ l, 1 ≤ v ∧ v ≤ 4) : PureC Tryd.prog G1 n_proctorref42_Of [ivs l] (cntV l.length (cntAt l l.length)) := by
  refine pc_proctorref42_Of (Runs.of fun Φ h => ?_)
  unfold c_proctorref42_Of
  simp -implicitDefEqProofs only [go_sem, Nat.reduceAdd, Nat.reduceSub, Nat.reduceMul, Nat.reduceLT, Nat.reduceLeDiff, Nat.reduceEqDiff, Nat.reduceBEq, Int.reduceNeg, Int.reduceAdd, Int.reduceLT, Int.reduceLE, Int.reduceToNat, Int.reduceEq, Int.reduceNe, Int.reduceBEq, Int.reduceBNe, Int.reduceMul, Int.reduceSub, reduceIte, reduceCtorEq, ivs, List.length_map]
  refine at_loop (fun n st => ∃ i : Nat, i + n = l.length ∧ st = ⟨76, [(0, ivs l), (2, .ref 2 0 0), (3, .ref 3 0 0), (4, iv i)],
    [(2, ⟨false, t_proctorref42_Count, 5, [.agg [iv 0, iv 0, iv 0, iv 0, iv 0]]⟩), (3, ⟨false, t_proctorref42_Count, 5, [cntV l.length (cntAt l i)]⟩)]⟩) l.length ⟨0, by simp, by simp -implicitDefEqProofs only [go_sem, Nat.reduceAdd, Nat.reduceSub, Nat.reduceMul, Nat.reduceLT, Nat.reduceLeDiff, Nat.reduceEqDiff, Nat.reduceBEq, Int.reduceNeg, Int.reduceAdd, Int.reduceLT, Int.reduceLE, Int.reduceToNat, Int.reduceEq, Int.reduceNe, Int.reduceBEq, Int.reduceBNe, Int.reduceMul, Int.reduceSub, reduceIte, reduceCtorEq, ivs, cntV, cntAt]; rfl⟩ ?_
  rintro I hI n st ⟨i, hi, rfl⟩
  have b1 := cntAt_tr l i
  have b2 := cntAt_tu l i
  simp -implicitDefEqProofs only [go_sem, Nat.reduceAdd, Nat.reduceSub, Nat.reduceMul, Nat.reduceLT, Nat.reduceLeDiff, Nat.reduceEqDiff, Nat.reduceBEq, Int.reduceNeg, Int.reduceAdd, Int.reduceLT, Int.reduceLE, Int.reduceToNat, Int.reduceEq, Int.reduceNe, Int.reduceBEq, Int.reduceBNe, Int.reduceMul, Int.reduceSub, reduceIte, reduceCtorEq, ivs, cntV, List.length_map]
  refine ⟨fun hlt => ?_, fun hge => ?_⟩
  · have hlt' : i < l.length := by omega
    obtain ⟨x, hx⟩ : ∃ x, l[i]? = some x := ⟨l[i], List.getElem?_eq_getElem hlt'⟩
    have hgx : l.getD i 0 = x := by simp [List.getD_eq_getElem?_getD, hx]
    have hx14 := h14 x (List.mem_of_getElem? hx)
    have hw : IntKind.i64.wrap ((i : Int) + 1) = ((i + 1 : Nat) : Int) := by rw [wrap_i64 (by omega) (by omega)]; omega
    have hw1 : IntKind.i64.wrap ((cntAt l i).tr + 1) = (cntAt l i).tr + 1 := wrap_i64 (by omega) (by omega)
    have hw2 : IntKind.i64.wrap ((cntAt l i).tu + 1) = (cntAt l i).tu + 1 := wrap_i64 (by omega) (by omega)
    have fin : ∀ tr tu su : Int, tr = (cntAt l (i + 1)).tr → tu = (cntAt l (i + 1)).tu → su = (cntAt l (i + 1)).su → again I n ⟨76, [(0, .seq 1 (l.map iv)), (2, .ref 2 0 0), (3, .ref 3 0 0), (4, iv (i + 1 : Nat))],
        [(2, ⟨false, t_proctorref42_Count, 5, [.agg [iv 0, iv 0, iv 0, iv 0, iv 0]]⟩), (3, ⟨false, t_proctorref42_Count, 5, [.agg [iv l.length, iv tr, iv tu, iv su, iv x]]⟩)]⟩ := by
      intro tr tu su h1 h2 h3
      refine at_again (n - 1) (by omega) (hI _ _ ⟨i + 1, by omega, ?_⟩)
      rw [h1, h2, h3, ← hgx]
      rfl
    have etr : (cntAt l (i + 1)).tr = if isTrue x then (cntAt l i).tr + 1 else (cntAt l i).tr := by rw [← hgx]; rfl
    have esu : (cntAt l (i + 1)).su = if (cntAt l i).su == 0 && isSure x then ((i + 1 : Nat) : Int) else (cntAt l i).su := by rw [← hgx]; rfl
    have etu : (cntAt l (i + 1)).tu = if decide (0 < i) && (isTrue x != isTrue (l.getD (i - 1) 0)) then (cntAt l i).tu + 1 else (cntAt l i).tu := by rw [← hgx]; rfl
    have low : ∀ v : Int, 1 ≤ v → isTrue v = decide (v ≤ 2) := fun v hv => by
      unfold isTrue
      by_cases h2 : v ≤ 2
      · have : v = 1 ∨ v = 2 := by omega
        rcases this with rfl | rfl <;> rfl
      · simp [h2, show ¬ v = 1 by omega, show ¬ v = 2 by omega]
    by_cases h0 : (0 : Int) < i
    · have h0' : decide (0 < i) = true := by simpa using h0
      have hm : IntKind.i64.wrap ((i : Int) - 1) = ((i - 1 : Nat) : Int) := by rw [wrap_i64 (by omega) (by omega)]; omega
      obtain ⟨y, hy⟩ : ∃ y, l[i - 1]? = some y := ⟨l[i - 1], List.getElem?_eq_getElem (by omega)⟩
      have hgy : l.getD (i - 1) 0 = y := by simp [List.getD_eq_getElem?_getD, hy]
      have hy14 := h14 y (List.mem_of_getElem? hy)
      rw [h0', Bool.true_and, hgy, low x hx14.1, low y hy14.1] at etu
      (try (simp -implicitDefEqProofs only [go_sem, Nat.reduceAdd, Nat.reduceSub, Nat.reduceMul, Nat.reduceLT, Nat.reduceLeDiff, Nat.reduceEqDiff, Nat.reduceBEq, Int.reduceNeg, Int.reduceAdd, Int.reduceLT, Int.reduceLE, Int.reduceToNat, Int.reduceEq, Int.reduceNe, Int.reduceBEq, Int.reduceBNe, Int.reduceMul, Int.reduceSub, reduceIte, reduceCtorEq, h0, hm, hw, hw1, hw2, aiaddr_ivs hx, aiaddr_ivs hy])); repeat' ((first | refine at_guard (fun hb => ?_) (fun hb => ?_) | refine ⟨fun hb => ?_, fun hb => ?_⟩ | fail) <;> (try (simp -implicitDefEqProofs only [go_sem, Nat.reduceAdd, Nat.reduceSub, Nat.reduceMul, Nat.reduceLT, Nat.reduceLeDiff, Nat.reduceEqDiff, Nat.reduceBEq, Int.reduceNeg, Int.reduceAdd, Int.reduceLT, Int.reduceLE, Int.reduceToNat, Int.reduceEq, Int.reduceNe, Int.reduceBEq, Int.reduceBNe, Int.reduceMul, Int.reduceSub, reduceIte, reduceCtorEq, h0, hm, hw, hw1, hw2, aiaddr_ivs hx, aiaddr_ivs hy])))
      all_goals
        refine fin _ _ _ ?_ ?_ ?_
      all_goals
        clear h hI fin hw hw1 hw2 h14 b1 b2 low hgx hlt hi
        first | rw [etr] | rw [etu] | rw [esu]
        clear etr etu esu
        try simp only [isTrue, isSure] at *
        try simp_all
      all_goals
        try omega
    · have h0' : decide (0 < i) = false := by simpa using h0
      rw [h0', Bool.false_and] at etu
      (try (simp -implicitDefEqProofs only [go_sem, Nat.reduceAdd, Nat.reduceSub, Nat.reduceMul, Nat.reduceLT, Nat.reduceLeDiff, Nat.reduceEqDiff, Nat.reduceBEq, Int.reduceNeg, Int.reduceAdd, Int.reduceLT, Int.reduceLE, Int.reduceToNat, Int.reduceEq, Int.reduceNe, Int.reduceBEq, Int.reduceBNe, Int.reduceMul, Int.reduceSub, reduceIte, reduceCtorEq, h0, hw, hw1, hw2, aiaddr_ivs hx])); repeat' ((first | refine at_guard (fun hb => ?_) (fun hb => ?_) | refine ⟨fun hb => ?_, fun hb => ?_⟩ | fail) <;> (try (simp -implicitDefEqProofs only [go_sem, Nat.reduceAdd, Nat.reduceSub, Nat.reduceMul, Nat.reduceLT, Nat.reduceLeDiff, Nat.reduceEqDiff, Nat.reduceBEq, Int.reduceNeg, Int.reduceAdd, Int.reduceLT, Int.reduceLE, Int.reduceToNat, Int.reduceEq, Int.reduceNe, Int.reduceBEq, Int.reduceBNe, Int.reduceMul, Int.reduceSub, reduceIte, reduceCtorEq, h0, hw, hw1, hw2, aiaddr_ivs hx])))
      all_goals
        refine fin _ _ _ ?_ ?_ ?_
      all_goals
        clear h hI fin hw hw1 hw2 h14 b1 b2 low hgx hlt hi
        first | rw [etr] | rw [etu] | rw [esu]
        clear etr etu esu
        try simp only [isTrue, isSure] at *
        try simp_all
      all_goals
        try omega
  · have : i = l.length := by omega
    subst this
    (try (simp -implicitDefEqProofs only [go_sem, Nat.reduceAdd, Nat.reduceSub, Nat.reduceMul, Nat.reduceLT, Nat.reduceLeDiff, Nat.reduceEqDiff, Nat.reduceBEq, Int.reduceNeg, Int.reduceAdd, Int.reduceLT, Int.reduceLE, Int.reduceToNat, Int.reduceEq, Int.reduceNe, Int.reduceBEq, Int.reduceBNe, Int.reduceMul, Int.reduceSub, reduceIte, reduceCtorEq])); repeat' ((first | refine at_guard (fun hb => ?_) (fun hb => ?_) | refine ⟨fun hb => ?_, fun hb => ?_⟩ | fail) <;> (try (simp -implicitDefEqProofs only [go_sem, Nat.reduceAdd, Nat.reduceSub, Nat.reduceMul, Nat.reduceLT, Nat.reduceLeDiff, Nat.reduceEqDiff, Nat.reduceBEq, Int.reduceNeg, Int.reduceAdd, Int.reduceLT, Int.reduceLE, Int.reduceToNat, Int.reduceEq, Int.reduceNe, Int.reduceBEq, Int.reduceBNe, Int.reduceMul, Int.reduceSub, reduceIte, reduceCtorEq])))
    refine h _ ⟨_, _, rfl, rfl, .refl _⟩
end Go.Proofs.YtdfdiglnpekcpaaDoor.Ab
