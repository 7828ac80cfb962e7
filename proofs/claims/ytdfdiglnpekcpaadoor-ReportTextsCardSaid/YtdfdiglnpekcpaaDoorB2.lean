/-
  report.Of: what it hands back. No claim is proved here.
-/
import Derived.Test.YtdfdiglnpekcpaaDoorB1
namespace Go.Proofs.YtdfdiglnpekcpaaDoor.Ab
open Go
set_option linter.unusedSimpArgs false

structure Cnt where
  tr : Int
  tu : Int
  su : Int
  la : Int
/-- What is counted of the first i verdicts. -/
def cntAt (l : List Int) : Nat → Cnt
  | 0 => ⟨0, 0, 0, 0⟩
  | i + 1 => ⟨if isTrue (l.getD i 0) then (cntAt l i).tr + 1 else (cntAt l i).tr,
      if decide (0 < i) && (isTrue (l.getD i 0) != isTrue (l.getD (i - 1) 0)) then (cntAt l i).tu + 1 else (cntAt l i).tu,
      if (cntAt l i).su == 0 && isSure (l.getD i 0) then i + 1 else (cntAt l i).su, l.getD i 0⟩
theorem cntAt_tr (l : List Int) : ∀ i, 0 ≤ (cntAt l i).tr ∧ (cntAt l i).tr ≤ i
  | 0 => by simp [cntAt]
  | i + 1 => by
    have := cntAt_tr l i
    simp only [cntAt]
    split <;> omega
theorem cntAt_tu (l : List Int) : ∀ i, 0 ≤ (cntAt l i).tu ∧ (cntAt l i).tu ≤ i
  | 0 => by simp [cntAt]
  | i + 1 => by
    have := cntAt_tu l i
    simp only [cntAt]
    split <;> omega
def cntV (n : Nat) (c : Cnt) : AV := .agg [iv n, iv c.tr, iv c.tu, iv c.su, iv c.la]

theorem Of_pc (l : List Int) (hl : l.length < 9223372036854775807) : PureC Tryd.prog G1 n_report_Of [ivs l] (cntV l.length (cntAt l l.length)) := by
  refine pc_report_Of (Runs.of fun Φ h => ?_)
  unfold c_report_Of
  simp -implicitDefEqProofs only [go_sem, Nat.reduceAdd, Nat.reduceSub, Nat.reduceMul, Nat.reduceLT, Nat.reduceLeDiff, Nat.reduceEqDiff, Nat.reduceBEq, Int.reduceNeg, Int.reduceAdd, Int.reduceLT, Int.reduceLE, Int.reduceToNat, Int.reduceEq, Int.reduceNe, Int.reduceBEq, Int.reduceBNe, Int.reduceMul, Int.reduceSub, reduceIte, reduceCtorEq, ivs, List.length_map]
  refine at_loop (fun n st => ∃ i : Nat, i + n = l.length ∧ st = ⟨53, [(0, ivs l), (2, .ref 2 0 0), (3, .ref 3 0 0), (9, ivs l), (10, iv l.length), (11, iv i)],
    [(2, ⟨false, t_report_Count, 5, [.agg [iv 0, iv 0, iv 0, iv 0, iv 0]]⟩), (3, ⟨false, t_report_Count, 5, [cntV l.length (cntAt l i)]⟩)]⟩) l.length ⟨0, by simp, by simp -implicitDefEqProofs only [go_sem, Nat.reduceAdd, Nat.reduceSub, Nat.reduceMul, Nat.reduceLT, Nat.reduceLeDiff, Nat.reduceEqDiff, Nat.reduceBEq, Int.reduceNeg, Int.reduceAdd, Int.reduceLT, Int.reduceLE, Int.reduceToNat, Int.reduceEq, Int.reduceNe, Int.reduceBEq, Int.reduceBNe, Int.reduceMul, Int.reduceSub, reduceIte, reduceCtorEq, ivs, cntV, cntAt]; rfl⟩ ?_
  rintro I hI n st ⟨i, hi, rfl⟩
  have b1 := cntAt_tr l i
  have b2 := cntAt_tu l i
  simp -implicitDefEqProofs only [go_sem, Nat.reduceAdd, Nat.reduceSub, Nat.reduceMul, Nat.reduceLT, Nat.reduceLeDiff, Nat.reduceEqDiff, Nat.reduceBEq, Int.reduceNeg, Int.reduceAdd, Int.reduceLT, Int.reduceLE, Int.reduceToNat, Int.reduceEq, Int.reduceNe, Int.reduceBEq, Int.reduceBNe, Int.reduceMul, Int.reduceSub, reduceIte, reduceCtorEq, ivs, cntV]
  refine ⟨fun hlt => ?_, fun hge => ?_⟩
  · have hlt' : i < l.length := by omega
    obtain ⟨x, hx⟩ : ∃ x, l[i]? = some x := ⟨l[i], List.getElem?_eq_getElem hlt'⟩
    have hgx : l.getD i 0 = x := by simp [List.getD_eq_getElem?_getD, hx]
    have hw : IntKind.i64.wrap ((i : Int) + 1) = ((i + 1 : Nat) : Int) := by rw [wrap_i64 (by omega) (by omega)]; omega
    have hw1 : IntKind.i64.wrap ((cntAt l i).tr + 1) = (cntAt l i).tr + 1 := wrap_i64 (by omega) (by omega)
    have hw2 : IntKind.i64.wrap ((cntAt l i).tu + 1) = (cntAt l i).tu + 1 := wrap_i64 (by omega) (by omega)
    have fin : ∀ tr tu su : Int, tr = (cntAt l (i + 1)).tr → tu = (cntAt l (i + 1)).tu → su = (cntAt l (i + 1)).su → again I n ⟨53, [(0, .seq 1 (l.map iv)), (2, .ref 2 0 0), (3, .ref 3 0 0), (9, .seq 1 (l.map iv)), (10, iv l.length), (11, iv (i + 1 : Nat))],
        [(2, ⟨false, t_report_Count, 5, [.agg [iv 0, iv 0, iv 0, iv 0, iv 0]]⟩), (3, ⟨false, t_report_Count, 5, [.agg [iv l.length, iv tr, iv tu, iv su, iv x]]⟩)]⟩ := by
      intro tr tu su h1 h2 h3
      refine at_again (n - 1) (by omega) (hI _ _ ⟨i + 1, by omega, ?_⟩)
      rw [h1, h2, h3, ← hgx]
      rfl
    have etr : (cntAt l (i + 1)).tr = if isTrue x then (cntAt l i).tr + 1 else (cntAt l i).tr := by rw [← hgx]; rfl
    have esu : (cntAt l (i + 1)).su = if (cntAt l i).su == 0 && isSure x then ((i + 1 : Nat) : Int) else (cntAt l i).su := by rw [← hgx]; rfl
    have etu : (cntAt l (i + 1)).tu = if decide (0 < i) && (isTrue x != isTrue (l.getD (i - 1) 0)) then (cntAt l i).tu + 1 else (cntAt l i).tu := by rw [← hgx]; rfl
    simp -implicitDefEqProofs only [go_sem, Nat.reduceAdd, Nat.reduceSub, Nat.reduceMul, Nat.reduceLT, Nat.reduceLeDiff, Nat.reduceEqDiff, Nat.reduceBEq, Int.reduceNeg, Int.reduceAdd, Int.reduceLT, Int.reduceLE, Int.reduceToNat, Int.reduceEq, Int.reduceNe, Int.reduceBEq, Int.reduceBNe, Int.reduceMul, Int.reduceSub, reduceIte, reduceCtorEq, aiaddr_ivs hx]
    refine at_call (isTrue_pc x) rfl rfl ?_
    cases hT : isTrue x
    all_goals rw [hT] at etr etu
    all_goals simp -implicitDefEqProofs only [go_sem, Nat.reduceAdd, Nat.reduceSub, Nat.reduceMul, Nat.reduceLT, Nat.reduceLeDiff, Nat.reduceEqDiff, Nat.reduceBEq, Int.reduceNeg, Int.reduceAdd, Int.reduceLT, Int.reduceLE, Int.reduceToNat, Int.reduceEq, Int.reduceNe, Int.reduceBEq, Int.reduceBNe, Int.reduceMul, Int.reduceSub, reduceIte, reduceCtorEq, aiaddr_ivs hx, hw1]
    all_goals
      by_cases h0 : (0 : Int) < i
      · have h0' : decide (0 < i) = true := by simpa using h0
        have hm : IntKind.i64.wrap ((i : Int) - 1) = ((i - 1 : Nat) : Int) := by rw [wrap_i64 (by omega) (by omega)]; omega
        obtain ⟨y, hy⟩ : ∃ y, l[i - 1]? = some y := ⟨l[i - 1], List.getElem?_eq_getElem (by omega)⟩
        have hgy : l.getD (i - 1) 0 = y := by simp [List.getD_eq_getElem?_getD, hy]
        rw [h0', Bool.true_and, hgy] at etu
        simp -implicitDefEqProofs only [go_sem, Nat.reduceAdd, Nat.reduceSub, Nat.reduceMul, Nat.reduceLT, Nat.reduceLeDiff, Nat.reduceEqDiff, Nat.reduceBEq, Int.reduceNeg, Int.reduceAdd, Int.reduceLT, Int.reduceLE, Int.reduceToNat, Int.reduceEq, Int.reduceNe, Int.reduceBEq, Int.reduceBNe, Int.reduceMul, Int.reduceSub, reduceIte, reduceCtorEq, h0]
        refine at_call (isTrue_pc x) rfl rfl ?_
        rw [hT]
        simp -implicitDefEqProofs only [go_sem, Nat.reduceAdd, Nat.reduceSub, Nat.reduceMul, Nat.reduceLT, Nat.reduceLeDiff, Nat.reduceEqDiff, Nat.reduceBEq, Int.reduceNeg, Int.reduceAdd, Int.reduceLT, Int.reduceLE, Int.reduceToNat, Int.reduceEq, Int.reduceNe, Int.reduceBEq, Int.reduceBNe, Int.reduceMul, Int.reduceSub, reduceIte, reduceCtorEq, hm, aiaddr_ivs hy]
        refine at_call (isTrue_pc y) rfl rfl ?_
        cases hY : isTrue y
        all_goals rw [hY] at etu
        all_goals simp -implicitDefEqProofs only [go_sem, Nat.reduceAdd, Nat.reduceSub, Nat.reduceMul, Nat.reduceLT, Nat.reduceLeDiff, Nat.reduceEqDiff, Nat.reduceBEq, Int.reduceNeg, Int.reduceAdd, Int.reduceLT, Int.reduceLE, Int.reduceToNat, Int.reduceEq, Int.reduceNe, Int.reduceBEq, Int.reduceBNe, Int.reduceMul, Int.reduceSub, reduceIte, reduceCtorEq, hw2]
        all_goals
          refine at_guard (fun hs => ?_) (fun hs => ?_)
          · rw [hs, Bool.true_and] at esu
            simp -implicitDefEqProofs only [go_sem, Nat.reduceAdd, Nat.reduceSub, Nat.reduceMul, Nat.reduceLT, Nat.reduceLeDiff, Nat.reduceEqDiff, Nat.reduceBEq, Int.reduceNeg, Int.reduceAdd, Int.reduceLT, Int.reduceLE, Int.reduceToNat, Int.reduceEq, Int.reduceNe, Int.reduceBEq, Int.reduceBNe, Int.reduceMul, Int.reduceSub, reduceIte, reduceCtorEq]
            refine at_call (isSure_pc x) rfl rfl ?_
            cases hS : isSure x
            all_goals rw [hS] at esu
            all_goals simp -implicitDefEqProofs only [go_sem, Nat.reduceAdd, Nat.reduceSub, Nat.reduceMul, Nat.reduceLT, Nat.reduceLeDiff, Nat.reduceEqDiff, Nat.reduceBEq, Int.reduceNeg, Int.reduceAdd, Int.reduceLT, Int.reduceLE, Int.reduceToNat, Int.reduceEq, Int.reduceNe, Int.reduceBEq, Int.reduceBNe, Int.reduceMul, Int.reduceSub, reduceIte, reduceCtorEq, hw]
            all_goals exact fin _ _ _ etr.symm etu.symm esu.symm
          · rw [show ((cntAt l i).su == 0) = false by simpa using hs, Bool.false_and] at esu
            simp -implicitDefEqProofs only [go_sem, Nat.reduceAdd, Nat.reduceSub, Nat.reduceMul, Nat.reduceLT, Nat.reduceLeDiff, Nat.reduceEqDiff, Nat.reduceBEq, Int.reduceNeg, Int.reduceAdd, Int.reduceLT, Int.reduceLE, Int.reduceToNat, Int.reduceEq, Int.reduceNe, Int.reduceBEq, Int.reduceBNe, Int.reduceMul, Int.reduceSub, reduceIte, reduceCtorEq, hw]
            exact fin _ _ _ etr.symm etu.symm esu.symm
      · have h0' : decide (0 < i) = false := by simpa using h0
        rw [h0', Bool.false_and] at etu
        simp -implicitDefEqProofs only [go_sem, Nat.reduceAdd, Nat.reduceSub, Nat.reduceMul, Nat.reduceLT, Nat.reduceLeDiff, Nat.reduceEqDiff, Nat.reduceBEq, Int.reduceNeg, Int.reduceAdd, Int.reduceLT, Int.reduceLE, Int.reduceToNat, Int.reduceEq, Int.reduceNe, Int.reduceBEq, Int.reduceBNe, Int.reduceMul, Int.reduceSub, reduceIte, reduceCtorEq, h0, hw1]
        refine at_guard (fun hs => ?_) (fun hs => ?_)
        · rw [hs, Bool.true_and] at esu
          simp -implicitDefEqProofs only [go_sem, Nat.reduceAdd, Nat.reduceSub, Nat.reduceMul, Nat.reduceLT, Nat.reduceLeDiff, Nat.reduceEqDiff, Nat.reduceBEq, Int.reduceNeg, Int.reduceAdd, Int.reduceLT, Int.reduceLE, Int.reduceToNat, Int.reduceEq, Int.reduceNe, Int.reduceBEq, Int.reduceBNe, Int.reduceMul, Int.reduceSub, reduceIte, reduceCtorEq]
          refine at_call (isSure_pc x) rfl rfl ?_
          cases hS : isSure x
          all_goals rw [hS] at esu
          all_goals simp -implicitDefEqProofs only [go_sem, Nat.reduceAdd, Nat.reduceSub, Nat.reduceMul, Nat.reduceLT, Nat.reduceLeDiff, Nat.reduceEqDiff, Nat.reduceBEq, Int.reduceNeg, Int.reduceAdd, Int.reduceLT, Int.reduceLE, Int.reduceToNat, Int.reduceEq, Int.reduceNe, Int.reduceBEq, Int.reduceBNe, Int.reduceMul, Int.reduceSub, reduceIte, reduceCtorEq, hw]
          all_goals exact fin _ _ _ etr.symm etu.symm esu.symm
        · rw [show ((cntAt l i).su == 0) = false by simpa using hs, Bool.false_and] at esu
          simp -implicitDefEqProofs only [go_sem, Nat.reduceAdd, Nat.reduceSub, Nat.reduceMul, Nat.reduceLT, Nat.reduceLeDiff, Nat.reduceEqDiff, Nat.reduceBEq, Int.reduceNeg, Int.reduceAdd, Int.reduceLT, Int.reduceLE, Int.reduceToNat, Int.reduceEq, Int.reduceNe, Int.reduceBEq, Int.reduceBNe, Int.reduceMul, Int.reduceSub, reduceIte, reduceCtorEq, hw]
          exact fin _ _ _ etr.symm etu.symm esu.symm
  · have : i = l.length := by omega
    subst this
    refine h _ ⟨_, _, rfl, rfl, .refl _⟩
end Go.Proofs.YtdfdiglnpekcpaaDoor.Ab
