/-
  proctorref13: symbols. No claim is proved here.
-/
import Derived.Test.YtdfdiglnpekcpaaDoorD14
namespace Go.Proofs.YtdfdiglnpekcpaaDoor.Ab
open Go
set_option linter.unusedSimpArgs false
set_option maxHeartbeats 4000000
variable {G : Nat → Option AV}
theorem ref13_SameSymbol_pc (a b : SymT) (ha : a.args.length < 9223372036854775807) : PureC Tryd.prog G n_proctorref13_SameSymbol [symV a, symV b] (.bool (decide (a = b))) := by
  obtain ⟨e, l⟩ := a
  obtain ⟨f, k⟩ := b
  dsimp only at ha
  refine pc_proctorref13_SameSymbol (Runs.of fun Φ h => ?_)
  unfold c_proctorref13_SameSymbol
  generalize hv : decide ((⟨e, l⟩ : SymT) = ⟨f, k⟩) = v at *
  by_cases hc : e = f ∧ l.length = k.length
  · obtain ⟨rfl, hlk⟩ := hc
    have hv' : zipB (fun (x y : ArgT) => x == y) l k = v := by
      rw [← hv]
      clear hv h ha
      induction l generalizing k with
      | nil => cases k with
        | nil => simp [zipB]
        | cons y s => simp at hlk
      | cons x r ih => cases k with
        | nil => simp at hlk
        | cons y s =>
          rw [zipB, ih s (by simpa using hlk), Bool.eq_iff_iff]
          simp
    clear hv
    (try (simp -implicitDefEqProofs only [go_sem, Nat.reduceAdd, Nat.reduceSub, Nat.reduceMul, Nat.reduceLT, Nat.reduceLeDiff, Nat.reduceEqDiff, Nat.reduceBEq, Int.reduceNeg, Int.reduceAdd, Int.reduceLT, Int.reduceLE, Int.reduceToNat, Int.reduceEq, Int.reduceNe, Int.reduceBEq, Int.reduceBNe, Int.reduceMul, Int.reduceSub, reduceIte, reduceCtorEq, symV, argsV, List.length_map])); repeat' ((first | refine at_guard (fun hb => ?_) (fun hb => ?_) | refine ⟨fun hb => ?_, fun hb => ?_⟩ | fail) <;> (try (simp -implicitDefEqProofs only [go_sem, Nat.reduceAdd, Nat.reduceSub, Nat.reduceMul, Nat.reduceLT, Nat.reduceLeDiff, Nat.reduceEqDiff, Nat.reduceBEq, Int.reduceNeg, Int.reduceAdd, Int.reduceLT, Int.reduceLE, Int.reduceToNat, Int.reduceEq, Int.reduceNe, Int.reduceBEq, Int.reduceBNe, Int.reduceMul, Int.reduceSub, reduceIte, reduceCtorEq, symV, argsV, List.length_map])))
    all_goals try (exfalso; first | omega | (simp at *; done) | (simp at *; omega))
    refine at_loop (fun n st => ∃ i : Nat, i + n = l.length ∧ st = ⟨38, [(2, .ref 2 0 0), (3, .ref 3 0 0), (5, iv i)], [(2, ⟨false, t_api_Symbol, 2, [symV ⟨e, l⟩]⟩), (3, ⟨false, t_api_Symbol, 2, [symV ⟨e, k⟩]⟩)]⟩ ∧ zipB (fun (x y : ArgT) => x == y) (l.drop i) (k.drop i) = v) l.length ⟨0, by simp, rfl, hv'⟩ ?_
    rintro I hI n st ⟨i, hi, rfl, hno⟩
    simp -implicitDefEqProofs only [go_sem, Nat.reduceAdd, Nat.reduceSub, Nat.reduceMul, Nat.reduceLT, Nat.reduceLeDiff, Nat.reduceEqDiff, Nat.reduceBEq, Int.reduceNeg, Int.reduceAdd, Int.reduceLT, Int.reduceLE, Int.reduceToNat, Int.reduceEq, Int.reduceNe, Int.reduceBEq, Int.reduceBNe, Int.reduceMul, Int.reduceSub, reduceIte, reduceCtorEq, symV, argsV, List.length_map]
    refine ⟨fun hlt => ?_, fun hge => ?_⟩
    · have hlt' : i < l.length := by omega
      obtain ⟨x, hx, hm⟩ := at_some hlt'
      obtain ⟨y, hy, hm'⟩ := at_some (l := k) (i := i) (by omega)
      have hw := wrap_succ hlt' (by omega)
      rw [zipB_step hx hy] at hno
      have hxy := argEq x y
      (try (simp -implicitDefEqProofs only [go_sem, Nat.reduceAdd, Nat.reduceSub, Nat.reduceMul, Nat.reduceLT, Nat.reduceLeDiff, Nat.reduceEqDiff, Nat.reduceBEq, Int.reduceNeg, Int.reduceAdd, Int.reduceLT, Int.reduceLE, Int.reduceToNat, Int.reduceEq, Int.reduceNe, Int.reduceBEq, Int.reduceBNe, Int.reduceMul, Int.reduceSub, reduceIte, reduceCtorEq, aiaddr_map hx, aiaddr_map hy, argV, symV, argsV, hw])); repeat' ((first | refine at_guard (fun hb => ?_) (fun hb => ?_) | refine ⟨fun hb => ?_, fun hb => ?_⟩ | fail) <;> (try (simp -implicitDefEqProofs only [go_sem, Nat.reduceAdd, Nat.reduceSub, Nat.reduceMul, Nat.reduceLT, Nat.reduceLeDiff, Nat.reduceEqDiff, Nat.reduceBEq, Int.reduceNeg, Int.reduceAdd, Int.reduceLT, Int.reduceLE, Int.reduceToNat, Int.reduceEq, Int.reduceNe, Int.reduceBEq, Int.reduceBNe, Int.reduceMul, Int.reduceSub, reduceIte, reduceCtorEq, aiaddr_map hx, aiaddr_map hy, argV, symV, argsV, hw])))
      · rw [show (x == y) = false by rw [hxy, Bool.and_true]; simpa only [Bool.not_eq_true'] using hb, Bool.false_and] at hno
        exact h _ ⟨_, _, rfl, rfl, fitB hno⟩
      · rw [show (x == y) = true by rw [hxy]; simpa using hb, Bool.true_and] at hno
        exact at_again (n - 1) (by omega) (hI _ _ ⟨i + 1, by omega, rfl, hno⟩)
    · rw [zipB_end (by omega) (by omega)] at hno
      exact h _ ⟨_, _, rfl, rfl, fitB hno⟩
  · have hv' : v = false := by
      rw [← hv, decide_eq_false_iff_not]
      intro e
      cases e
      exact hc ⟨rfl, rfl⟩
    (try (simp -implicitDefEqProofs only [go_sem, Nat.reduceAdd, Nat.reduceSub, Nat.reduceMul, Nat.reduceLT, Nat.reduceLeDiff, Nat.reduceEqDiff, Nat.reduceBEq, Int.reduceNeg, Int.reduceAdd, Int.reduceLT, Int.reduceLE, Int.reduceToNat, Int.reduceEq, Int.reduceNe, Int.reduceBEq, Int.reduceBNe, Int.reduceMul, Int.reduceSub, reduceIte, reduceCtorEq, symV, argsV, List.length_map])); repeat' ((first | refine at_guard (fun hb => ?_) (fun hb => ?_) | refine ⟨fun hb => ?_, fun hb => ?_⟩ | fail) <;> (try (simp -implicitDefEqProofs only [go_sem, Nat.reduceAdd, Nat.reduceSub, Nat.reduceMul, Nat.reduceLT, Nat.reduceLeDiff, Nat.reduceEqDiff, Nat.reduceBEq, Int.reduceNeg, Int.reduceAdd, Int.reduceLT, Int.reduceLE, Int.reduceToNat, Int.reduceEq, Int.reduceNe, Int.reduceBEq, Int.reduceBNe, Int.reduceMul, Int.reduceSub, reduceIte, reduceCtorEq, symV, argsV, List.length_map])))
    all_goals first | exact h _ ⟨_, _, rfl, rfl, fitB hv'.symm⟩ | (exfalso; first | omega | (simp at *; done) | (simp at *; omega))
end Go.Proofs.YtdfdiglnpekcpaaDoor.Ab
