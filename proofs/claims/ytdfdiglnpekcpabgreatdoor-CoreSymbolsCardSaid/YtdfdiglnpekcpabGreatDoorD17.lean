/-
  proctorref13.symbol. No claim is proved here.
-/
import Derived.Test.YtdfdiglnpekcpabGreatDoorD15
namespace Go.Proofs.YtdfdiglnpekcpabGreatDoor.Ab
open Go
set_option linter.unusedSimpArgs false
set_option maxHeartbeats 4000000
variable {G : Nat → Option AV}
theorem ref13_symbol_pc (q : QeaT) (s : SymT) (hs : s.args.length < 9223372036854775807) : PureC Tryz.prog G n_proctorref13_symbol [qeaV q, symV s] (.bool (symS q s)) := by
  obtain ⟨ev, l⟩ := s
  dsimp only at hs
  refine pc_proctorref13_symbol (Runs.of fun Φ h => ?_)
  unfold c_proctorref13_symbol
  generalize hv : symS q ⟨ev, l⟩ = v at *
  simp only [symS] at hv
  cases hd : at? q.decls ev with
  | none =>
    rw [hd] at hv
    have hn := at?_none hd
    (try (simp -implicitDefEqProofs only [go_sem, Nat.reduceAdd, Nat.reduceSub, Nat.reduceMul, Nat.reduceLT, Nat.reduceLeDiff, Nat.reduceEqDiff, Nat.reduceBEq, Int.reduceNeg, Int.reduceAdd, Int.reduceLT, Int.reduceLE, Int.reduceToNat, Int.reduceEq, Int.reduceNe, Int.reduceBEq, Int.reduceBNe, Int.reduceMul, Int.reduceSub, reduceIte, reduceCtorEq, symV, argsV, qeaV, declsV, quantsV, freesV, statesV, symsV, nodesV, transsV, List.length_map])); repeat' ((first | refine at_guard (fun hb => ?_) (fun hb => ?_) | refine ⟨fun hb => ?_, fun hb => ?_⟩ | fail) <;> (try (simp -implicitDefEqProofs only [go_sem, Nat.reduceAdd, Nat.reduceSub, Nat.reduceMul, Nat.reduceLT, Nat.reduceLeDiff, Nat.reduceEqDiff, Nat.reduceBEq, Int.reduceNeg, Int.reduceAdd, Int.reduceLT, Int.reduceLE, Int.reduceToNat, Int.reduceEq, Int.reduceNe, Int.reduceBEq, Int.reduceBNe, Int.reduceMul, Int.reduceSub, reduceIte, reduceCtorEq, symV, argsV, qeaV, declsV, quantsV, freesV, statesV, symsV, nodesV, transsV, List.length_map])))
    all_goals first | exact h _ ⟨_, _, rfl, rfl, fitB hv⟩ | (exfalso; first | omega | (simp at *; done) | (simp at *; omega))
  | some d =>
    obtain ⟨j, rfl, hj⟩ := at?_some hd
    have hlt := (List.getElem?_eq_some_iff.1 hj).1
    rw [hd] at hv
    dsimp only at hv
    by_cases hlk : l.length = d.types.length
    · (try (simp -implicitDefEqProofs only [go_sem, Nat.reduceAdd, Nat.reduceSub, Nat.reduceMul, Nat.reduceLT, Nat.reduceLeDiff, Nat.reduceEqDiff, Nat.reduceBEq, Int.reduceNeg, Int.reduceAdd, Int.reduceLT, Int.reduceLE, Int.reduceToNat, Int.reduceEq, Int.reduceNe, Int.reduceBEq, Int.reduceBNe, Int.reduceMul, Int.reduceSub, reduceIte, reduceCtorEq, symV, argsV, qeaV, declsV, quantsV, freesV, statesV, symsV, nodesV, transsV, List.length_map, aiaddr_map hj, declV, intsV])); repeat' ((first | refine at_guard (fun hb => ?_) (fun hb => ?_) | refine ⟨fun hb => ?_, fun hb => ?_⟩ | fail) <;> (try (simp -implicitDefEqProofs only [go_sem, Nat.reduceAdd, Nat.reduceSub, Nat.reduceMul, Nat.reduceLT, Nat.reduceLeDiff, Nat.reduceEqDiff, Nat.reduceBEq, Int.reduceNeg, Int.reduceAdd, Int.reduceLT, Int.reduceLE, Int.reduceToNat, Int.reduceEq, Int.reduceNe, Int.reduceBEq, Int.reduceBNe, Int.reduceMul, Int.reduceSub, reduceIte, reduceCtorEq, symV, argsV, qeaV, declsV, quantsV, freesV, statesV, symsV, nodesV, transsV, List.length_map, aiaddr_map hj, declV, intsV])))
      all_goals try (exfalso; first | omega | (simp at *; done) | (simp at *; omega))
      refine at_loop (fun n st => ∃ i : Nat, i + n = l.length ∧ st = ⟨56, [(2, .ref 2 0 0), (3, .ref 3 0 0), (5, iv i)], [(2, ⟨false, t_api_Qea, 9, [qeaV q]⟩), (3, ⟨false, t_api_Symbol, 2, [symV ⟨j, l⟩]⟩)]⟩ ∧ zipB (argS q) (l.drop i) (d.types.drop i) = v) l.length ⟨0, by simp, rfl, hv⟩ ?_
      rintro I hI n st ⟨i, hi, rfl, hno⟩
      simp -implicitDefEqProofs only [go_sem, Nat.reduceAdd, Nat.reduceSub, Nat.reduceMul, Nat.reduceLT, Nat.reduceLeDiff, Nat.reduceEqDiff, Nat.reduceBEq, Int.reduceNeg, Int.reduceAdd, Int.reduceLT, Int.reduceLE, Int.reduceToNat, Int.reduceEq, Int.reduceNe, Int.reduceBEq, Int.reduceBNe, Int.reduceMul, Int.reduceSub, reduceIte, reduceCtorEq, symV, argsV, qeaV, declsV, quantsV, freesV, statesV, symsV, nodesV, transsV, List.length_map]
      refine ⟨fun hlt => ?_, fun hge => ?_⟩
      · have hlt' : i < l.length := by omega
        obtain ⟨x, hx, hm⟩ := at_some hlt'
        obtain ⟨y, hy, hm'⟩ := at_some (l := d.types) (i := i) (by omega)
        have hw := wrap_succ hlt' (by omega)
        have hc := proctorref13_arg_pc (G := G) q x y
        rw [zipB_step hx hy] at hno
        simp only [argV, qeaV, declsV, quantsV, freesV, statesV, symsV, nodesV, transsV] at hc
        (try (simp -implicitDefEqProofs only [go_sem, Nat.reduceAdd, Nat.reduceSub, Nat.reduceMul, Nat.reduceLT, Nat.reduceLeDiff, Nat.reduceEqDiff, Nat.reduceBEq, Int.reduceNeg, Int.reduceAdd, Int.reduceLT, Int.reduceLE, Int.reduceToNat, Int.reduceEq, Int.reduceNe, Int.reduceBEq, Int.reduceBNe, Int.reduceMul, Int.reduceSub, reduceIte, reduceCtorEq, aiaddr_map hx, aiaddr_map hj, aiaddr_map hy, argV, symV, argsV, declV, intsV, qeaV, declsV, quantsV, freesV, statesV, symsV, nodesV, transsV, hw])); repeat' ((first | refine at_guard (fun hb => ?_) (fun hb => ?_) | refine ⟨fun hb => ?_, fun hb => ?_⟩ | refine at_call (hc) rfl rfl ?_ | fail) <;> (try (simp -implicitDefEqProofs only [go_sem, Nat.reduceAdd, Nat.reduceSub, Nat.reduceMul, Nat.reduceLT, Nat.reduceLeDiff, Nat.reduceEqDiff, Nat.reduceBEq, Int.reduceNeg, Int.reduceAdd, Int.reduceLT, Int.reduceLE, Int.reduceToNat, Int.reduceEq, Int.reduceNe, Int.reduceBEq, Int.reduceBNe, Int.reduceMul, Int.reduceSub, reduceIte, reduceCtorEq, aiaddr_map hx, aiaddr_map hj, aiaddr_map hy, argV, symV, argsV, declV, intsV, qeaV, declsV, quantsV, freesV, statesV, symsV, nodesV, transsV, hw])))
        · rw [show argS q x y = false by simpa using hb, Bool.false_and] at hno
          exact h _ ⟨_, _, rfl, rfl, fitB hno⟩
        · rw [show argS q x y = true by simpa using hb, Bool.true_and] at hno
          exact at_again (n - 1) (by omega) (hI _ _ ⟨i + 1, by omega, rfl, hno⟩)
      · rw [zipB_end (by omega) (by omega)] at hno
        exact h _ ⟨_, _, rfl, rfl, fitB hno⟩
    · rw [zipB_len hlk] at hv
      (try (simp -implicitDefEqProofs only [go_sem, Nat.reduceAdd, Nat.reduceSub, Nat.reduceMul, Nat.reduceLT, Nat.reduceLeDiff, Nat.reduceEqDiff, Nat.reduceBEq, Int.reduceNeg, Int.reduceAdd, Int.reduceLT, Int.reduceLE, Int.reduceToNat, Int.reduceEq, Int.reduceNe, Int.reduceBEq, Int.reduceBNe, Int.reduceMul, Int.reduceSub, reduceIte, reduceCtorEq, symV, argsV, qeaV, declsV, quantsV, freesV, statesV, symsV, nodesV, transsV, List.length_map, aiaddr_map hj, declV, intsV])); repeat' ((first | refine at_guard (fun hb => ?_) (fun hb => ?_) | refine ⟨fun hb => ?_, fun hb => ?_⟩ | fail) <;> (try (simp -implicitDefEqProofs only [go_sem, Nat.reduceAdd, Nat.reduceSub, Nat.reduceMul, Nat.reduceLT, Nat.reduceLeDiff, Nat.reduceEqDiff, Nat.reduceBEq, Int.reduceNeg, Int.reduceAdd, Int.reduceLT, Int.reduceLE, Int.reduceToNat, Int.reduceEq, Int.reduceNe, Int.reduceBEq, Int.reduceBNe, Int.reduceMul, Int.reduceSub, reduceIte, reduceCtorEq, symV, argsV, qeaV, declsV, quantsV, freesV, statesV, symsV, nodesV, transsV, List.length_map, aiaddr_map hj, declV, intsV])))
      all_goals first | exact h _ ⟨_, _, rfl, rfl, fitB hv⟩ | (exfalso; first | omega | (simp at *; done) | (simp at *; omega))
end Go.Proofs.YtdfdiglnpekcpabGreatDoor.Ab
