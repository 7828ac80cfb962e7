/-
  core.trans, from the inside: whole. proctorref13.Kind. No claim is proved here.
-/
import Derived.Test.YtdfdiglnpekcpabGreatDoorD9
import Derived.Test.YtdfdiglnpekcpabGreatDoorD8
namespace Go.Proofs.YtdfdiglnpekcpabGreatDoor.Ab
open Go
set_option linter.unusedSimpArgs false
set_option maxHeartbeats 4000000
variable {G : Nat → Option AV}
/-- Rows and variables that are there. -/
def subH (heap : List (Nat × Box)) : List (Nat × Box) → Prop
  | [] => True
  | (i, b) :: r => hget heap i = some b ∧ subH heap r
theorem subH.at {heap : List (Nat × Box)} : ∀ {H : List (Nat × Box)}, subH heap H → ∀ i b, hget H i = some b → hget heap i = some b
  | [], _, i, b, h => by simp [hget] at h
  | (j, c) :: r, hs, i, b, h => by
    simp only [hget] at h
    split at h
    · rename_i e; subst e; cases h; exact hs.1
    · exact hs.2.at i b h
def kindR (q : QeaT) (at_ root : Int) : Int × Int :=
  if (bAt (beL q q.nodes.length) root).kind = 0 ∨ ¬ (bAt (beL q q.nodes.length) root).from_ = at_ then (0, 0) else ((bAt (beL q q.nodes.length) root).kind, (bAt (beL q q.nodes.length) root).depth)
theorem ref13_Kind_pc (q : QeaT) (hl : q.nodes.length ≤ 1000000) (at_ root : Int) : PureC Tryz.prog G n_proctorref13_Kind [qeaV q, iv at_, iv root] (.tup [iv (kindR q at_ root).1, iv (kindR q at_ root).2]) := by
  have hb := ref13_below_pc (G := G) q hl (root.toNat + 1) root (by omega)
  unfold kindR
  generalize bAt (beL q q.nodes.length) root = b at *
  refine pc_proctorref13_Kind (Runs.of fun Φ h => ?_)
  unfold c_proctorref13_Kind
  simp only [ex3, qeaV, declsV, quantsV, freesV, statesV, symsV, nodesV, transsV] at hb
  (try (simp -implicitDefEqProofs only [go_sem, Nat.reduceAdd, Nat.reduceSub, Nat.reduceMul, Nat.reduceLT, Nat.reduceLeDiff, Nat.reduceEqDiff, Nat.reduceBEq, Int.reduceNeg, Int.reduceAdd, Int.reduceLT, Int.reduceLE, Int.reduceToNat, Int.reduceEq, Int.reduceNe, Int.reduceBEq, Int.reduceBNe, Int.reduceMul, Int.reduceSub, reduceIte, reduceCtorEq, qeaV, declsV, quantsV, freesV, statesV, symsV, nodesV, transsV])); repeat' ((first | refine at_guard (fun hb => ?_) (fun hb => ?_) | refine ⟨fun hb => ?_, fun hb => ?_⟩ | refine at_call (hb) rfl rfl ?_ | fail) <;> (try (simp -implicitDefEqProofs only [go_sem, Nat.reduceAdd, Nat.reduceSub, Nat.reduceMul, Nat.reduceLT, Nat.reduceLeDiff, Nat.reduceEqDiff, Nat.reduceBEq, Int.reduceNeg, Int.reduceAdd, Int.reduceLT, Int.reduceLE, Int.reduceToNat, Int.reduceEq, Int.reduceNe, Int.reduceBEq, Int.reduceBNe, Int.reduceMul, Int.reduceSub, reduceIte, reduceCtorEq, qeaV, declsV, quantsV, freesV, statesV, symsV, nodesV, transsV])))
  all_goals (refine h _ ⟨_, _, rfl, rfl, fit_eq ?_⟩; clear h; simp_all)
/-- Is there a whole expression, of a kind, from a place on, that ends at a root? -/
def wholeS (l : List ExT) (at_ root kind : Int) : Bool :=
  match at? l root with
  | none => false
  | some e => decide (at_ ≤ root) && (e.kind == kind && (!(kind == 0) && (e.from_ == at_ && decide (e.depth ≤ 64))))
def atBox (n : Int) : Nat × Box := (1004, ⟨false, t_int, 1, [iv n]⟩)
def exBox (l : List ExT) : Nat × Box := (1003, ⟨false, t_Score_expr, 1, [.seq 3 (l.map exV)]⟩)
theorem core_trans_1_hc (l : List ExT) (hl : l.length ≤ 1000000) (at_ root kind : Int) (ha : 0 ≤ at_) :
    HeapC Tryz.prog G n_core_trans_1 [iv root, iv kind, .ref 1004 0 0, .ref 1003 0 0] [atBox at_, exBox l] (.bool (wholeS l at_ root kind)) [atBox (if wholeS l at_ root kind = true then root + 1 else at_), exBox l] := by
  refine HeapC.of_runs Tryz.func116 k_core_trans_1 rfl (by rfl) (RunsH.of fun Φ h => ?_)
  unfold c_core_trans_1
  have fin0 : wholeS l at_ root kind = false → Φ ⟨48, [(6, .bool false)], [atBox at_, exBox l]⟩ := fun hw => h _ ⟨_, _, Weak.refl _, rfl, fitB hw.symm, fun i b hb => by rw [hw] at hb; exact hb⟩
  have fin1 : wholeS l at_ root kind = true → Φ ⟨48, [(6, .bool true)], [atBox (root + 1), exBox l]⟩ := fun hw => h _ ⟨_, _, Weak.refl _, rfl, fitB hw.symm, fun i b hb => by rw [hw] at hb; exact hb⟩
  clear h
  cases hr : at? l root with
  | none =>
    have hw : wholeS l at_ root kind = false := by simp [wholeS, hr]
    have hn := at?_none hr
    (try (simp -implicitDefEqProofs only [go_sem, Nat.reduceAdd, Nat.reduceSub, Nat.reduceMul, Nat.reduceLT, Nat.reduceLeDiff, Nat.reduceEqDiff, Nat.reduceBEq, Int.reduceNeg, Int.reduceAdd, Int.reduceLT, Int.reduceLE, Int.reduceToNat, Int.reduceEq, Int.reduceNe, Int.reduceBEq, Int.reduceBNe, Int.reduceMul, Int.reduceSub, reduceIte, reduceCtorEq, atBox, exBox, List.length_map])); repeat' ((first | refine at_guard (fun hb => ?_) (fun hb => ?_) | refine ⟨fun hb => ?_, fun hb => ?_⟩ | fail) <;> (try (simp -implicitDefEqProofs only [go_sem, Nat.reduceAdd, Nat.reduceSub, Nat.reduceMul, Nat.reduceLT, Nat.reduceLeDiff, Nat.reduceEqDiff, Nat.reduceBEq, Int.reduceNeg, Int.reduceAdd, Int.reduceLT, Int.reduceLE, Int.reduceToNat, Int.reduceEq, Int.reduceNe, Int.reduceBEq, Int.reduceBNe, Int.reduceMul, Int.reduceSub, reduceIte, reduceCtorEq, atBox, exBox, List.length_map])))
    all_goals first | exact fin0 hw | (exfalso; simp at *; omega)
  | some e =>
    obtain ⟨i, rfl, hi⟩ := at?_some hr
    have hlt := (List.getElem?_eq_some_iff.1 hi).1
    have hww := wrap_succ hlt (by omega)
    unfold wholeS at fin0 fin1
    rw [hr] at fin0 fin1
    (try (simp -implicitDefEqProofs only [go_sem, Nat.reduceAdd, Nat.reduceSub, Nat.reduceMul, Nat.reduceLT, Nat.reduceLeDiff, Nat.reduceEqDiff, Nat.reduceBEq, Int.reduceNeg, Int.reduceAdd, Int.reduceLT, Int.reduceLE, Int.reduceToNat, Int.reduceEq, Int.reduceNe, Int.reduceBEq, Int.reduceBNe, Int.reduceMul, Int.reduceSub, reduceIte, reduceCtorEq, atBox, exBox, List.length_map, aiaddr_map hi, exV, hww])); repeat' ((first | refine at_guard (fun hb => ?_) (fun hb => ?_) | refine ⟨fun hb => ?_, fun hb => ?_⟩ | fail) <;> (try (simp -implicitDefEqProofs only [go_sem, Nat.reduceAdd, Nat.reduceSub, Nat.reduceMul, Nat.reduceLT, Nat.reduceLeDiff, Nat.reduceEqDiff, Nat.reduceBEq, Int.reduceNeg, Int.reduceAdd, Int.reduceLT, Int.reduceLE, Int.reduceToNat, Int.reduceEq, Int.reduceNe, Int.reduceBEq, Int.reduceBNe, Int.reduceMul, Int.reduceSub, reduceIte, reduceCtorEq, atBox, exBox, List.length_map, aiaddr_map hi, exV, hww])))
    all_goals first | refine fin0 ?_ | refine fin1 ?_
    all_goals
      clear fin0 fin1 hww
      try rw [Bool.eq_iff_iff]
      simp at *
      try omega
/-- Does a variable stand in a symbol? -/
def standsS (s : SymT) (v : Int) : Bool := s.args.any fun x => (⟨2, v, v0⟩ : ArgT) == x
theorem core_Stands_pc (s : SymT) (hs : s.args.length < 9223372036854775807) (v : Int) : PureC Tryz.prog G n_core_Stands [symV s, iv v] (.bool (standsS s v)) := by
  refine pc_core_Stands (Runs.of fun Φ h => ?_)
  unfold c_core_Stands
  have hc := slices_Contains_api_Arg_api_Arg_pc (G := G) s.args ⟨2, v, v0⟩ hs
  simp only [argV] at hc
  (try (simp -implicitDefEqProofs only [go_sem, Nat.reduceAdd, Nat.reduceSub, Nat.reduceMul, Nat.reduceLT, Nat.reduceLeDiff, Nat.reduceEqDiff, Nat.reduceBEq, Int.reduceNeg, Int.reduceAdd, Int.reduceLT, Int.reduceLE, Int.reduceToNat, Int.reduceEq, Int.reduceNe, Int.reduceBEq, Int.reduceBNe, Int.reduceMul, Int.reduceSub, reduceIte, reduceCtorEq, symV, argsV])); repeat' ((first | refine at_guard (fun hb => ?_) (fun hb => ?_) | refine ⟨fun hb => ?_, fun hb => ?_⟩ | refine at_call (hc) rfl rfl ?_ | fail) <;> (try (simp -implicitDefEqProofs only [go_sem, Nat.reduceAdd, Nat.reduceSub, Nat.reduceMul, Nat.reduceLT, Nat.reduceLeDiff, Nat.reduceEqDiff, Nat.reduceBEq, Int.reduceNeg, Int.reduceAdd, Int.reduceLT, Int.reduceLE, Int.reduceToNat, Int.reduceEq, Int.reduceNe, Int.reduceBEq, Int.reduceBNe, Int.reduceMul, Int.reduceSub, reduceIte, reduceCtorEq, symV, argsV])))
  all_goals (refine h _ ⟨_, _, rfl, rfl, fit_eq ?_⟩; clear h; first | rfl | simp_all [standsS])
theorem core_trans_2_2_pc (q : QeaT) (t : TransT) (s : SymT) (hs : at? q.symbols t.symbol = some s) (hl : s.args.length < 9223372036854775807) (i : Int) (x : NodeT) : PureC Tryz.prog G n_core_trans_2_2 [iv i, nodeV x, .eptr (qeaV q) 0, .eptr (transV t) 0] (.bool (!(x.op == 2) || standsS s x.a)) := by
  obtain ⟨j, hj, hsj⟩ := at?_some hs
  obtain ⟨t1, t2, t3, t4, t5⟩ := t
  dsimp only at hj
  subst hj
  refine pc_core_trans_2_2 (Runs.of fun Φ h => ?_)
  unfold c_core_trans_2_2
  have hc := core_Stands_pc (G := G) s hl x.a
  simp only [symV, argsV] at hc
  (try (simp -implicitDefEqProofs only [go_sem, Nat.reduceAdd, Nat.reduceSub, Nat.reduceMul, Nat.reduceLT, Nat.reduceLeDiff, Nat.reduceEqDiff, Nat.reduceBEq, Int.reduceNeg, Int.reduceAdd, Int.reduceLT, Int.reduceLE, Int.reduceToNat, Int.reduceEq, Int.reduceNe, Int.reduceBEq, Int.reduceBNe, Int.reduceMul, Int.reduceSub, reduceIte, reduceCtorEq, nodeV, transV, setsV, symV, argsV, qeaV, declsV, quantsV, freesV, statesV, symsV, nodesV, transsV, aiaddr_map hsj])); repeat' ((first | refine at_guard (fun hb => ?_) (fun hb => ?_) | refine ⟨fun hb => ?_, fun hb => ?_⟩ | refine at_call (hc) rfl rfl ?_ | fail) <;> (try (simp -implicitDefEqProofs only [go_sem, Nat.reduceAdd, Nat.reduceSub, Nat.reduceMul, Nat.reduceLT, Nat.reduceLeDiff, Nat.reduceEqDiff, Nat.reduceBEq, Int.reduceNeg, Int.reduceAdd, Int.reduceLT, Int.reduceLE, Int.reduceToNat, Int.reduceEq, Int.reduceNe, Int.reduceBEq, Int.reduceBNe, Int.reduceMul, Int.reduceSub, reduceIte, reduceCtorEq, nodeV, transV, setsV, symV, argsV, qeaV, declsV, quantsV, freesV, statesV, symsV, nodesV, transsV, aiaddr_map hsj])))
  all_goals (refine h _ ⟨_, _, rfl, rfl, fit_eq ?_⟩; clear h; first | rfl | simp_all)
theorem core_trans_2_1_1_pc (x s : SetT) : PureC Tryz.prog G n_core_trans_2_1_1 [setV x, .eptr (setV s) 0] (.bool (x.free == s.free)) := by
  refine pc_core_trans_2_1_1 (Runs.of fun Φ h => ?_)
  unfold c_core_trans_2_1_1
  (try (simp -implicitDefEqProofs only [go_sem, Nat.reduceAdd, Nat.reduceSub, Nat.reduceMul, Nat.reduceLT, Nat.reduceLeDiff, Nat.reduceEqDiff, Nat.reduceBEq, Int.reduceNeg, Int.reduceAdd, Int.reduceLT, Int.reduceLE, Int.reduceToNat, Int.reduceEq, Int.reduceNe, Int.reduceBEq, Int.reduceBNe, Int.reduceMul, Int.reduceSub, reduceIte, reduceCtorEq, setV])); repeat' ((first | refine at_guard (fun hb => ?_) (fun hb => ?_) | refine ⟨fun hb => ?_, fun hb => ?_⟩ | fail) <;> (try (simp -implicitDefEqProofs only [go_sem, Nat.reduceAdd, Nat.reduceSub, Nat.reduceMul, Nat.reduceLT, Nat.reduceLeDiff, Nat.reduceEqDiff, Nat.reduceBEq, Int.reduceNeg, Int.reduceAdd, Int.reduceLT, Int.reduceLE, Int.reduceToNat, Int.reduceEq, Int.reduceNe, Int.reduceBEq, Int.reduceBNe, Int.reduceMul, Int.reduceSub, reduceIte, reduceCtorEq, setV])))
  all_goals (refine h _ ⟨_, _, rfl, rfl, fit_eq ?_⟩; clear h; first | rfl | simp_all)
theorem okC_set (s : SetT) : OkC [.eptr (setV s) 0] := ⟨fun _ => rfl, fun _ _ => rfl, fun _ => rfl, fun _ _ => rfl, fun _ => rfl, fun _ => rfl⟩
end Go.Proofs.YtdfdiglnpekcpabGreatDoor.Ab
