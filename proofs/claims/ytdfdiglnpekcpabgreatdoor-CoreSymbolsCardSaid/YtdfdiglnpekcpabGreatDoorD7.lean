/-
  core: expressions. No claim is proved here.
-/
import Derived.Test.YtdfdiglnpekcpabGreatDoorD5
import Derived.Test.YtdfdiglnpekcpabGreatDoorD6
namespace Go.Proofs.YtdfdiglnpekcpabGreatDoor.Ab
open Go
set_option linter.unusedSimpArgs false
set_option maxHeartbeats 4000000
variable {G : Nat → Option AV}
structure ExT where
  kind : Int
  depth : Int
  from_ : Int
deriving DecidableEq
def exV (e : ExT) : AV := .agg [iv e.kind, iv e.depth, iv e.from_]
abbrev e0 : ExT := ⟨0, 0, 0⟩
/-- What stands at a place. -/
def at? {α : Type} (l : List α) (n : Int) : Option α := if 0 ≤ n then l[n.toNat]? else none
theorem at?_some {α : Type} {l : List α} {n : Int} {y : α} (h : at? l n = some y) : ∃ i : Nat, n = i ∧ l[i]? = some y := by
  unfold at? at h
  split at h
  · exact ⟨n.toNat, by omega, h⟩
  · cases h
theorem at?_none {α : Type} {l : List α} {n : Int} (h : at? l n = none) : n < 0 ∨ (l.length : Int) ≤ n := by
  unfold at? at h
  split at h
  · rw [List.getElem?_eq_none_iff] at h; omega
  · omega
theorem at?_nat {α : Type} {l : List α} {i : Nat} {y : α} (h : l[i]? = some y) : at? l (i : Int) = some y := by
  unfold at?
  rw [if_pos (by omega)]
  exact h
def leafOf (q : QeaT) (i : Nat) (x : NodeT) : Option ExT :=
  if x.op = 1 then (if x.a = 0 ∧ x.b = 0 ∧ x.value.ok = true then some ⟨x.value.kind, 1, i⟩ else none)
  else if x.op = 2 then (if x.b = 0 ∧ x.value = v0 then (at? q.quants x.a).map fun y => ⟨y.type, 1, i⟩ else none)
  else if x.op = 3 then (if x.b = 0 ∧ x.value = v0 then (at? q.frees x.a).map fun y => ⟨y.init.kind, 1, i⟩ else none)
  else none
def leafR (r : Option ExT) : AV := .tup [exV (r.getD e0), .bool r.isSome]
theorem core_leaf_pc (q : QeaT) (i : Nat) (x : NodeT) (hx : q.nodes[i]? = some x) : PureC Tryz.prog G n_core_leaf [qeaV q, iv i] (leafR (leafOf q i x)) := by
  obtain ⟨op, a, b, ⟨vk, vn, vs, vb⟩⟩ := x
  refine pc_core_leaf (Runs.of fun Φ h => ?_)
  unfold c_core_leaf
  have hv := value_Right_pc (G := G) ⟨vk, vn, vs, vb⟩
  simp only [valV] at hv
  have hok : ∀ r, leafOf q i ⟨op, a, b, ⟨vk, vn, vs, vb⟩⟩ = some r → Fit (.tup [exV r, .bool true]) (leafR (leafOf q i ⟨op, a, b, ⟨vk, vn, vs, vb⟩⟩)) := fun r hr => fit_eq (by rw [hr]; rfl)
  have hno : leafOf q i ⟨op, a, b, ⟨vk, vn, vs, vb⟩⟩ = none → Fit (.tup [exV e0, .bool false]) (leafR (leafOf q i ⟨op, a, b, ⟨vk, vn, vs, vb⟩⟩)) := fun hr => fit_eq (by rw [hr]; rfl)
  generalize hL : leafOf q i ⟨op, a, b, ⟨vk, vn, vs, vb⟩⟩ = L at *
  by_cases h1 : op = 1
  · subst h1
    simp only [leafOf, if_pos] at hL
    (try (simp -implicitDefEqProofs only [go_sem, Nat.reduceAdd, Nat.reduceSub, Nat.reduceMul, Nat.reduceLT, Nat.reduceLeDiff, Nat.reduceEqDiff, Nat.reduceBEq, Int.reduceNeg, Int.reduceAdd, Int.reduceLT, Int.reduceLE, Int.reduceToNat, Int.reduceEq, Int.reduceNe, Int.reduceBEq, Int.reduceBNe, Int.reduceMul, Int.reduceSub, reduceIte, reduceCtorEq, aiaddr_map hx, nodeV, qeaV, declsV, quantsV, freesV, statesV, symsV, nodesV, transsV, List.length_map])); repeat' ((first | refine at_guard (fun hb => ?_) (fun hb => ?_) | refine ⟨fun hb => ?_, fun hb => ?_⟩ | refine at_call (hv) rfl rfl ?_ | fail) <;> (try (simp -implicitDefEqProofs only [go_sem, Nat.reduceAdd, Nat.reduceSub, Nat.reduceMul, Nat.reduceLT, Nat.reduceLeDiff, Nat.reduceEqDiff, Nat.reduceBEq, Int.reduceNeg, Int.reduceAdd, Int.reduceLT, Int.reduceLE, Int.reduceToNat, Int.reduceEq, Int.reduceNe, Int.reduceBEq, Int.reduceBNe, Int.reduceMul, Int.reduceSub, reduceIte, reduceCtorEq, aiaddr_map hx, nodeV, qeaV, declsV, quantsV, freesV, statesV, symsV, nodesV, transsV, List.length_map])))
    all_goals
      first | refine h _ ⟨_, _, rfl, rfl, hno ?_⟩ | refine h _ ⟨_, _, rfl, rfl, hok ⟨vk, 1, i⟩ ?_⟩
      rw [← hL]
      clear h hno hok hv hL
      simp_all
  by_cases h2 : op = 2
  · subst h2
    simp only [leafOf, if_pos, show ¬ (2 : Int) = 1 by omega, if_false] at hL
    cases hq : at? q.quants a with
    | none =>
      rw [hq] at hL
      have ha := at?_none hq
      (try (simp -implicitDefEqProofs only [go_sem, Nat.reduceAdd, Nat.reduceSub, Nat.reduceMul, Nat.reduceLT, Nat.reduceLeDiff, Nat.reduceEqDiff, Nat.reduceBEq, Int.reduceNeg, Int.reduceAdd, Int.reduceLT, Int.reduceLE, Int.reduceToNat, Int.reduceEq, Int.reduceNe, Int.reduceBEq, Int.reduceBNe, Int.reduceMul, Int.reduceSub, reduceIte, reduceCtorEq, aiaddr_map hx, nodeV, qeaV, declsV, quantsV, freesV, statesV, symsV, nodesV, transsV, List.length_map])); repeat' ((first | refine at_guard (fun hb => ?_) (fun hb => ?_) | refine ⟨fun hb => ?_, fun hb => ?_⟩ | fail) <;> (try (simp -implicitDefEqProofs only [go_sem, Nat.reduceAdd, Nat.reduceSub, Nat.reduceMul, Nat.reduceLT, Nat.reduceLeDiff, Nat.reduceEqDiff, Nat.reduceBEq, Int.reduceNeg, Int.reduceAdd, Int.reduceLT, Int.reduceLE, Int.reduceToNat, Int.reduceEq, Int.reduceNe, Int.reduceBEq, Int.reduceBNe, Int.reduceMul, Int.reduceSub, reduceIte, reduceCtorEq, aiaddr_map hx, nodeV, qeaV, declsV, quantsV, freesV, statesV, symsV, nodesV, transsV, List.length_map])))
      all_goals first | (exfalso; simp at *; omega) | skip
      all_goals
        refine h _ ⟨_, _, rfl, rfl, hno ?_⟩
        rw [← hL]
        simp
    | some y =>
      obtain ⟨j, rfl, hy⟩ := at?_some hq
      have hj := (List.getElem?_eq_some_iff.1 hy).1
      rw [hq] at hL
      (try (simp -implicitDefEqProofs only [go_sem, Nat.reduceAdd, Nat.reduceSub, Nat.reduceMul, Nat.reduceLT, Nat.reduceLeDiff, Nat.reduceEqDiff, Nat.reduceBEq, Int.reduceNeg, Int.reduceAdd, Int.reduceLT, Int.reduceLE, Int.reduceToNat, Int.reduceEq, Int.reduceNe, Int.reduceBEq, Int.reduceBNe, Int.reduceMul, Int.reduceSub, reduceIte, reduceCtorEq, aiaddr_map hx, nodeV, qeaV, declsV, quantsV, freesV, statesV, symsV, nodesV, transsV, List.length_map, aiaddr_map hy, quantV])); repeat' ((first | refine at_guard (fun hb => ?_) (fun hb => ?_) | refine ⟨fun hb => ?_, fun hb => ?_⟩ | fail) <;> (try (simp -implicitDefEqProofs only [go_sem, Nat.reduceAdd, Nat.reduceSub, Nat.reduceMul, Nat.reduceLT, Nat.reduceLeDiff, Nat.reduceEqDiff, Nat.reduceBEq, Int.reduceNeg, Int.reduceAdd, Int.reduceLT, Int.reduceLE, Int.reduceToNat, Int.reduceEq, Int.reduceNe, Int.reduceBEq, Int.reduceBNe, Int.reduceMul, Int.reduceSub, reduceIte, reduceCtorEq, aiaddr_map hx, nodeV, qeaV, declsV, quantsV, freesV, statesV, symsV, nodesV, transsV, List.length_map, aiaddr_map hy, quantV])))
      all_goals first | (exfalso; simp at *; omega) | skip
      all_goals
        first | refine h _ ⟨_, _, rfl, rfl, hno ?_⟩ | refine h _ ⟨_, _, rfl, rfl, hok ⟨y.type, 1, i⟩ ?_⟩
        rw [← hL]
        clear h hno hok hv hL
        simp_all
  by_cases h3 : op = 3
  · subst h3
    simp only [leafOf, if_pos, show ¬ (3 : Int) = 1 by omega, show ¬ (3 : Int) = 2 by omega, if_false] at hL
    cases hq : at? q.frees a with
    | none =>
      rw [hq] at hL
      have ha := at?_none hq
      (try (simp -implicitDefEqProofs only [go_sem, Nat.reduceAdd, Nat.reduceSub, Nat.reduceMul, Nat.reduceLT, Nat.reduceLeDiff, Nat.reduceEqDiff, Nat.reduceBEq, Int.reduceNeg, Int.reduceAdd, Int.reduceLT, Int.reduceLE, Int.reduceToNat, Int.reduceEq, Int.reduceNe, Int.reduceBEq, Int.reduceBNe, Int.reduceMul, Int.reduceSub, reduceIte, reduceCtorEq, aiaddr_map hx, nodeV, qeaV, declsV, quantsV, freesV, statesV, symsV, nodesV, transsV, List.length_map])); repeat' ((first | refine at_guard (fun hb => ?_) (fun hb => ?_) | refine ⟨fun hb => ?_, fun hb => ?_⟩ | fail) <;> (try (simp -implicitDefEqProofs only [go_sem, Nat.reduceAdd, Nat.reduceSub, Nat.reduceMul, Nat.reduceLT, Nat.reduceLeDiff, Nat.reduceEqDiff, Nat.reduceBEq, Int.reduceNeg, Int.reduceAdd, Int.reduceLT, Int.reduceLE, Int.reduceToNat, Int.reduceEq, Int.reduceNe, Int.reduceBEq, Int.reduceBNe, Int.reduceMul, Int.reduceSub, reduceIte, reduceCtorEq, aiaddr_map hx, nodeV, qeaV, declsV, quantsV, freesV, statesV, symsV, nodesV, transsV, List.length_map])))
      all_goals first | (exfalso; simp at *; omega) | skip
      all_goals
        refine h _ ⟨_, _, rfl, rfl, hno ?_⟩
        rw [← hL]
        simp
    | some y =>
      obtain ⟨j, rfl, hy⟩ := at?_some hq
      have hj := (List.getElem?_eq_some_iff.1 hy).1
      rw [hq] at hL
      (try (simp -implicitDefEqProofs only [go_sem, Nat.reduceAdd, Nat.reduceSub, Nat.reduceMul, Nat.reduceLT, Nat.reduceLeDiff, Nat.reduceEqDiff, Nat.reduceBEq, Int.reduceNeg, Int.reduceAdd, Int.reduceLT, Int.reduceLE, Int.reduceToNat, Int.reduceEq, Int.reduceNe, Int.reduceBEq, Int.reduceBNe, Int.reduceMul, Int.reduceSub, reduceIte, reduceCtorEq, aiaddr_map hx, nodeV, qeaV, declsV, quantsV, freesV, statesV, symsV, nodesV, transsV, List.length_map, aiaddr_map hy, freeV])); repeat' ((first | refine at_guard (fun hb => ?_) (fun hb => ?_) | refine ⟨fun hb => ?_, fun hb => ?_⟩ | fail) <;> (try (simp -implicitDefEqProofs only [go_sem, Nat.reduceAdd, Nat.reduceSub, Nat.reduceMul, Nat.reduceLT, Nat.reduceLeDiff, Nat.reduceEqDiff, Nat.reduceBEq, Int.reduceNeg, Int.reduceAdd, Int.reduceLT, Int.reduceLE, Int.reduceToNat, Int.reduceEq, Int.reduceNe, Int.reduceBEq, Int.reduceBNe, Int.reduceMul, Int.reduceSub, reduceIte, reduceCtorEq, aiaddr_map hx, nodeV, qeaV, declsV, quantsV, freesV, statesV, symsV, nodesV, transsV, List.length_map, aiaddr_map hy, freeV])))
      all_goals first | (exfalso; simp at *; omega) | skip
      all_goals
        first | refine h _ ⟨_, _, rfl, rfl, hno ?_⟩ | refine h _ ⟨_, _, rfl, rfl, hok ⟨y.init.kind, 1, i⟩ ?_⟩
        rw [← hL]
        clear h hno hok hv hL
        simp_all
  · simp only [leafOf, if_neg h1, if_neg h2, if_neg h3] at hL
    (try (simp -implicitDefEqProofs only [go_sem, Nat.reduceAdd, Nat.reduceSub, Nat.reduceMul, Nat.reduceLT, Nat.reduceLeDiff, Nat.reduceEqDiff, Nat.reduceBEq, Int.reduceNeg, Int.reduceAdd, Int.reduceLT, Int.reduceLE, Int.reduceToNat, Int.reduceEq, Int.reduceNe, Int.reduceBEq, Int.reduceBNe, Int.reduceMul, Int.reduceSub, reduceIte, reduceCtorEq, aiaddr_map hx, nodeV, qeaV, declsV, quantsV, freesV, statesV, symsV, nodesV, transsV, List.length_map])); repeat' ((first | refine at_guard (fun hb => ?_) (fun hb => ?_) | refine ⟨fun hb => ?_, fun hb => ?_⟩ | fail) <;> (try (simp -implicitDefEqProofs only [go_sem, Nat.reduceAdd, Nat.reduceSub, Nat.reduceMul, Nat.reduceLT, Nat.reduceLeDiff, Nat.reduceEqDiff, Nat.reduceBEq, Int.reduceNeg, Int.reduceAdd, Int.reduceLT, Int.reduceLE, Int.reduceToNat, Int.reduceEq, Int.reduceNe, Int.reduceBEq, Int.reduceBNe, Int.reduceMul, Int.reduceSub, reduceIte, reduceCtorEq, aiaddr_map hx, nodeV, qeaV, declsV, quantsV, freesV, statesV, symsV, nodesV, transsV, List.length_map])))
    all_goals first | (exfalso; simp at *; omega) | skip
    all_goals exact h _ ⟨_, _, rfl, rfl, hno hL.symm⟩
end Go.Proofs.YtdfdiglnpekcpabGreatDoor.Ab
