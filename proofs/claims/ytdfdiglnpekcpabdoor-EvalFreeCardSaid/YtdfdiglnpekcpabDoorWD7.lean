/-
  proctorref03: the order of texts and values, what operators make of values. Automata's parts as values; slices' and core's generic functions over them. Names, in plain words: bytes, signs, words. strings, schema, proctorref07: names and declarations. schema, proctorref07: declarations. proctorref01, proctorref03, proctorref13.Type: what operators make of empty values. core: expressions. No claim is proved here.
-/
import Derived.Test.YtdfdiglnpekcpabDoorWV3
import Derived.Test.YtdfdiglnpekcpabDoorWD1
import Derived.Test.YtdfdiglnpekcpabDoorWN0
namespace Go.Proofs.YtdfdiglnpekcpabDoor.Ab
open Go
set_option linter.unusedSimpArgs false
set_option maxHeartbeats 4000000
set_option maxRecDepth 100000
variable {G : Nat → Option AV}
theorem drop_at {α : Type} {l : List α} {i : Nat} {x : α} (h : l[i]? = some x) : l.drop i = x :: l.drop (i + 1) := by
  obtain ⟨hlt, rfl⟩ := List.getElem?_eq_some_iff.1 h
  exact List.drop_eq_getElem_cons hlt
end Go.Proofs.YtdfdiglnpekcpabDoor.Ab
namespace Go.Proofs.YtdfdiglnpekcpabDoor.Ab
open Go
set_option linter.unusedSimpArgs false
set_option maxHeartbeats 4000000
variable {G : Nat → Option AV}
structure ArgT where
  kind : Int
  n : Int
  value : Val
deriving DecidableEq
def argV (a : ArgT) : AV := .agg [iv a.kind, iv a.n, iv a.value.kind, iv a.value.int, .str a.value.str, .bool a.value.bool]
structure SymT where
  event : Int
  args : List ArgT
deriving DecidableEq
def argsV (l : List ArgT) : AV := .seq 6 (l.map argV)
def symV (s : SymT) : AV := .agg [iv s.event, argsV s.args]
structure NodeT where
  op : Int
  a : Int
  b : Int
  value : Val
deriving DecidableEq
def nodeV (x : NodeT) : AV := .agg [iv x.op, iv x.a, iv x.b, iv x.value.kind, iv x.value.int, .str x.value.str, .bool x.value.bool]
structure QuantT where
  all : Bool
  name : Str
  type : Int
deriving DecidableEq
def quantV (x : QuantT) : AV := .agg [.bool x.all, .str x.name, iv x.type]
structure FreeT where
  name : Str
  init : Val
deriving DecidableEq
def freeV (x : FreeT) : AV := .agg [.str x.name, iv x.init.kind, iv x.init.int, .str x.init.str, .bool x.init.bool]
structure StateT where
  name : Str
  next : Bool
  accept : Bool
deriving DecidableEq
def stateV (x : StateT) : AV := .agg [.str x.name, .bool x.next, .bool x.accept]
structure SetT where
  free : Int
  expr : Int
deriving DecidableEq
def setV (x : SetT) : AV := .agg [iv x.free, iv x.expr]
def setsV (l : List SetT) : AV := .seq 2 (l.map setV)
structure TransT where
  from_ : Int
  symbol : Int
  to_ : Int
  guard : Int
  sets : List SetT
deriving DecidableEq
def transV (x : TransT) : AV := .agg [iv x.from_, iv x.symbol, iv x.to_, iv x.guard, setsV x.sets]
structure DeclT where
  name : Str
  types : List Int
deriving DecidableEq
def intsV (l : List Int) : AV := .seq 1 (l.map iv)
def declV (x : DeclT) : AV := .agg [.str x.name, intsV x.types]
structure QeaT where
  name : Str
  decls : List DeclT
  quants : List QuantT
  frees : List FreeT
  states : List StateT
  start : Int
  symbols : List SymT
  nodes : List NodeT
  trans : List TransT
deriving DecidableEq
def declsV (l : List DeclT) : AV := .seq 2 (l.map declV)
def quantsV (l : List QuantT) : AV := .seq 3 (l.map quantV)
def freesV (l : List FreeT) : AV := .seq 5 (l.map freeV)
def statesV (l : List StateT) : AV := .seq 3 (l.map stateV)
def symsV (l : List SymT) : AV := .seq 2 (l.map symV)
def nodesV (l : List NodeT) : AV := .seq 7 (l.map nodeV)
def transsV (l : List TransT) : AV := .seq 5 (l.map transV)
def qeaV (q : QeaT) : AV := .agg [.str q.name, declsV q.decls, quantsV q.quants, freesV q.frees, statesV q.states, iv q.start, symsV q.symbols, nodesV q.nodes, transsV q.trans]
end Go.Proofs.YtdfdiglnpekcpabDoor.Ab
namespace Go.Proofs.YtdfdiglnpekcpabDoor.Ab
open Go
end Go.Proofs.YtdfdiglnpekcpabDoor.Ab
namespace Go.Proofs.YtdfdiglnpekcpabDoor.Ab
open Go
set_option linter.unusedSimpArgs false
set_option maxHeartbeats 4000000
variable {G : Nat → Option AV}
end Go.Proofs.YtdfdiglnpekcpabDoor.Ab
namespace Go.Proofs.YtdfdiglnpekcpabDoor.Ab
open Go
set_option linter.unusedSimpArgs false
set_option maxHeartbeats 4000000
variable {G : Nat → Option AV}
end Go.Proofs.YtdfdiglnpekcpabDoor.Ab
namespace Go.Proofs.YtdfdiglnpekcpabDoor.Ab
open Go
set_option linter.unusedSimpArgs false
set_option maxHeartbeats 4000000
variable {G : Nat → Option AV}
end Go.Proofs.YtdfdiglnpekcpabDoor.Ab
namespace Go.Proofs.YtdfdiglnpekcpabDoor.Ab
open Nat renaming reduceAdd → zq0, reduceSub → zq1, reduceMul → zq2, reduceLT → zq3, reduceLeDiff → zq4, reduceEqDiff → zq5, reduceBEq → zq6
open Int renaming reduceNeg → zq7, reduceAdd → zq8, reduceLT → zq9, reduceLE → zq10, reduceToNat → zq11, reduceEq → zq12, reduceNe → zq13, reduceBEq → zq14, reduceBNe → zq15, reduceMul → zq16, reduceSub → zq17
open Go
set_option linter.unusedSimpArgs false
set_option maxHeartbeats 4000000
variable {G : Nat → Option AV}
structure ExT where
  kind : Int
  depth : Int
  from_ : Int
deriving DecidableEq
def exV (e : ExT) : AV := .agg [iv e.kind, iv e.depth, iv e.from_]
abbrev e0 : ExT := ⟨0, 0, 0⟩
/-- What stands at a place. -/
def at? {α : Type} (l : List α) (n : Int) : Option α := if 0 ≤ n then l[n.toNat]? else none
theorem at?_some {α : Type} {l : List α} {n : Int} {y : α} (h : at? l n = some y) : ∃ i : Nat, n = i ∧ l[i]? = some y := by
  unfold at? at h
  split at h
  · exact ⟨n.toNat, by omega, h⟩
  · cases h
theorem at?_none {α : Type} {l : List α} {n : Int} (h : at? l n = none) : n < 0 ∨ (l.length : Int) ≤ n := by
  unfold at? at h
  split at h
  · rw [List.getElem?_eq_none_iff] at h; omega
  · omega
theorem at?_nat {α : Type} {l : List α} {i : Nat} {y : α} (h : l[i]? = some y) : at? l (i : Int) = some y := by
  unfold at?
  rw [if_pos (by omega)]
  exact h
def leafOf (q : QeaT) (i : Nat) (x : NodeT) : Option ExT :=
  if x.op = 1 then (if x.a = 0 ∧ x.b = 0 ∧ x.value.ok = true then some ⟨x.value.kind, 1, i⟩ else none)
  else if x.op = 2 then (if x.b = 0 ∧ x.value = v0 then (at? q.quants x.a).map fun y => ⟨y.type, 1, i⟩ else none)
  else if x.op = 3 then (if x.b = 0 ∧ x.value = v0 then (at? q.frees x.a).map fun y => ⟨y.init.kind, 1, i⟩ else none)
  else none
def leafR (r : Option ExT) : AV := .tup [exV (r.getD e0), .bool r.isSome]
theorem core_leaf_pc (q : QeaT) (i : Nat) (x : NodeT) (hx : q.nodes[i]? = some x) : PureC Tryd.prog G n_core_leaf [qeaV q, iv i] (leafR (leafOf q i x)) := by
  obtain ⟨op, a, b, ⟨vk, vn, vs, vb⟩⟩ := x
  refine pc_core_leaf (Runs.of fun Φ h => ?_)
  unfold c_core_leaf
  have hv := value_Right_pc (G := G) ⟨vk, vn, vs, vb⟩
  simp only [valV] at hv
  have hok : ∀ r, leafOf q i ⟨op, a, b, ⟨vk, vn, vs, vb⟩⟩ = some r → Fit (.tup [exV r, .bool true]) (leafR (leafOf q i ⟨op, a, b, ⟨vk, vn, vs, vb⟩⟩)) := fun r hr => fit_eq (by rw [hr]; rfl)
  have hno : leafOf q i ⟨op, a, b, ⟨vk, vn, vs, vb⟩⟩ = none → Fit (.tup [exV e0, .bool false]) (leafR (leafOf q i ⟨op, a, b, ⟨vk, vn, vs, vb⟩⟩)) := fun hr => fit_eq (by rw [hr]; rfl)
  generalize hL : leafOf q i ⟨op, a, b, ⟨vk, vn, vs, vb⟩⟩ = L at *
  by_cases h1 : op = 1
  · subst h1
    simp only [leafOf, if_pos] at hL
    (try (simp -implicitDefEqProofs only [go_sem, zq0, zq1, zq2, zq3, zq4, zq5, zq6, zq7, zq8, zq9, zq10, zq11, zq12, zq13, zq14, zq15, zq16, zq17, reduceIte, reduceCtorEq, aiaddr_map hx, nodeV, qeaV, declsV, quantsV, freesV, statesV, symsV, nodesV, transsV, List.length_map])); repeat' ((first | refine at_guard (fun hb => ?_) (fun hb => ?_) | refine ⟨fun hb => ?_, fun hb => ?_⟩ | refine at_call (hv) rfl rfl ?_ | fail) <;> (try (simp -implicitDefEqProofs only [go_sem, zq0, zq1, zq2, zq3, zq4, zq5, zq6, zq7, zq8, zq9, zq10, zq11, zq12, zq13, zq14, zq15, zq16, zq17, reduceIte, reduceCtorEq, aiaddr_map hx, nodeV, qeaV, declsV, quantsV, freesV, statesV, symsV, nodesV, transsV, List.length_map])))
    all_goals
      first | refine h _ ⟨_, _, rfl, rfl, hno ?_⟩ | refine h _ ⟨_, _, rfl, rfl, hok ⟨vk, 1, i⟩ ?_⟩
      rw [← hL]
      clear h hno hok hv hL
      simp_all
  by_cases h2 : op = 2
  · subst h2
    simp only [leafOf, if_pos, show ¬ (2 : Int) = 1 by omega, if_false] at hL
    cases hq : at? q.quants a with
    | none =>
      rw [hq] at hL
      have ha := at?_none hq
      (try (simp -implicitDefEqProofs only [go_sem, zq0, zq1, zq2, zq3, zq4, zq5, zq6, zq7, zq8, zq9, zq10, zq11, zq12, zq13, zq14, zq15, zq16, zq17, reduceIte, reduceCtorEq, aiaddr_map hx, nodeV, qeaV, declsV, quantsV, freesV, statesV, symsV, nodesV, transsV, List.length_map])); repeat' ((first | refine at_guard (fun hb => ?_) (fun hb => ?_) | refine ⟨fun hb => ?_, fun hb => ?_⟩ | fail) <;> (try (simp -implicitDefEqProofs only [go_sem, zq0, zq1, zq2, zq3, zq4, zq5, zq6, zq7, zq8, zq9, zq10, zq11, zq12, zq13, zq14, zq15, zq16, zq17, reduceIte, reduceCtorEq, aiaddr_map hx, nodeV, qeaV, declsV, quantsV, freesV, statesV, symsV, nodesV, transsV, List.length_map])))
      all_goals first | (exfalso; simp at *; omega) | skip
      all_goals
        refine h _ ⟨_, _, rfl, rfl, hno ?_⟩
        rw [← hL]
        simp
    | some y =>
      obtain ⟨j, rfl, hy⟩ := at?_some hq
      have hj := (List.getElem?_eq_some_iff.1 hy).1
      rw [hq] at hL
      (try (simp -implicitDefEqProofs only [go_sem, zq0, zq1, zq2, zq3, zq4, zq5, zq6, zq7, zq8, zq9, zq10, zq11, zq12, zq13, zq14, zq15, zq16, zq17, reduceIte, reduceCtorEq, aiaddr_map hx, nodeV, qeaV, declsV, quantsV, freesV, statesV, symsV, nodesV, transsV, List.length_map, aiaddr_map hy, quantV])); repeat' ((first | refine at_guard (fun hb => ?_) (fun hb => ?_) | refine ⟨fun hb => ?_, fun hb => ?_⟩ | fail) <;> (try (simp -implicitDefEqProofs only [go_sem, zq0, zq1, zq2, zq3, zq4, zq5, zq6, zq7, zq8, zq9, zq10, zq11, zq12, zq13, zq14, zq15, zq16, zq17, reduceIte, reduceCtorEq, aiaddr_map hx, nodeV, qeaV, declsV, quantsV, freesV, statesV, symsV, nodesV, transsV, List.length_map, aiaddr_map hy, quantV])))
      all_goals first | (exfalso; simp at *; omega) | skip
      all_goals
        first | refine h _ ⟨_, _, rfl, rfl, hno ?_⟩ | refine h _ ⟨_, _, rfl, rfl, hok ⟨y.type, 1, i⟩ ?_⟩
        rw [← hL]
        clear h hno hok hv hL
        simp_all
  by_cases h3 : op = 3
  · subst h3
    simp only [leafOf, if_pos, show ¬ (3 : Int) = 1 by omega, show ¬ (3 : Int) = 2 by omega, if_false] at hL
    cases hq : at? q.frees a with
    | none =>
      rw [hq] at hL
      have ha := at?_none hq
      (try (simp -implicitDefEqProofs only [go_sem, zq0, zq1, zq2, zq3, zq4, zq5, zq6, zq7, zq8, zq9, zq10, zq11, zq12, zq13, zq14, zq15, zq16, zq17, reduceIte, reduceCtorEq, aiaddr_map hx, nodeV, qeaV, declsV, quantsV, freesV, statesV, symsV, nodesV, transsV, List.length_map])); repeat' ((first | refine at_guard (fun hb => ?_) (fun hb => ?_) | refine ⟨fun hb => ?_, fun hb => ?_⟩ | fail) <;> (try (simp -implicitDefEqProofs only [go_sem, zq0, zq1, zq2, zq3, zq4, zq5, zq6, zq7, zq8, zq9, zq10, zq11, zq12, zq13, zq14, zq15, zq16, zq17, reduceIte, reduceCtorEq, aiaddr_map hx, nodeV, qeaV, declsV, quantsV, freesV, statesV, symsV, nodesV, transsV, List.length_map])))
      all_goals first | (exfalso; simp at *; omega) | skip
      all_goals
        refine h _ ⟨_, _, rfl, rfl, hno ?_⟩
        rw [← hL]
        simp
    | some y =>
      obtain ⟨j, rfl, hy⟩ := at?_some hq
      have hj := (List.getElem?_eq_some_iff.1 hy).1
      rw [hq] at hL
      (try (simp -implicitDefEqProofs only [go_sem, zq0, zq1, zq2, zq3, zq4, zq5, zq6, zq7, zq8, zq9, zq10, zq11, zq12, zq13, zq14, zq15, zq16, zq17, reduceIte, reduceCtorEq, aiaddr_map hx, nodeV, qeaV, declsV, quantsV, freesV, statesV, symsV, nodesV, transsV, List.length_map, aiaddr_map hy, freeV])); repeat' ((first | refine at_guard (fun hb => ?_) (fun hb => ?_) | refine ⟨fun hb => ?_, fun hb => ?_⟩ | fail) <;> (try (simp -implicitDefEqProofs only [go_sem, zq0, zq1, zq2, zq3, zq4, zq5, zq6, zq7, zq8, zq9, zq10, zq11, zq12, zq13, zq14, zq15, zq16, zq17, reduceIte, reduceCtorEq, aiaddr_map hx, nodeV, qeaV, declsV, quantsV, freesV, statesV, symsV, nodesV, transsV, List.length_map, aiaddr_map hy, freeV])))
      all_goals first | (exfalso; simp at *; omega) | skip
      all_goals
        first | refine h _ ⟨_, _, rfl, rfl, hno ?_⟩ | refine h _ ⟨_, _, rfl, rfl, hok ⟨y.init.kind, 1, i⟩ ?_⟩
        rw [← hL]
        clear h hno hok hv hL
        simp_all
  · simp only [leafOf, if_neg h1, if_neg h2, if_neg h3] at hL
    (try (simp -implicitDefEqProofs only [go_sem, zq0, zq1, zq2, zq3, zq4, zq5, zq6, zq7, zq8, zq9, zq10, zq11, zq12, zq13, zq14, zq15, zq16, zq17, reduceIte, reduceCtorEq, aiaddr_map hx, nodeV, qeaV, declsV, quantsV, freesV, statesV, symsV, nodesV, transsV, List.length_map])); repeat' ((first | refine at_guard (fun hb => ?_) (fun hb => ?_) | refine ⟨fun hb => ?_, fun hb => ?_⟩ | fail) <;> (try (simp -implicitDefEqProofs only [go_sem, zq0, zq1, zq2, zq3, zq4, zq5, zq6, zq7, zq8, zq9, zq10, zq11, zq12, zq13, zq14, zq15, zq16, zq17, reduceIte, reduceCtorEq, aiaddr_map hx, nodeV, qeaV, declsV, quantsV, freesV, statesV, symsV, nodesV, transsV, List.length_map])))
    all_goals first | (exfalso; simp at *; omega) | skip
    all_goals exact h _ ⟨_, _, rfl, rfl, hno hL.symm⟩
end Go.Proofs.YtdfdiglnpekcpabDoor.Ab
