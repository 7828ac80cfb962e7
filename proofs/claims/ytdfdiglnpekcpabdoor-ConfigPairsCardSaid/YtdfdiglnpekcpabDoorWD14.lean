/-
  core.trans, from the inside: whole. proctorref13.Kind. core.trans, from the inside: set. core.trans, from the inside: one, and all. core.trans. core, proctorref13: arguments, symbols. No claim is proved here.
-/
import Derived.Test.YtdfdiglnpekcpabDoorWD9
import Derived.Test.YtdfdiglnpekcpabDoorWD8
namespace Go.Proofs.YtdfdiglnpekcpabDoor.Ab
open Nat renaming reduceAdd → zq0, reduceSub → zq1, reduceMul → zq2, reduceLT → zq3, reduceLeDiff → zq4, reduceEqDiff → zq5, reduceBEq → zq6
open Int renaming reduceNeg → zq7, reduceAdd → zq8, reduceLT → zq9, reduceLE → zq10, reduceToNat → zq11, reduceEq → zq12, reduceNe → zq13, reduceBEq → zq14, reduceBNe → zq15, reduceMul → zq16, reduceSub → zq17
open Go
set_option linter.unusedSimpArgs false
set_option maxHeartbeats 4000000
variable {G : Nat → Option AV}
/-- Rows and variables that are there. -/
def subH (heap : List (Nat × Box)) : List (Nat × Box) → Prop
  | [] => True
  | (i, b) :: r => hget heap i = some b ∧ subH heap r
theorem subH.at {heap : List (Nat × Box)} : ∀ {H : List (Nat × Box)}, subH heap H → ∀ i b, hget H i = some b → hget heap i = some b
  | [], _, i, b, h => by simp [hget] at h
  | (j, c) :: r, hs, i, b, h => by
    simp only [hget] at h
    split at h
    · rename_i e; subst e; cases h; exact hs.1
    · exact hs.2.at i b h
def kindR (q : QeaT) (at_ root : Int) : Int × Int :=
  if (bAt (beL q q.nodes.length) root).kind = 0 ∨ ¬ (bAt (beL q q.nodes.length) root).from_ = at_ then (0, 0) else ((bAt (beL q q.nodes.length) root).kind, (bAt (beL q q.nodes.length) root).depth)
theorem ref13_Kind_pc (q : QeaT) (hl : q.nodes.length ≤ 1000000) (at_ root : Int) : PureC Tryd.prog G n_proctorref13_Kind [qeaV q, iv at_, iv root] (.tup [iv (kindR q at_ root).1, iv (kindR q at_ root).2]) := by
  have hb := ref13_below_pc (G := G) q hl (root.toNat + 1) root (by omega)
  unfold kindR
  generalize bAt (beL q q.nodes.length) root = b at *
  refine pc_proctorref13_Kind (Runs.of fun Φ h => ?_)
  unfold c_proctorref13_Kind
  simp only [ex3, qeaV, declsV, quantsV, freesV, statesV, symsV, nodesV, transsV] at hb
  (try (simp -implicitDefEqProofs only [go_sem, zq0, zq1, zq2, zq3, zq4, zq5, zq6, zq7, zq8, zq9, zq10, zq11, zq12, zq13, zq14, zq15, zq16, zq17, reduceIte, reduceCtorEq, qeaV, declsV, quantsV, freesV, statesV, symsV, nodesV, transsV])); repeat' ((first | refine at_guard (fun hb => ?_) (fun hb => ?_) | refine ⟨fun hb => ?_, fun hb => ?_⟩ | refine at_call (hb) rfl rfl ?_ | fail) <;> (try (simp -implicitDefEqProofs only [go_sem, zq0, zq1, zq2, zq3, zq4, zq5, zq6, zq7, zq8, zq9, zq10, zq11, zq12, zq13, zq14, zq15, zq16, zq17, reduceIte, reduceCtorEq, qeaV, declsV, quantsV, freesV, statesV, symsV, nodesV, transsV])))
  all_goals (refine h _ ⟨_, _, rfl, rfl, fit_eq ?_⟩; clear h; simp_all)
/-- Is there a whole expression, of a kind, from a place on, that ends at a root? -/
def wholeS (l : List ExT) (at_ root kind : Int) : Bool :=
  match at? l root with
  | none => false
  | some e => decide (at_ ≤ root) && (e.kind == kind && (!(kind == 0) && (e.from_ == at_ && decide (e.depth ≤ 64))))
end Go.Proofs.YtdfdiglnpekcpabDoor.Ab
namespace Go.Proofs.YtdfdiglnpekcpabDoor.Ab
open Go
set_option linter.unusedSimpArgs false
set_option maxHeartbeats 4000000
variable {G : Nat → Option AV}
def setStep (q : QeaT) (l : List ExT) (sets : List SetT) (at_ : Int) (i : Nat) (s : SetT) : Bool × Int :=
  match at? q.frees s.free with
  | none => (false, at_)
  | some f => if ((sets.take i).any fun x => x.free == s.free) = true then (false, at_) else if wholeS l at_ s.expr f.init.kind = true then (true, s.expr + 1) else (false, at_)
/-- All of a list, that each look at a place and move it. -/
def allS {α σ : Type} (step : σ → Nat → α → Bool × σ) : List α → Nat → σ → Bool × σ
  | [], _, s => (true, s)
  | x :: r, i, s => if (step s i x).1 = true then allS step r (i + 1) (step s i x).2 else (false, (step s i x).2)
theorem allS_step {α σ : Type} {step : σ → Nat → α → Bool × σ} {l : List α} {i : Nat} {x : α} (hx : l[i]? = some x) (s : σ) : allS step (l.drop i) i s = if (step s i x).1 = true then allS step (l.drop (i + 1)) (i + 1) (step s i x).2 else (false, (step s i x).2) := by
  obtain ⟨hlt, rfl⟩ := List.getElem?_eq_some_iff.1 hx
  rw [List.drop_eq_getElem_cons hlt, allS]
theorem allS_end {α σ : Type} {step : σ → Nat → α → Bool × σ} {l : List α} {i : Nat} (h : l.length ≤ i) (s : σ) : allS step (l.drop i) i s = (true, s) := by
  rw [List.drop_of_length_le h, allS]
theorem wholeS_pos {l : List ExT} {a r k : Int} (ha : 0 ≤ a) (h : wholeS l a r k = true) : 0 ≤ r + 1 := by
  unfold wholeS at h
  split at h
  · cases h
  · simp at h; omega
end Go.Proofs.YtdfdiglnpekcpabDoor.Ab
namespace Go.Proofs.YtdfdiglnpekcpabDoor.Ab
open Go
set_option linter.unusedSimpArgs false
set_option maxHeartbeats 4000000
variable {G : Nat → Option AV}
def mid {α : Type} (l : List α) (a b : Int) : List α := (l.drop a.toNat).take (b.toNat - a.toNat)
def inR (n : Int) (k : Nat) : Bool := decide (0 ≤ n) && decide (n < k)
theorem wholeS_le {l : List ExT} {a r k : Int} (h : wholeS l a r k = true) : a ≤ r + 1 ∧ r + 1 ≤ l.length := by
  unfold wholeS at h
  split at h
  · cases h
  · rename_i e he
    obtain ⟨j, rfl, hj⟩ := at?_some he
    have := (List.getElem?_eq_some_iff.1 hj).1
    simp at h
    omega
theorem setStep_le {q : QeaT} {l : List ExT} {sets : List SetT} {a : Int} {i : Nat} {s : SetT} (ha : a ≤ l.length) : a ≤ (setStep q l sets a i s).2 ∧ (setStep q l sets a i s).2 ≤ l.length := by
  unfold setStep
  repeat' split
  all_goals first | exact ⟨Int.le_refl _, ha⟩ | exact wholeS_le ‹_›
theorem allS_le {q : QeaT} {l : List ExT} {sets : List SetT} : ∀ {r : List SetT} {i : Nat} {a : Int}, a ≤ l.length → a ≤ (allS (setStep q l sets) r i a).2 ∧ (allS (setStep q l sets) r i a).2 ≤ l.length
  | [], _, a, h => ⟨Int.le_refl _, h⟩
  | x :: r, i, a, h => by
    have h1 := setStep_le (q := q) (sets := sets) (i := i) (s := x) h
    rw [allS]
    split
    · have := allS_le (q := q) (sets := sets) (r := r) (i := i + 1) h1.2
      omega
    · exact h1
end Go.Proofs.YtdfdiglnpekcpabDoor.Ab
namespace Go.Proofs.YtdfdiglnpekcpabDoor.Ab
open Go
set_option linter.unusedSimpArgs false
set_option maxHeartbeats 4000000
variable {G : Nat → Option AV}
/-- How long an automaton's lists are. -/
structure QeaT.Few (q : QeaT) : Prop where
  decls : q.decls.length ≤ 1000000
  types : ∀ d ∈ q.decls, d.types.length ≤ 1000000
  quants : q.quants.length ≤ 1000000
  frees : q.frees.length ≤ 1000000
  states : q.states.length ≤ 1000000
  symbols : q.symbols.length ≤ 1000000
  args : ∀ s ∈ q.symbols, s.args.length ≤ 1000000
  nodes : q.nodes.length ≤ 1000000
  trans : q.trans.length ≤ 1000000
  sets : ∀ t ∈ q.trans, t.sets.length ≤ 1000000
end Go.Proofs.YtdfdiglnpekcpabDoor.Ab
namespace Go.Proofs.YtdfdiglnpekcpabDoor.Ab
open Nat renaming reduceAdd → zq0, reduceSub → zq1, reduceMul → zq2, reduceLT → zq3, reduceLeDiff → zq4, reduceEqDiff → zq5, reduceBEq → zq6
open Int renaming reduceNeg → zq7, reduceAdd → zq8, reduceLT → zq9, reduceLE → zq10, reduceToNat → zq11, reduceEq → zq12, reduceNe → zq13, reduceBEq → zq14, reduceBNe → zq15, reduceMul → zq16, reduceSub → zq17
open Go
set_option linter.unusedSimpArgs false
set_option maxHeartbeats 4000000
variable {G : Nat → Option AV}
/-- May an argument be, of a kind? -/
def argS (q : QeaT) (a : ArgT) (kind : Int) : Bool :=
  if a.kind = 1 then a.n == 0 && (a.value.ok && a.value.kind == kind)
  else if a.kind = 2 then (match at? q.quants a.n with | none => false | some y => y.type == kind && decide (a.value = v0))
  else if a.kind = 3 then (match at? q.frees a.n with | none => false | some y => y.init.kind == kind && decide (a.value = v0))
  else a.kind == 4 && (a.n == 0 && decide (a.value = v0))
theorem proctorref13_arg_pc (q : QeaT) (a : ArgT) (kind : Int) : PureC Tryd.prog G n_proctorref13_arg [qeaV q, argV a, iv kind] (.bool (argS q a kind)) := by
  obtain ⟨ak, n, ⟨vk, vn, vs, vb⟩⟩ := a
  refine pc_proctorref13_arg (Runs.of fun Φ h => ?_)
  unfold c_proctorref13_arg
  have hok := ref03_Right_pc (G := G) ⟨vk, vn, vs, vb⟩
  simp only [valV] at hok
  have hz := val_zero ⟨vk, vn, vs, vb⟩
  dsimp only at hz
  generalize hv : argS q ⟨ak, n, ⟨vk, vn, vs, vb⟩⟩ kind = v at *
  by_cases h1 : ak = 1
  · subst h1
    simp only [argS, if_pos] at hv
    (try (simp -implicitDefEqProofs only [go_sem, zq0, zq1, zq2, zq3, zq4, zq5, zq6, zq7, zq8, zq9, zq10, zq11, zq12, zq13, zq14, zq15, zq16, zq17, reduceIte, reduceCtorEq, argV, qeaV, declsV, quantsV, freesV, statesV, symsV, nodesV, transsV, List.length_map])); repeat' ((first | refine at_guard (fun hb => ?_) (fun hb => ?_) | refine ⟨fun hb => ?_, fun hb => ?_⟩ | refine at_call (hok) rfl rfl ?_ | fail) <;> (try (simp -implicitDefEqProofs only [go_sem, zq0, zq1, zq2, zq3, zq4, zq5, zq6, zq7, zq8, zq9, zq10, zq11, zq12, zq13, zq14, zq15, zq16, zq17, reduceIte, reduceCtorEq, argV, qeaV, declsV, quantsV, freesV, statesV, symsV, nodesV, transsV, List.length_map])))
    all_goals
      refine h _ ⟨_, _, rfl, rfl, fitB ?_⟩
      rw [← hv]
      clear h hok hv
      simp_all
  by_cases h2 : ak = 2
  · subst h2
    simp only [argS, if_pos, show ¬ (2 : Int) = 1 by omega, if_false] at hv
    cases hq : at? q.quants n with
    | none =>
      rw [hq] at hv
      have ha := at?_none hq
      (try (simp -implicitDefEqProofs only [go_sem, zq0, zq1, zq2, zq3, zq4, zq5, zq6, zq7, zq8, zq9, zq10, zq11, zq12, zq13, zq14, zq15, zq16, zq17, reduceIte, reduceCtorEq, argV, qeaV, declsV, quantsV, freesV, statesV, symsV, nodesV, transsV, List.length_map])); repeat' ((first | refine at_guard (fun hb => ?_) (fun hb => ?_) | refine ⟨fun hb => ?_, fun hb => ?_⟩ | fail) <;> (try (simp -implicitDefEqProofs only [go_sem, zq0, zq1, zq2, zq3, zq4, zq5, zq6, zq7, zq8, zq9, zq10, zq11, zq12, zq13, zq14, zq15, zq16, zq17, reduceIte, reduceCtorEq, argV, qeaV, declsV, quantsV, freesV, statesV, symsV, nodesV, transsV, List.length_map])))
      all_goals first | (exfalso; simp at *; omega) | skip
      all_goals
        refine h _ ⟨_, _, rfl, rfl, fitB ?_⟩
        exact hv
    | some y =>
      obtain ⟨j, rfl, hy⟩ := at?_some hq
      have hj := (List.getElem?_eq_some_iff.1 hy).1
      rw [hq] at hv
      (try (simp -implicitDefEqProofs only [go_sem, zq0, zq1, zq2, zq3, zq4, zq5, zq6, zq7, zq8, zq9, zq10, zq11, zq12, zq13, zq14, zq15, zq16, zq17, reduceIte, reduceCtorEq, argV, qeaV, declsV, quantsV, freesV, statesV, symsV, nodesV, transsV, List.length_map, aiaddr_map hy, quantV])); repeat' ((first | refine at_guard (fun hb => ?_) (fun hb => ?_) | refine ⟨fun hb => ?_, fun hb => ?_⟩ | fail) <;> (try (simp -implicitDefEqProofs only [go_sem, zq0, zq1, zq2, zq3, zq4, zq5, zq6, zq7, zq8, zq9, zq10, zq11, zq12, zq13, zq14, zq15, zq16, zq17, reduceIte, reduceCtorEq, argV, qeaV, declsV, quantsV, freesV, statesV, symsV, nodesV, transsV, List.length_map, aiaddr_map hy, quantV])))
      all_goals first | (exfalso; simp at *; omega) | skip
      all_goals
        refine h _ ⟨_, _, rfl, rfl, fitB ?_⟩
        refine Eq.trans ?_ hv
        clear h hok hv hq hy
        simp only [hz] at *
        all_goals (try clear hz); (try generalize decide ((⟨vk, vn, vs, vb⟩ : Val) = v0) = Z at *); simp_all
  by_cases h3 : ak = 3
  · subst h3
    simp only [argS, if_pos, show ¬ (3 : Int) = 1 by omega, show ¬ (3 : Int) = 2 by omega, if_false] at hv
    cases hq : at? q.frees n with
    | none =>
      rw [hq] at hv
      have ha := at?_none hq
      (try (simp -implicitDefEqProofs only [go_sem, zq0, zq1, zq2, zq3, zq4, zq5, zq6, zq7, zq8, zq9, zq10, zq11, zq12, zq13, zq14, zq15, zq16, zq17, reduceIte, reduceCtorEq, argV, qeaV, declsV, quantsV, freesV, statesV, symsV, nodesV, transsV, List.length_map])); repeat' ((first | refine at_guard (fun hb => ?_) (fun hb => ?_) | refine ⟨fun hb => ?_, fun hb => ?_⟩ | fail) <;> (try (simp -implicitDefEqProofs only [go_sem, zq0, zq1, zq2, zq3, zq4, zq5, zq6, zq7, zq8, zq9, zq10, zq11, zq12, zq13, zq14, zq15, zq16, zq17, reduceIte, reduceCtorEq, argV, qeaV, declsV, quantsV, freesV, statesV, symsV, nodesV, transsV, List.length_map])))
      all_goals first | (exfalso; simp at *; omega) | skip
      all_goals
        refine h _ ⟨_, _, rfl, rfl, fitB ?_⟩
        exact hv
    | some y =>
      obtain ⟨j, rfl, hy⟩ := at?_some hq
      have hj := (List.getElem?_eq_some_iff.1 hy).1
      rw [hq] at hv
      (try (simp -implicitDefEqProofs only [go_sem, zq0, zq1, zq2, zq3, zq4, zq5, zq6, zq7, zq8, zq9, zq10, zq11, zq12, zq13, zq14, zq15, zq16, zq17, reduceIte, reduceCtorEq, argV, qeaV, declsV, quantsV, freesV, statesV, symsV, nodesV, transsV, List.length_map, aiaddr_map hy, freeV])); repeat' ((first | refine at_guard (fun hb => ?_) (fun hb => ?_) | refine ⟨fun hb => ?_, fun hb => ?_⟩ | fail) <;> (try (simp -implicitDefEqProofs only [go_sem, zq0, zq1, zq2, zq3, zq4, zq5, zq6, zq7, zq8, zq9, zq10, zq11, zq12, zq13, zq14, zq15, zq16, zq17, reduceIte, reduceCtorEq, argV, qeaV, declsV, quantsV, freesV, statesV, symsV, nodesV, transsV, List.length_map, aiaddr_map hy, freeV])))
      all_goals first | (exfalso; simp at *; omega) | skip
      all_goals
        refine h _ ⟨_, _, rfl, rfl, fitB ?_⟩
        refine Eq.trans ?_ hv
        clear h hok hv hq hy
        simp only [hz] at *
        all_goals (try clear hz); (try generalize decide ((⟨vk, vn, vs, vb⟩ : Val) = v0) = Z at *); simp_all
  · simp only [argS, if_neg h1, if_neg h2, if_neg h3] at hv
    (try (simp -implicitDefEqProofs only [go_sem, zq0, zq1, zq2, zq3, zq4, zq5, zq6, zq7, zq8, zq9, zq10, zq11, zq12, zq13, zq14, zq15, zq16, zq17, reduceIte, reduceCtorEq, argV, qeaV, declsV, quantsV, freesV, statesV, symsV, nodesV, transsV, List.length_map])); repeat' ((first | refine at_guard (fun hb => ?_) (fun hb => ?_) | refine ⟨fun hb => ?_, fun hb => ?_⟩ | fail) <;> (try (simp -implicitDefEqProofs only [go_sem, zq0, zq1, zq2, zq3, zq4, zq5, zq6, zq7, zq8, zq9, zq10, zq11, zq12, zq13, zq14, zq15, zq16, zq17, reduceIte, reduceCtorEq, argV, qeaV, declsV, quantsV, freesV, statesV, symsV, nodesV, transsV, List.length_map])))
    all_goals first | (exfalso; simp at *; omega) | skip
    all_goals
      refine h _ ⟨_, _, rfl, rfl, fitB ?_⟩
      refine Eq.trans ?_ hv
      clear h hok hv
      simp only [hz] at *
      all_goals (try clear hz); (try generalize decide ((⟨vk, vn, vs, vb⟩ : Val) = v0) = Z at *); simp_all
theorem okC_q (q : QeaT) : OkC [.eptr (qeaV q) 0] := ⟨fun _ => rfl, fun _ _ => rfl, fun _ => rfl, fun _ _ => rfl, fun _ => rfl, fun _ => rfl⟩
/-- Two lists, thing by thing. -/
def zipB {α β : Type} (p : α → β → Bool) : List α → List β → Bool
  | [], [] => true
  | x :: r, y :: s => p x y && zipB p r s
  | _, _ => false
theorem zipB_len {α β : Type} {p : α → β → Bool} : ∀ {l : List α} {k : List β}, ¬ l.length = k.length → zipB p l k = false
  | [], [], h => absurd rfl h
  | [], _ :: _, _ => rfl
  | _ :: _, [], _ => rfl
  | x :: r, y :: s, h => by
    rw [zipB, zipB_len (by simpa using h), Bool.and_false]
theorem zipB_step {α β : Type} {p : α → β → Bool} {l : List α} {k : List β} {i : Nat} {x : α} {y : β} (hx : l[i]? = some x) (hy : k[i]? = some y) : zipB p (l.drop i) (k.drop i) = (p x y && zipB p (l.drop (i + 1)) (k.drop (i + 1))) := by
  obtain ⟨h1, rfl⟩ := List.getElem?_eq_some_iff.1 hx
  obtain ⟨h2, rfl⟩ := List.getElem?_eq_some_iff.1 hy
  rw [List.drop_eq_getElem_cons h1, List.drop_eq_getElem_cons h2, zipB]
theorem zipB_end {α β : Type} {p : α → β → Bool} {l : List α} {k : List β} {i : Nat} (h1 : l.length ≤ i) (h2 : k.length ≤ i) : zipB p (l.drop i) (k.drop i) = true := by
  rw [List.drop_of_length_le h1, List.drop_of_length_le h2, zipB]
/-- May a symbol be? -/
def symS (q : QeaT) (s : SymT) : Bool :=
  match at? q.decls s.event with
  | none => false
  | some d => zipB (argS q) s.args d.types
end Go.Proofs.YtdfdiglnpekcpabDoor.Ab
