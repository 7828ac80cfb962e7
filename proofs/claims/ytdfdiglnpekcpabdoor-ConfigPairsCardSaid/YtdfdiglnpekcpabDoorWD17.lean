/-
  proctorref13: symbols. core.symbols. proctorref13.symbol. No claim is proved here.
-/
import Derived.Test.YtdfdiglnpekcpabDoorWD14
namespace Go.Proofs.YtdfdiglnpekcpabDoor.Ab
open Nat renaming reduceAdd → zq0, reduceSub → zq1, reduceMul → zq2, reduceLT → zq3, reduceLeDiff → zq4, reduceEqDiff → zq5, reduceBEq → zq6
open Int renaming reduceNeg → zq7, reduceAdd → zq8, reduceLT → zq9, reduceLE → zq10, reduceToNat → zq11, reduceEq → zq12, reduceNe → zq13, reduceBEq → zq14, reduceBNe → zq15, reduceMul → zq16, reduceSub → zq17
open Go
set_option linter.unusedSimpArgs false
set_option maxHeartbeats 4000000
variable {G : Nat → Option AV}
theorem ref13_SameSymbol_pc (a b : SymT) (ha : a.args.length < 9223372036854775807) : PureC Tryd.prog G n_proctorref13_SameSymbol [symV a, symV b] (.bool (decide (a = b))) := by
  obtain ⟨e, l⟩ := a
  obtain ⟨f, k⟩ := b
  dsimp only at ha
  refine pc_proctorref13_SameSymbol (Runs.of fun Φ h => ?_)
  unfold c_proctorref13_SameSymbol
  generalize hv : decide ((⟨e, l⟩ : SymT) = ⟨f, k⟩) = v at *
  by_cases hc : e = f ∧ l.length = k.length
  · obtain ⟨rfl, hlk⟩ := hc
    have hv' : zipB (fun (x y : ArgT) => x == y) l k = v := by
      rw [← hv]
      clear hv h ha
      induction l generalizing k with
      | nil => cases k with
        | nil => simp [zipB]
        | cons y s => simp at hlk
      | cons x r ih => cases k with
        | nil => simp at hlk
        | cons y s =>
          rw [zipB, ih s (by simpa using hlk), Bool.eq_iff_iff]
          simp
    clear hv
    (try (simp -implicitDefEqProofs only [go_sem, zq0, zq1, zq2, zq3, zq4, zq5, zq6, zq7, zq8, zq9, zq10, zq11, zq12, zq13, zq14, zq15, zq16, zq17, reduceIte, reduceCtorEq, symV, argsV, List.length_map])); repeat' ((first | refine at_guard (fun hb => ?_) (fun hb => ?_) | refine ⟨fun hb => ?_, fun hb => ?_⟩ | fail) <;> (try (simp -implicitDefEqProofs only [go_sem, zq0, zq1, zq2, zq3, zq4, zq5, zq6, zq7, zq8, zq9, zq10, zq11, zq12, zq13, zq14, zq15, zq16, zq17, reduceIte, reduceCtorEq, symV, argsV, List.length_map])))
    all_goals try (exfalso; first | omega | (simp at *; done) | (simp at *; omega))
    refine at_loop (fun n st => ∃ i : Nat, i + n = l.length ∧ st = ⟨38, [(2, .ref 2 0 0), (3, .ref 3 0 0), (5, iv i)], [(2, ⟨false, t_api_Symbol, 2, [symV ⟨e, l⟩]⟩), (3, ⟨false, t_api_Symbol, 2, [symV ⟨e, k⟩]⟩)]⟩ ∧ zipB (fun (x y : ArgT) => x == y) (l.drop i) (k.drop i) = v) l.length ⟨0, by simp, rfl, hv'⟩ ?_
    rintro I hI n st ⟨i, hi, rfl, hno⟩
    simp -implicitDefEqProofs only [go_sem, zq0, zq1, zq2, zq3, zq4, zq5, zq6, zq7, zq8, zq9, zq10, zq11, zq12, zq13, zq14, zq15, zq16, zq17, reduceIte, reduceCtorEq, symV, argsV, List.length_map]
    refine ⟨fun hlt => ?_, fun hge => ?_⟩
    · have hlt' : i < l.length := by omega
      obtain ⟨x, hx, hm⟩ := at_some hlt'
      obtain ⟨y, hy, hm'⟩ := at_some (l := k) (i := i) (by omega)
      have hw := wrap_succ hlt' (by omega)
      rw [zipB_step hx hy] at hno
      have hxy := argEq x y
      (try (simp -implicitDefEqProofs only [go_sem, zq0, zq1, zq2, zq3, zq4, zq5, zq6, zq7, zq8, zq9, zq10, zq11, zq12, zq13, zq14, zq15, zq16, zq17, reduceIte, reduceCtorEq, aiaddr_map hx, aiaddr_map hy, argV, symV, argsV, hw])); repeat' ((first | refine at_guard (fun hb => ?_) (fun hb => ?_) | refine ⟨fun hb => ?_, fun hb => ?_⟩ | fail) <;> (try (simp -implicitDefEqProofs only [go_sem, zq0, zq1, zq2, zq3, zq4, zq5, zq6, zq7, zq8, zq9, zq10, zq11, zq12, zq13, zq14, zq15, zq16, zq17, reduceIte, reduceCtorEq, aiaddr_map hx, aiaddr_map hy, argV, symV, argsV, hw])))
      · rw [show (x == y) = false by rw [hxy, Bool.and_true]; simpa only [Bool.not_eq_true'] using hb, Bool.false_and] at hno
        exact h _ ⟨_, _, rfl, rfl, fitB hno⟩
      · rw [show (x == y) = true by rw [hxy]; simpa using hb, Bool.true_and] at hno
        exact at_again (n - 1) (by omega) (hI _ _ ⟨i + 1, by omega, rfl, hno⟩)
    · rw [zipB_end (by omega) (by omega)] at hno
      exact h _ ⟨_, _, rfl, rfl, fitB hno⟩
  · have hv' : v = false := by
      rw [← hv, decide_eq_false_iff_not]
      intro e
      cases e
      exact hc ⟨rfl, rfl⟩
    (try (simp -implicitDefEqProofs only [go_sem, zq0, zq1, zq2, zq3, zq4, zq5, zq6, zq7, zq8, zq9, zq10, zq11, zq12, zq13, zq14, zq15, zq16, zq17, reduceIte, reduceCtorEq, symV, argsV, List.length_map])); repeat' ((first | refine at_guard (fun hb => ?_) (fun hb => ?_) | refine ⟨fun hb => ?_, fun hb => ?_⟩ | fail) <;> (try (simp -implicitDefEqProofs only [go_sem, zq0, zq1, zq2, zq3, zq4, zq5, zq6, zq7, zq8, zq9, zq10, zq11, zq12, zq13, zq14, zq15, zq16, zq17, reduceIte, reduceCtorEq, symV, argsV, List.length_map])))
    all_goals first | exact h _ ⟨_, _, rfl, rfl, fitB hv'.symm⟩ | (exfalso; first | omega | (simp at *; done) | (simp at *; omega))
def namesS (s : SymT) (v : Int) : Bool := s.args.any fun x => x.kind == 2 && x.n == v
theorem ref13_Names_pc (s : SymT) (hs : s.args.length < 9223372036854775807) (v : Int) : PureC Tryd.prog G n_proctorref13_Names [symV s, iv v] (.bool (namesS s v)) := by
  obtain ⟨e, l⟩ := s
  dsimp only at hs
  refine pc_proctorref13_Names (Runs.of fun Φ h => ?_)
  unfold c_proctorref13_Names
  generalize hv : namesS ⟨e, l⟩ v = w at *
  simp only [namesS] at hv
  simp -implicitDefEqProofs only [go_sem, zq0, zq1, zq2, zq3, zq4, zq5, zq6, zq7, zq8, zq9, zq10, zq11, zq12, zq13, zq14, zq15, zq16, zq17, reduceIte, reduceCtorEq, symV, argsV, List.length_map]
  refine at_loop (fun n st => ∃ i : Nat, i + n = l.length ∧ st = ⟨30, [(1, iv v), (2, .ref 2 0 0), (5, iv i)], [(2, ⟨false, t_api_Symbol, 2, [symV ⟨e, l⟩]⟩)]⟩ ∧ ((l.drop i).any fun x => x.kind == 2 && x.n == v) = w) l.length ⟨0, by simp, rfl, hv⟩ ?_
  rintro I hI n st ⟨i, hi, rfl, hno⟩
  simp -implicitDefEqProofs only [go_sem, zq0, zq1, zq2, zq3, zq4, zq5, zq6, zq7, zq8, zq9, zq10, zq11, zq12, zq13, zq14, zq15, zq16, zq17, reduceIte, reduceCtorEq, symV, argsV, List.length_map]
  refine ⟨fun hlt => ?_, fun hge => ?_⟩
  · have hlt' : i < l.length := by omega
    obtain ⟨x, hx, hm⟩ := at_some hlt'
    have hw := wrap_succ hlt' (by omega)
    rw [show l.drop i = x :: l.drop (i + 1) by obtain ⟨h1, rfl⟩ := List.getElem?_eq_some_iff.1 hx; exact List.drop_eq_getElem_cons h1, List.any_cons] at hno
    (try (simp -implicitDefEqProofs only [go_sem, zq0, zq1, zq2, zq3, zq4, zq5, zq6, zq7, zq8, zq9, zq10, zq11, zq12, zq13, zq14, zq15, zq16, zq17, reduceIte, reduceCtorEq, aiaddr_map hx, argV, symV, argsV, hw])); repeat' ((first | refine at_guard (fun hb => ?_) (fun hb => ?_) | refine ⟨fun hb => ?_, fun hb => ?_⟩ | fail) <;> (try (simp -implicitDefEqProofs only [go_sem, zq0, zq1, zq2, zq3, zq4, zq5, zq6, zq7, zq8, zq9, zq10, zq11, zq12, zq13, zq14, zq15, zq16, zq17, reduceIte, reduceCtorEq, aiaddr_map hx, argV, symV, argsV, hw])))
    all_goals first
      | (refine h _ ⟨_, _, rfl, rfl, fitB ?_⟩; rw [← hno]; simp_all; done)
      | (refine at_again (n - 1) (by omega) (hI _ _ ⟨i + 1, by omega, rfl, ?_⟩); rw [← hno]; simp_all; done)
  · rw [List.drop_of_length_le (by omega), List.any_nil] at hno
    exact h _ ⟨_, _, rfl, rfl, fitB hno⟩
theorem ref13_bound_pc (q : QeaT) (hq : q.nodes.length ≤ 1000000) (s : SymT) (hs : s.args.length < 9223372036854775807) (a b : Int) (ha : 0 ≤ a) (hb : b ≤ q.nodes.length) : PureC Tryd.prog G n_proctorref13_bound [qeaV q, symV s, iv a, iv b] (.bool ((mid q.nodes a b).all fun x => !(x.op == 2) || namesS s x.a)) := by
  obtain ⟨a, rfl⟩ := Int.eq_ofNat_of_zero_le ha
  refine pc_proctorref13_bound (Runs.of fun Φ h => ?_)
  unfold c_proctorref13_bound
  generalize hv : ((mid q.nodes a b).all fun x => !(x.op == 2) || namesS s x.a) = w at *
  simp -implicitDefEqProofs only [go_sem, zq0, zq1, zq2, zq3, zq4, zq5, zq6, zq7, zq8, zq9, zq10, zq11, zq12, zq13, zq14, zq15, zq16, zq17, reduceIte, reduceCtorEq, symV, argsV, qeaV, declsV, quantsV, freesV, statesV, symsV, nodesV, transsV, List.length_map]
  refine at_loop (fun n st => ∃ i : Nat, n = b.toNat - i ∧ st = ⟨34, [(3, iv b), (4, .ref 4 0 0), (5, .ref 5 0 0), (9, iv i)], [(4, ⟨false, t_api_Qea, 9, [qeaV q]⟩), (5, ⟨false, t_api_Symbol, 2, [symV s]⟩)]⟩ ∧ ((mid q.nodes i b).all fun x => !(x.op == 2) || namesS s x.a) = w) (b.toNat - a) ⟨a, by simp, rfl, hv⟩ ?_
  rintro I hI n st ⟨i, hi, rfl, hno⟩
  simp -implicitDefEqProofs only [go_sem, zq0, zq1, zq2, zq3, zq4, zq5, zq6, zq7, zq8, zq9, zq10, zq11, zq12, zq13, zq14, zq15, zq16, zq17, reduceIte, reduceCtorEq, symV, argsV, qeaV, declsV, quantsV, freesV, statesV, symsV, nodesV, transsV, List.length_map]
  refine ⟨fun hlt => ?_, fun hge => ?_⟩
  · have hlt' : i < q.nodes.length := by omega
    obtain ⟨x, hx, hm⟩ := at_some hlt'
    have hw := wrap_succ hlt' (by omega)
    have hc := ref13_Names_pc (G := G) s hs x.a
    simp only [symV, argsV] at hc
    rw [show mid q.nodes i b = x :: mid q.nodes (i + 1 : Nat) b by
      obtain ⟨h1, rfl⟩ := List.getElem?_eq_some_iff.1 hx
      unfold mid
      rw [show (i : Int).toNat = i from Int.toNat_natCast i, show ((i + 1 : Nat) : Int).toNat = i + 1 from Int.toNat_natCast _, List.drop_eq_getElem_cons h1, show b.toNat - i = (b.toNat - (i + 1)) + 1 by omega, List.take_succ_cons], List.all_cons] at hno
    (try (simp -implicitDefEqProofs only [go_sem, zq0, zq1, zq2, zq3, zq4, zq5, zq6, zq7, zq8, zq9, zq10, zq11, zq12, zq13, zq14, zq15, zq16, zq17, reduceIte, reduceCtorEq, aiaddr_map hx, nodeV, symV, argsV, hw])); repeat' ((first | refine at_guard (fun hb => ?_) (fun hb => ?_) | refine ⟨fun hb => ?_, fun hb => ?_⟩ | refine at_call (hc) rfl rfl ?_ | fail) <;> (try (simp -implicitDefEqProofs only [go_sem, zq0, zq1, zq2, zq3, zq4, zq5, zq6, zq7, zq8, zq9, zq10, zq11, zq12, zq13, zq14, zq15, zq16, zq17, reduceIte, reduceCtorEq, aiaddr_map hx, nodeV, symV, argsV, hw])))
    all_goals first
      | (refine h _ ⟨_, _, rfl, rfl, fitB ?_⟩; rw [← hno]; simp_all; done)
      | (refine at_again (n - 1) (by omega) (hI _ _ ⟨i + 1, by omega, rfl, ?_⟩); rw [← hno]; simp_all; done)
  · rw [show mid q.nodes i b = [] by unfold mid; rw [show b.toNat - (i : Int).toNat = 0 by omega, List.take_zero], List.all_nil] at hno
    exact h _ ⟨_, _, rfl, rfl, fitB hno⟩
end Go.Proofs.YtdfdiglnpekcpabDoor.Ab
namespace Go.Proofs.YtdfdiglnpekcpabDoor.Ab
open Go
set_option linter.unusedSimpArgs false
set_option maxHeartbeats 4000000
variable {G : Nat → Option AV}
/-- The symbols of transitions, each once. -/
def ordStep (o : List Int) (s : Int) : List Int := if (o.any fun x => s == x) = true then o else o ++ [s]
def ordL (o : List Int) : List TransT → List Int
  | [] => o
  | t :: r => ordL (ordStep o t.symbol) r
theorem ordL_step {l : List TransT} {i : Nat} {t : TransT} (ht : l[i]? = some t) (o : List Int) : ordL o (l.drop i) = ordL (ordStep o t.symbol) (l.drop (i + 1)) := by
  obtain ⟨h1, rfl⟩ := List.getElem?_eq_some_iff.1 ht
  rw [List.drop_eq_getElem_cons h1, ordL]
theorem ordStep_len (o : List Int) (s : Int) : (ordStep o s).length ≤ o.length + 1 := by
  unfold ordStep
  split <;> simp
end Go.Proofs.YtdfdiglnpekcpabDoor.Ab
namespace Go.Proofs.YtdfdiglnpekcpabDoor.Ab
open Nat renaming reduceAdd → zq0, reduceSub → zq1, reduceMul → zq2, reduceLT → zq3, reduceLeDiff → zq4, reduceEqDiff → zq5, reduceBEq → zq6
open Int renaming reduceNeg → zq7, reduceAdd → zq8, reduceLT → zq9, reduceLE → zq10, reduceToNat → zq11, reduceEq → zq12, reduceNe → zq13, reduceBEq → zq14, reduceBNe → zq15, reduceMul → zq16, reduceSub → zq17
open Go
set_option linter.unusedSimpArgs false
set_option maxHeartbeats 4000000
variable {G : Nat → Option AV}
theorem ref13_symbol_pc (q : QeaT) (s : SymT) (hs : s.args.length < 9223372036854775807) : PureC Tryd.prog G n_proctorref13_symbol [qeaV q, symV s] (.bool (symS q s)) := by
  obtain ⟨ev, l⟩ := s
  dsimp only at hs
  refine pc_proctorref13_symbol (Runs.of fun Φ h => ?_)
  unfold c_proctorref13_symbol
  generalize hv : symS q ⟨ev, l⟩ = v at *
  simp only [symS] at hv
  cases hd : at? q.decls ev with
  | none =>
    rw [hd] at hv
    have hn := at?_none hd
    (try (simp -implicitDefEqProofs only [go_sem, zq0, zq1, zq2, zq3, zq4, zq5, zq6, zq7, zq8, zq9, zq10, zq11, zq12, zq13, zq14, zq15, zq16, zq17, reduceIte, reduceCtorEq, symV, argsV, qeaV, declsV, quantsV, freesV, statesV, symsV, nodesV, transsV, List.length_map])); repeat' ((first | refine at_guard (fun hb => ?_) (fun hb => ?_) | refine ⟨fun hb => ?_, fun hb => ?_⟩ | fail) <;> (try (simp -implicitDefEqProofs only [go_sem, zq0, zq1, zq2, zq3, zq4, zq5, zq6, zq7, zq8, zq9, zq10, zq11, zq12, zq13, zq14, zq15, zq16, zq17, reduceIte, reduceCtorEq, symV, argsV, qeaV, declsV, quantsV, freesV, statesV, symsV, nodesV, transsV, List.length_map])))
    all_goals first | exact h _ ⟨_, _, rfl, rfl, fitB hv⟩ | (exfalso; first | omega | (simp at *; done) | (simp at *; omega))
  | some d =>
    obtain ⟨j, rfl, hj⟩ := at?_some hd
    have hlt := (List.getElem?_eq_some_iff.1 hj).1
    rw [hd] at hv
    dsimp only at hv
    by_cases hlk : l.length = d.types.length
    · (try (simp -implicitDefEqProofs only [go_sem, zq0, zq1, zq2, zq3, zq4, zq5, zq6, zq7, zq8, zq9, zq10, zq11, zq12, zq13, zq14, zq15, zq16, zq17, reduceIte, reduceCtorEq, symV, argsV, qeaV, declsV, quantsV, freesV, statesV, symsV, nodesV, transsV, List.length_map, aiaddr_map hj, declV, intsV])); repeat' ((first | refine at_guard (fun hb => ?_) (fun hb => ?_) | refine ⟨fun hb => ?_, fun hb => ?_⟩ | fail) <;> (try (simp -implicitDefEqProofs only [go_sem, zq0, zq1, zq2, zq3, zq4, zq5, zq6, zq7, zq8, zq9, zq10, zq11, zq12, zq13, zq14, zq15, zq16, zq17, reduceIte, reduceCtorEq, symV, argsV, qeaV, declsV, quantsV, freesV, statesV, symsV, nodesV, transsV, List.length_map, aiaddr_map hj, declV, intsV])))
      all_goals try (exfalso; first | omega | (simp at *; done) | (simp at *; omega))
      refine at_loop (fun n st => ∃ i : Nat, i + n = l.length ∧ st = ⟨56, [(2, .ref 2 0 0), (3, .ref 3 0 0), (5, iv i)], [(2, ⟨false, t_api_Qea, 9, [qeaV q]⟩), (3, ⟨false, t_api_Symbol, 2, [symV ⟨j, l⟩]⟩)]⟩ ∧ zipB (argS q) (l.drop i) (d.types.drop i) = v) l.length ⟨0, by simp, rfl, hv⟩ ?_
      rintro I hI n st ⟨i, hi, rfl, hno⟩
      simp -implicitDefEqProofs only [go_sem, zq0, zq1, zq2, zq3, zq4, zq5, zq6, zq7, zq8, zq9, zq10, zq11, zq12, zq13, zq14, zq15, zq16, zq17, reduceIte, reduceCtorEq, symV, argsV, qeaV, declsV, quantsV, freesV, statesV, symsV, nodesV, transsV, List.length_map]
      refine ⟨fun hlt => ?_, fun hge => ?_⟩
      · have hlt' : i < l.length := by omega
        obtain ⟨x, hx, hm⟩ := at_some hlt'
        obtain ⟨y, hy, hm'⟩ := at_some (l := d.types) (i := i) (by omega)
        have hw := wrap_succ hlt' (by omega)
        have hc := proctorref13_arg_pc (G := G) q x y
        rw [zipB_step hx hy] at hno
        simp only [argV, qeaV, declsV, quantsV, freesV, statesV, symsV, nodesV, transsV] at hc
        (try (simp -implicitDefEqProofs only [go_sem, zq0, zq1, zq2, zq3, zq4, zq5, zq6, zq7, zq8, zq9, zq10, zq11, zq12, zq13, zq14, zq15, zq16, zq17, reduceIte, reduceCtorEq, aiaddr_map hx, aiaddr_map hj, aiaddr_map hy, argV, symV, argsV, declV, intsV, qeaV, declsV, quantsV, freesV, statesV, symsV, nodesV, transsV, hw])); repeat' ((first | refine at_guard (fun hb => ?_) (fun hb => ?_) | refine ⟨fun hb => ?_, fun hb => ?_⟩ | refine at_call (hc) rfl rfl ?_ | fail) <;> (try (simp -implicitDefEqProofs only [go_sem, zq0, zq1, zq2, zq3, zq4, zq5, zq6, zq7, zq8, zq9, zq10, zq11, zq12, zq13, zq14, zq15, zq16, zq17, reduceIte, reduceCtorEq, aiaddr_map hx, aiaddr_map hj, aiaddr_map hy, argV, symV, argsV, declV, intsV, qeaV, declsV, quantsV, freesV, statesV, symsV, nodesV, transsV, hw])))
        · rw [show argS q x y = false by simpa using hb, Bool.false_and] at hno
          exact h _ ⟨_, _, rfl, rfl, fitB hno⟩
        · rw [show argS q x y = true by simpa using hb, Bool.true_and] at hno
          exact at_again (n - 1) (by omega) (hI _ _ ⟨i + 1, by omega, rfl, hno⟩)
      · rw [zipB_end (by omega) (by omega)] at hno
        exact h _ ⟨_, _, rfl, rfl, fitB hno⟩
    · rw [zipB_len hlk] at hv
      (try (simp -implicitDefEqProofs only [go_sem, zq0, zq1, zq2, zq3, zq4, zq5, zq6, zq7, zq8, zq9, zq10, zq11, zq12, zq13, zq14, zq15, zq16, zq17, reduceIte, reduceCtorEq, symV, argsV, qeaV, declsV, quantsV, freesV, statesV, symsV, nodesV, transsV, List.length_map, aiaddr_map hj, declV, intsV])); repeat' ((first | refine at_guard (fun hb => ?_) (fun hb => ?_) | refine ⟨fun hb => ?_, fun hb => ?_⟩ | fail) <;> (try (simp -implicitDefEqProofs only [go_sem, zq0, zq1, zq2, zq3, zq4, zq5, zq6, zq7, zq8, zq9, zq10, zq11, zq12, zq13, zq14, zq15, zq16, zq17, reduceIte, reduceCtorEq, symV, argsV, qeaV, declsV, quantsV, freesV, statesV, symsV, nodesV, transsV, List.length_map, aiaddr_map hj, declV, intsV])))
      all_goals first | exact h _ ⟨_, _, rfl, rfl, fitB hv⟩ | (exfalso; first | omega | (simp at *; done) | (simp at *; omega))
end Go.Proofs.YtdfdiglnpekcpabDoor.Ab
