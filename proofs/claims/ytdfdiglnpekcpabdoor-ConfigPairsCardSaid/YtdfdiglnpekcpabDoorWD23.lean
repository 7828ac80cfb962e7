/-
  core, proctorref13: names; few; Plain. core.head, proctorref13.names. No claim is proved here.
-/
import Derived.Test.YtdfdiglnpekcpabDoorWD17
namespace Go.Proofs.YtdfdiglnpekcpabDoor.Ab
open Nat renaming reduceAdd → zq0, reduceSub → zq1, reduceMul → zq2, reduceLT → zq3, reduceLeDiff → zq4, reduceEqDiff → zq5, reduceBEq → zq6
open Int renaming reduceNeg → zq7, reduceAdd → zq8, reduceLT → zq9, reduceLE → zq10, reduceToNat → zq11, reduceEq → zq12, reduceNe → zq13, reduceBEq → zq14, reduceBNe → zq15, reduceMul → zq16, reduceSub → zq17
open Go
set_option linter.unusedSimpArgs false
set_option maxHeartbeats 4000000
variable {G : Nat → Option AV}
theorem ref13_twice_pc (l : List Str) (hl : l.length < 9223372036854775807) (i : Nat) (s : Str) (hs : l[i]? = some s) : PureC Tryd.prog G n_proctorref13_twice [.seq 1 (l.map AV.str), iv i] (.bool ((l.take i).any fun x => x == s)) := by
  have hil := (List.getElem?_eq_some_iff.1 hs).1
  refine pc_proctorref13_twice (Runs.of fun Φ h => ?_)
  unfold c_proctorref13_twice
  generalize hv : ((l.take i).any fun x => x == s) = v at *
  simp -implicitDefEqProofs only [go_sem, zq0, zq1, zq2, zq3, zq4, zq5, zq6, zq7, zq8, zq9, zq10, zq11, zq12, zq13, zq14, zq15, zq16, zq17, reduceIte, reduceCtorEq]
  refine at_loop (fun n st => ∃ j : Nat, j + n = i ∧ st = ⟨20, [(0, .seq 1 (l.map AV.str)), (1, iv i), (5, iv j)], []⟩ ∧ (((l.take i).drop j).any fun x => x == s) = v) i ⟨0, by simp, rfl, hv⟩ ?_
  rintro I hI n st ⟨j, hj, rfl, hno⟩
  simp -implicitDefEqProofs only [go_sem, zq0, zq1, zq2, zq3, zq4, zq5, zq6, zq7, zq8, zq9, zq10, zq11, zq12, zq13, zq14, zq15, zq16, zq17, reduceIte, reduceCtorEq]
  refine ⟨fun hlt => ?_, fun hge => ?_⟩
  · have hlt' : j < i := by omega
    obtain ⟨x, hx, hm⟩ := at_some (l := l) (i := j) (by omega)
    have hw := wrap_succ hlt' (by omega)
    rw [show (l.take i).drop j = x :: (l.take i).drop (j + 1) by
      obtain ⟨h1, rfl⟩ := List.getElem?_eq_some_iff.1 hx
      rw [List.drop_eq_getElem_cons (by simp; omega)]; simp, List.any_cons] at hno
    (try (simp -implicitDefEqProofs only [go_sem, zq0, zq1, zq2, zq3, zq4, zq5, zq6, zq7, zq8, zq9, zq10, zq11, zq12, zq13, zq14, zq15, zq16, zq17, reduceIte, reduceCtorEq, aiaddr_map hx, aiaddr_map hs, hw])); repeat' ((first | refine at_guard (fun hb => ?_) (fun hb => ?_) | refine ⟨fun hb => ?_, fun hb => ?_⟩ | fail) <;> (try (simp -implicitDefEqProofs only [go_sem, zq0, zq1, zq2, zq3, zq4, zq5, zq6, zq7, zq8, zq9, zq10, zq11, zq12, zq13, zq14, zq15, zq16, zq17, reduceIte, reduceCtorEq, aiaddr_map hx, aiaddr_map hs, hw])))
    all_goals first
      | (refine h _ ⟨_, _, rfl, rfl, fitB ?_⟩; rw [← hno]; simp_all; done)
      | (refine at_again (n - 1) (by omega) (hI _ _ ⟨j + 1, by omega, rfl, ?_⟩); rw [← hno]; simp_all; done)
  · rw [List.drop_of_length_le (by simp; omega), List.any_nil] at hno
    exact h _ ⟨_, _, rfl, rfl, fitB hno⟩
def fewS (q : QeaT) : Bool := decide ((q.quants.length : Int) ≤ 8) && (decide ((q.frees.length : Int) ≤ 16) && (decide ((q.states.length : Int) ≤ 32) && (decide ((q.symbols.length : Int) ≤ 64) && (decide ((q.nodes.length : Int) ≤ 2048) && decide ((q.trans.length : Int) ≤ 256)))))
end Go.Proofs.YtdfdiglnpekcpabDoor.Ab
namespace Go.Proofs.YtdfdiglnpekcpabDoor.Ab
open Nat renaming reduceAdd → zq0, reduceSub → zq1, reduceMul → zq2, reduceLT → zq3, reduceLeDiff → zq4, reduceEqDiff → zq5, reduceBEq → zq6
open Int renaming reduceNeg → zq7, reduceAdd → zq8, reduceLT → zq9, reduceLE → zq10, reduceToNat → zq11, reduceEq → zq12, reduceNe → zq13, reduceBEq → zq14, reduceBNe → zq15, reduceMul → zq16, reduceSub → zq17
open Go
set_option linter.unusedSimpArgs false
set_option maxHeartbeats 4000000
variable {G : Nat → Option AV}
theorem take_map_succ {l : List Str} {k : Nat} {x : Str} (h : l[k]? = some x) : (l.take (k + 1)).map AV.str = (l.take k).map AV.str ++ [.str x] := by
  rw [List.take_add_one, h]
  simp
/-- The names of variables, and of states. -/
def QeaT.vars (q : QeaT) : List Str := q.quants.map (·.name) ++ q.frees.map (·.name)
def QeaT.names (q : QeaT) : List Str := q.states.map (·.name)
theorem vars_len (q : QeaT) : q.vars.length = q.quants.length + q.frees.length := by simp [QeaT.vars]
theorem vars_q {q : QeaT} {i : Nat} {y : QuantT} (h : q.quants[i]? = some y) : q.vars[i]? = some y.name := by
  have := (List.getElem?_eq_some_iff.1 h).1
  unfold QeaT.vars
  rw [List.getElem?_append_left (by simpa using this), List.getElem?_map, h]
  rfl
theorem vars_f {q : QeaT} {i : Nat} {y : FreeT} (h : q.frees[i]? = some y) : q.vars[q.quants.length + i]? = some y.name := by
  unfold QeaT.vars
  rw [List.getElem?_append_right (by simp), List.getElem?_map]
  simp [h]
theorem names_s {q : QeaT} {i : Nat} {y : StateT} (h : q.states[i]? = some y) : q.names[i]? = some y.name := by
  unfold QeaT.names
  rw [List.getElem?_map, h]
  rfl
theorem names_len (q : QeaT) : q.names.length = q.states.length := by simp [QeaT.names]
theorem take_len {l : List Str} {k : Nat} (h : k ≤ l.length) : ((l.take k).map AV.str).length = k := by simp; omega
/-- A name, and none of those ahead of it. -/
def nameR (l : List Str) (i : Nat) (s : Str) : Bool := nameOk s && !((l.take i).any fun x => x == s)
def typeOk (n : Int) : Bool := decide (1 ≤ n) && decide (n ≤ 3)
def headR (q : QeaT) : Bool :=
  allI (fun _ (y : QuantT) => typeOk y.type) q.quants && (allI (fun _ (y : FreeT) => y.init.ok) q.frees && (allI (nameR q.vars) q.vars && (allI (nameR q.names) q.names && nameOk q.name)))
theorem ref13_names_pc (q : QeaT) (hq : q.Few) : PureC Tryd.prog G n_proctorref13_names [qeaV q] (.bool (headR q)) := by
  have h1 := hq.quants
  have h2 := hq.frees
  have h3 := hq.states
  have hvl := vars_len q
  have hnl := names_len q
  refine pc_proctorref13_names (Runs.of fun Φ h => ?_)
  unfold c_proctorref13_names
  have fin : ∀ b heap, headR q = b → Φ ⟨112, [(2, .bool b)], heap⟩ := fun b heap e => h _ ⟨_, _, rfl, rfl, fitB e.symm⟩
  clear h
  generalize hR : headR q = w at *
  unfold headR at hR
  replace hR := hR.symm
  try (simp -implicitDefEqProofs only [go_sem, zq0, zq1, zq2, zq3, zq4, zq5, zq6, zq7, zq8, zq9, zq10, zq11, zq12, zq13, zq14, zq15, zq16, zq17, reduceIte, reduceCtorEq, qeaV, declsV, quantsV, freesV, statesV, symsV, nodesV, transsV, List.length_map])
  refine at_loop (fun n st => ∃ i : Nat, i + n = q.quants.length ∧ st = ⟨112, [(1, .ref 1 0 0), (3, .arr 3 0 i), (4, iv i)], [(1, ⟨false, t_api_Qea, 9, [qeaV q]⟩), (3, ⟨true, t_string, 1, (q.vars.take i).map AV.str⟩)]⟩ ∧ ∀ j y, j < i → q.quants[j]? = some y → typeOk y.type = true) q.quants.length ⟨0, by simp, rfl, fun j x hj => by omega⟩ ?_
  rintro I hI n st ⟨i, hi, rfl, hno⟩
  simp -implicitDefEqProofs only [go_sem, zq0, zq1, zq2, zq3, zq4, zq5, zq6, zq7, zq8, zq9, zq10, zq11, zq12, zq13, zq14, zq15, zq16, zq17, reduceIte, reduceCtorEq, qeaV, declsV, quantsV, freesV, statesV, symsV, nodesV, transsV, List.length_map]
  refine ⟨fun hlt => ?_, fun hge => ?_⟩
  · have hlt' : i < q.quants.length := by omega
    obtain ⟨y, hy, hm⟩ := at_some hlt'
    have hw := wrap_succ hlt' (by omega)
    have hbd : (i + 1) * 16 ≤ 140737488355328 := by omega
    have hnext : typeOk y.type = true → again I n ⟨112, [(1, .ref 1 0 0), (3, .arr 3 0 (i + 1)), (4, iv (i + 1 : Nat))], [(1, ⟨false, t_api_Qea, 9, [qeaV q]⟩), (3, ⟨true, t_string, 1, (q.vars.take (i + 1)).map AV.str⟩)]⟩ := fun hv => at_again (n - 1) (by omega) (hI _ _ ⟨i + 1, by omega, rfl, allI_step (p := fun _ (y : QuantT) => typeOk y.type) hy hv hno⟩)
    have hbad : typeOk y.type = false → w = false := fun hv => by rw [hR, allI_false hy hv, Bool.false_and]
    have hrl := take_len (l := q.vars) (k := i) (by omega)
    rw [take_map_succ (vars_q hy)] at hnext
    generalize (q.vars.take i).map AV.str = R at *
    (try (simp -implicitDefEqProofs only [go_sem, zq0, zq1, zq2, zq3, zq4, zq5, zq6, zq7, zq8, zq9, zq10, zq11, zq12, zq13, zq14, zq15, zq16, zq17, reduceIte, reduceCtorEq, aiaddr_map hy, quantV, hw, hrl, hbd])); repeat' ((first | refine at_guard (fun hb => ?_) (fun hb => ?_) | refine ⟨fun hb => ?_, fun hb => ?_⟩ | fail) <;> (try (simp -implicitDefEqProofs only [go_sem, zq0, zq1, zq2, zq3, zq4, zq5, zq6, zq7, zq8, zq9, zq10, zq11, zq12, zq13, zq14, zq15, zq16, zq17, reduceIte, reduceCtorEq, aiaddr_map hy, quantV, hw, hrl, hbd])))
    all_goals first | refine hnext ?_ | refine fin _ _ (hbad ?_)
    all_goals
      clear hnext hbad fin hno hI hR
      unfold typeOk
      rw [Bool.eq_iff_iff]
      simp at *
      omega
  · have : i = q.quants.length := by omega
    subst this
    rw [allI_all (Nat.le_refl _) hno, Bool.true_and] at hR
    clear hI hno
    try (simp -implicitDefEqProofs only [go_sem, zq0, zq1, zq2, zq3, zq4, zq5, zq6, zq7, zq8, zq9, zq10, zq11, zq12, zq13, zq14, zq15, zq16, zq17, reduceIte, reduceCtorEq, qeaV, declsV, quantsV, freesV, statesV, symsV, nodesV, transsV, List.length_map])
    refine at_loop (fun n st => ∃ i : Nat, i + n = q.frees.length ∧ st = ⟨112, [(1, .ref 1 0 0), (3, .arr 3 0 (q.quants.length + i)), (5, iv i)], [(1, ⟨false, t_api_Qea, 9, [qeaV q]⟩), (3, ⟨true, t_string, 1, (q.vars.take (q.quants.length + i)).map AV.str⟩)]⟩ ∧ ∀ j y, j < i → q.frees[j]? = some y → y.init.ok = true) q.frees.length ⟨0, by simp, rfl, fun j x hj => by omega⟩ ?_
    rintro I hI n st ⟨i, hi, rfl, hno⟩
    simp -implicitDefEqProofs only [go_sem, zq0, zq1, zq2, zq3, zq4, zq5, zq6, zq7, zq8, zq9, zq10, zq11, zq12, zq13, zq14, zq15, zq16, zq17, reduceIte, reduceCtorEq, qeaV, declsV, quantsV, freesV, statesV, symsV, nodesV, transsV, List.length_map]
    refine ⟨fun hlt => ?_, fun hge => ?_⟩
    · have hlt' : i < q.frees.length := by omega
      obtain ⟨y, hy, hm⟩ := at_some hlt'
      have hw := wrap_succ hlt' (by omega)
      have hbd : (q.quants.length + i + 1) * 16 ≤ 140737488355328 := by omega
      have hnext : y.init.ok = true → again I n ⟨112, [(1, .ref 1 0 0), (3, .arr 3 0 (q.quants.length + i + 1)), (5, iv (i + 1 : Nat))], [(1, ⟨false, t_api_Qea, 9, [qeaV q]⟩), (3, ⟨true, t_string, 1, (q.vars.take (q.quants.length + i + 1)).map AV.str⟩)]⟩ := fun hv => at_again (n - 1) (by omega) (hI _ _ ⟨i + 1, by omega, rfl, allI_step (p := fun _ (y : FreeT) => y.init.ok) hy hv hno⟩)
      have hbad : y.init.ok = false → w = false := fun hv => by rw [hR, allI_false hy hv, Bool.false_and]
      have hrl := take_len (l := q.vars) (k := q.quants.length + i) (by omega)
      have hc := ref03_Right_pc (G := G) y.init
      simp only [valV] at hc
      rw [take_map_succ (vars_f hy)] at hnext
      generalize (q.vars.take (q.quants.length + i)).map AV.str = R at *
      generalize y.init.ok = b at *
      (try (simp -implicitDefEqProofs only [go_sem, zq0, zq1, zq2, zq3, zq4, zq5, zq6, zq7, zq8, zq9, zq10, zq11, zq12, zq13, zq14, zq15, zq16, zq17, reduceIte, reduceCtorEq, aiaddr_map hy, freeV, hw, hrl, hbd])); repeat' ((first | refine at_guard (fun hb => ?_) (fun hb => ?_) | refine ⟨fun hb => ?_, fun hb => ?_⟩ | refine at_call (hc) rfl rfl ?_ | fail) <;> (try (simp -implicitDefEqProofs only [go_sem, zq0, zq1, zq2, zq3, zq4, zq5, zq6, zq7, zq8, zq9, zq10, zq11, zq12, zq13, zq14, zq15, zq16, zq17, reduceIte, reduceCtorEq, aiaddr_map hy, freeV, hw, hrl, hbd])))
      all_goals first | exact hnext (by simpa using hb) | exact fin _ _ (hbad (by simpa using hb))
    · have : i = q.frees.length := by omega
      subst this
      rw [allI_all (Nat.le_refl _) hno, Bool.true_and] at hR
      clear hI hno
      rw [List.take_of_length_le (show q.vars.length ≤ q.quants.length + q.frees.length by omega), ← hvl]
      have htv : List.take q.vars.length (q.vars.map AV.str) = q.vars.map AV.str := List.take_of_length_le (by simp)
      have hlv : (q.vars.map AV.str).length = q.vars.length := by simp
      try (simp -implicitDefEqProofs only [go_sem, zq0, zq1, zq2, zq3, zq4, zq5, zq6, zq7, zq8, zq9, zq10, zq11, zq12, zq13, zq14, zq15, zq16, zq17, reduceIte, reduceCtorEq, qeaV, declsV, quantsV, freesV, statesV, symsV, nodesV, transsV, List.length_map])
      refine at_loop (fun n st => ∃ i : Nat, i + n = q.vars.length ∧ st = ⟨112, [(1, .ref 1 0 0), (3, .arr 3 0 q.vars.length), (6, iv i)], [(1, ⟨false, t_api_Qea, 9, [qeaV q]⟩), (3, ⟨true, t_string, 1, q.vars.map AV.str⟩)]⟩ ∧ ∀ j y, j < i → q.vars[j]? = some y → nameR q.vars j y = true) q.vars.length ⟨0, by simp, rfl, fun j x hj => by omega⟩ ?_
      rintro I hI n st ⟨i, hi, rfl, hno⟩
      simp -implicitDefEqProofs only [go_sem, zq0, zq1, zq2, zq3, zq4, zq5, zq6, zq7, zq8, zq9, zq10, zq11, zq12, zq13, zq14, zq15, zq16, zq17, reduceIte, reduceCtorEq, qeaV, declsV, quantsV, freesV, statesV, symsV, nodesV, transsV, List.length_map]
      refine ⟨fun hlt => ?_, fun hge => ?_⟩
      · have hlt' : i < q.vars.length := by omega
        obtain ⟨y, hy, hm⟩ := at_some hlt'
        have hw := wrap_succ hlt' (by omega)
        have hym : (q.vars.map AV.str)[i]? = some (.str y) := by simp [hy]
        have hnext : nameR q.vars i y = true → again I n ⟨112, [(1, .ref 1 0 0), (3, .arr 3 0 q.vars.length), (6, iv (i + 1 : Nat))], [(1, ⟨false, t_api_Qea, 9, [qeaV q]⟩), (3, ⟨true, t_string, 1, q.vars.map AV.str⟩)]⟩ := fun hv => at_again (n - 1) (by omega) (hI _ _ ⟨i + 1, by omega, rfl, allI_step hy hv hno⟩)
        have hbad : nameR q.vars i y = false → w = false := fun hv => by rw [hR, allI_false hy hv, Bool.false_and]
        have hc1 := ref07_Name_pc (G := G) y
        have hc2 := ref13_twice_pc (G := G) q.vars (by omega) i y hy
        unfold nameR at hnext hbad
        generalize nameOk y = b1 at *
        generalize ((q.vars.take i).any fun x => x == y) = b2 at *
        clear hno hR
        (try (simp -implicitDefEqProofs only [go_sem, zq0, zq1, zq2, zq3, zq4, zq5, zq6, zq7, zq8, zq9, zq10, zq11, zq12, zq13, zq14, zq15, zq16, zq17, reduceIte, reduceCtorEq, aiaddr_arr hlt', hym, hw, List.length_map])); repeat' ((first | refine at_guard (fun hb => ?_) (fun hb => ?_) | refine ⟨fun hb => ?_, fun hb => ?_⟩ | refine at_call (hc1) rfl rfl ?_ | (refine at_call hc2 ?_ rfl ?_; (focus (simp [viewC, flat, viewBs, viewB, viewK, hget, htv, hlv]; done))) | fail) <;> (try (simp -implicitDefEqProofs only [go_sem, zq0, zq1, zq2, zq3, zq4, zq5, zq6, zq7, zq8, zq9, zq10, zq11, zq12, zq13, zq14, zq15, zq16, zq17, reduceIte, reduceCtorEq, aiaddr_arr hlt', hym, hw, List.length_map])))
        all_goals first | (refine hnext ?_; clear hnext hbad fin hI; simp_all; done) | (refine fin _ _ (hbad ?_); clear hnext hbad fin hI; simp_all; done)
      · have : i = q.vars.length := by omega
        subst this
        rw [allI_all (Nat.le_refl _) hno, Bool.true_and] at hR
        clear hI hno
        generalize q.vars.map AV.str = V at *
        try (simp -implicitDefEqProofs only [go_sem, zq0, zq1, zq2, zq3, zq4, zq5, zq6, zq7, zq8, zq9, zq10, zq11, zq12, zq13, zq14, zq15, zq16, zq17, reduceIte, reduceCtorEq, qeaV, declsV, quantsV, freesV, statesV, symsV, nodesV, transsV, List.length_map])
        refine at_loop (fun n st => ∃ i : Nat, i + n = q.states.length ∧ st = ⟨112, [(1, .ref 1 0 0), (7, .arr 7 0 i), (8, iv i)], [(1, ⟨false, t_api_Qea, 9, [qeaV q]⟩), (3, ⟨true, t_string, 1, V⟩), (7, ⟨true, t_string, 1, (q.names.take i).map AV.str⟩)]⟩ ∧ ∀ j y, j < i → q.names[j]? = some y → nameR q.names j y = true) q.states.length ⟨0, by simp, rfl, fun j x hj => by omega⟩ ?_
        rintro I hI n st ⟨i, hi, rfl, hno⟩
        simp -implicitDefEqProofs only [go_sem, zq0, zq1, zq2, zq3, zq4, zq5, zq6, zq7, zq8, zq9, zq10, zq11, zq12, zq13, zq14, zq15, zq16, zq17, reduceIte, reduceCtorEq, qeaV, declsV, quantsV, freesV, statesV, symsV, nodesV, transsV, List.length_map]
        refine ⟨fun hlt => ?_, fun hge => ?_⟩
        · have hlt' : i < q.states.length := by omega
          obtain ⟨y, hy, hm⟩ := at_some hlt'
          have hw := wrap_succ hlt' (by omega)
          have hyn := names_s hy
          have hbd : (i + 1) * 16 ≤ 140737488355328 := by omega
          have hnext : nameR q.names i y.name = true → again I n ⟨112, [(1, .ref 1 0 0), (7, .arr 7 0 (i + 1)), (8, iv (i + 1 : Nat))], [(1, ⟨false, t_api_Qea, 9, [qeaV q]⟩), (3, ⟨true, t_string, 1, V⟩), (7, ⟨true, t_string, 1, (q.names.take (i + 1)).map AV.str⟩)]⟩ := fun hv => at_again (n - 1) (by omega) (hI _ _ ⟨i + 1, by omega, rfl, allI_step hyn hv hno⟩)
          have hbad : nameR q.names i y.name = false → w = false := fun hv => by rw [hR, allI_false hyn hv, Bool.false_and]
          have hc1 := ref07_Name_pc (G := G) y.name
          have hc2 := ref13_twice_pc (G := G) (q.names.take (i + 1)) (by simp; omega) i y.name (by rw [List.getElem?_take_of_lt (by omega)]; exact hyn)
          have hrl := take_len (l := q.names) (k := i) (by omega)
          rw [take_map_succ hyn, List.take_take, Nat.min_eq_left (by omega)] at hc2
          unfold nameR at hnext hbad
          rw [take_map_succ hyn] at hnext
          generalize nameOk y.name = b1 at *
          generalize ((q.names.take i).any fun x => x == y.name) = b2 at *
          generalize (q.names.take i).map AV.str = R at *
          have hat : (R ++ [AV.str y.name])[i]? = some (.str y.name) := by rw [List.getElem?_append_right (by omega), hrl, Nat.sub_self]; rfl
          have htn : List.take (i + 1) (R ++ [AV.str y.name]) = R ++ [AV.str y.name] := List.take_of_length_le (by simp [hrl])
          have hln : (R ++ [AV.str y.name]).length = i + 1 := by simp [hrl]
          have hi1 : i < i + 1 := by omega
          clear hno hR
          (try (simp -implicitDefEqProofs only [go_sem, zq0, zq1, zq2, zq3, zq4, zq5, zq6, zq7, zq8, zq9, zq10, zq11, zq12, zq13, zq14, zq15, zq16, zq17, reduceIte, reduceCtorEq, aiaddr_map hy, stateV, aiaddr_arr hi1, hat, hw, hrl, hbd, List.length_map])); repeat' ((first | refine at_guard (fun hb => ?_) (fun hb => ?_) | refine ⟨fun hb => ?_, fun hb => ?_⟩ | refine at_call (hc1) rfl rfl ?_ | (refine at_call hc2 ?_ rfl ?_; (focus (simp [viewC, flat, viewBs, viewB, viewK, hget, htn, hln]; done))) | fail) <;> (try (simp -implicitDefEqProofs only [go_sem, zq0, zq1, zq2, zq3, zq4, zq5, zq6, zq7, zq8, zq9, zq10, zq11, zq12, zq13, zq14, zq15, zq16, zq17, reduceIte, reduceCtorEq, aiaddr_map hy, stateV, aiaddr_arr hi1, hat, hw, hrl, hbd, List.length_map])))
          all_goals first | (refine hnext ?_; clear hnext hbad fin hI; simp_all; done) | (refine fin _ _ (hbad ?_); clear hnext hbad fin hI; simp_all; done)
        · have : i = q.states.length := by omega
          subst this
          rw [allI_all (by omega) hno, Bool.true_and] at hR
          clear hI hno
          have hc1 := ref07_Name_pc (G := G) q.name
          (try (simp -implicitDefEqProofs only [go_sem, zq0, zq1, zq2, zq3, zq4, zq5, zq6, zq7, zq8, zq9, zq10, zq11, zq12, zq13, zq14, zq15, zq16, zq17, reduceIte, reduceCtorEq, qeaV, declsV, quantsV, freesV, statesV, symsV, nodesV, transsV])); repeat' ((first | refine at_guard (fun hb => ?_) (fun hb => ?_) | refine ⟨fun hb => ?_, fun hb => ?_⟩ | refine at_call (hc1) rfl rfl ?_ | fail) <;> (try (simp -implicitDefEqProofs only [go_sem, zq0, zq1, zq2, zq3, zq4, zq5, zq6, zq7, zq8, zq9, zq10, zq11, zq12, zq13, zq14, zq15, zq16, zq17, reduceIte, reduceCtorEq, qeaV, declsV, quantsV, freesV, statesV, symsV, nodesV, transsV])))
          all_goals exact fin _ _ hR
end Go.Proofs.YtdfdiglnpekcpabDoor.Ab
