/-
  proctorref13.Few. No claim is proved here.
-/
import Derived.Test.YtjbcfpkibnhodaaGreatDoorYD21
namespace Go.Proofs.YtjbcfpkibnhodaaGreatDoor.Ab
open Go
set_option linter.unusedSimpArgs false
set_option maxHeartbeats 4000000
variable {G : Nat → Option AV}
def short (s : Str) : Bool := decide ((s.length : Int) ≤ 100)
def fewDecl (d : DeclT) : Bool := decide ((d.types.length : Int) ≤ 12) && short d.name
def fewSym (s : SymT) : Bool := decide ((s.args.length : Int) ≤ 12) && allI (fun _ (a : ArgT) => short a.value.str) s.args
def fewTop (q : QeaT) : Bool := decide ((q.decls.length : Int) ≤ 12) && (decide ((q.quants.length : Int) ≤ 9) && (decide ((q.frees.length : Int) ≤ 12) && (decide ((q.states.length : Int) ≤ 12) && (decide ((q.symbols.length : Int) ≤ 12) && (decide ((q.trans.length : Int) ≤ 12) && (decide ((q.nodes.length : Int) ≤ 40) && short q.name))))))
def fewQ (q : QeaT) : Bool := fewTop q && (allI (fun _ d => fewDecl d) q.decls && (allI (fun _ s => fewSym s) q.symbols && (allI (fun _ (f : FreeT) => short f.init.str) q.frees && (allI (fun _ (x : NodeT) => short x.value.str) q.nodes && allI (fun _ (t : TransT) => decide ((t.sets.length : Int) ≤ 12)) q.trans))))
theorem ref13_Few_pc (q : QeaT) : PureC Tryz.prog G n_proctorref13_Few [qeaV q] (iv (if fewQ q = true then 1 else 0)) := by
  refine pc_proctorref13_Few (Runs.of fun Φ h => ?_)
  unfold c_proctorref13_Few
  have fin0 : ∀ heap, fewQ q = false → Φ ⟨166, [(2, iv 0)], heap⟩ := fun heap e => h _ ⟨_, _, rfl, rfl, fitI (by rw [e]; rfl)⟩
  have fin1 : ∀ heap, fewQ q = true → Φ ⟨166, [(2, iv 1)], heap⟩ := fun heap e => h _ ⟨_, _, rfl, rfl, fitI (by rw [e]; rfl)⟩
  clear h
  generalize hR : fewQ q = w at *
  unfold fewQ at hR
  replace hR := hR.symm
  cases hT : fewTop q with
  | false =>
    rw [hT, Bool.false_and] at hR
    unfold fewTop short at hT
    simp only [Bool.and_eq_false_imp, decide_eq_true_eq, decide_eq_false_iff_not] at hT
    repeat' (first | (simp -implicitDefEqProofs only [go_sem, qeaV, declsV, quantsV, freesV, statesV, symsV, nodesV, transsV, List.length_map]) | refine at_guard (fun hb => ?_) (fun hb => ?_) | refine ⟨fun hb => ?_, fun hb => ?_⟩ | fail)
    all_goals first | exact fin0 _ hR | (exfalso; simp at *; omega)
  | true =>
    rw [hT, Bool.true_and] at hR
    unfold fewTop short at hT
    simp only [Bool.and_eq_true, decide_eq_true_eq] at hT
    obtain ⟨t1, t2, t3, t4, t5, t6, t7, t8⟩ := hT
    repeat' (first | (simp -implicitDefEqProofs only [go_sem, qeaV, declsV, quantsV, freesV, statesV, symsV, nodesV, transsV, List.length_map]) | refine at_guard (fun hb => ?_) (fun hb => ?_) | refine ⟨fun hb => ?_, fun hb => ?_⟩ | fail)
    all_goals first | (exfalso; simp at hb; omega) | (exfalso; clear fin0 fin1 hR; simp at *; omega) | skip
    refine at_loop (fun n st => ∃ i : Nat, i + n = q.decls.length ∧ st = ⟨166, [(1, .ref 1 0 0), (3, iv i)], [(1, ⟨false, t_api_Qea, 9, [qeaV q]⟩)]⟩ ∧ ∀ j y, j < i → q.decls[j]? = some y → fewDecl y = true) q.decls.length ⟨0, by simp, rfl, fun j x hj => by omega⟩ ?_
    rintro I hI n st ⟨i, hi, rfl, hno⟩
    simp -implicitDefEqProofs only [go_sem, qeaV, declsV, quantsV, freesV, statesV, symsV, nodesV, transsV, List.length_map]
    refine ⟨fun hlt => ?_, fun hge => ?_⟩
    · have hlt' : i < q.decls.length := by omega
      obtain ⟨y, hy, hm⟩ := at_some hlt'
      have hw := wrap_succ hlt' (by omega)
      have hnext : fewDecl y = true → again I n ⟨166, [(1, .ref 1 0 0), (3, iv (i + 1 : Nat))], [(1, ⟨false, t_api_Qea, 9, [qeaV q]⟩)]⟩ := fun hv => at_again (n - 1) (by omega) (hI _ _ ⟨i + 1, by omega, rfl, allI_step (p := fun _ d => fewDecl d) hy hv hno⟩)
      have hbad : fewDecl y = false → w = false := fun hv => by rw [hR, allI_false hy hv, Bool.false_and]
      unfold fewDecl short at hnext hbad
      clear hno hR
      repeat' (first | (simp -implicitDefEqProofs only [go_sem, aiaddr_map hy, declV, intsV, hw, qeaV, declsV, quantsV, freesV, statesV, symsV, nodesV, transsV, List.length_map]) | refine at_guard (fun hb => ?_) (fun hb => ?_) | refine ⟨fun hb => ?_, fun hb => ?_⟩ | fail)
      all_goals first | (refine hnext ?_; clear hnext hbad fin0 fin1 hI; simp_all; done) | (refine fin0 _ (hbad ?_); clear hnext hbad fin0 fin1 hI; simp_all; done) | (refine hnext ?_; clear hnext hbad fin0 fin1 hI; simp_all; omega) | (refine fin0 _ (hbad ?_); clear hnext hbad fin0 fin1 hI; simp_all; omega)
    · rw [allI_all (by omega) hno, Bool.true_and] at hR
      clear hI hno hge hi
      try (simp -implicitDefEqProofs only [go_sem, qeaV, declsV, quantsV, freesV, statesV, symsV, nodesV, transsV, List.length_map])
      refine at_loop (fun n st => ∃ i : Nat, i + n = q.symbols.length ∧ st = ⟨166, [(1, .ref 1 0 0), (4, iv i)], [(1, ⟨false, t_api_Qea, 9, [qeaV q]⟩)]⟩ ∧ ∀ j y, j < i → q.symbols[j]? = some y → fewSym y = true) q.symbols.length ⟨0, by simp, rfl, fun j x hj => by omega⟩ ?_
      rintro I hI n st ⟨i, hi, rfl, hno⟩
      simp -implicitDefEqProofs only [go_sem, qeaV, declsV, quantsV, freesV, statesV, symsV, nodesV, transsV, List.length_map]
      refine ⟨fun hlt => ?_, fun hge => ?_⟩
      · have hlt' : i < q.symbols.length := by omega
        obtain ⟨s, hs, hm⟩ := at_some hlt'
        have hw := wrap_succ hlt' (by omega)
        have hnext : fewSym s = true → again I n ⟨166, [(1, .ref 1 0 0), (4, iv (i + 1 : Nat))], [(1, ⟨false, t_api_Qea, 9, [qeaV q]⟩)]⟩ := fun hv => at_again (n - 1) (by omega) (hI _ _ ⟨i + 1, by omega, rfl, allI_step (p := fun _ d => fewSym d) hs hv hno⟩)
        have hbad : fewSym s = false → w = false := fun hv => by rw [hR, allI_false hs hv, Bool.false_and]
        unfold fewSym at hnext hbad
        clear hno hR
        repeat' (first | (simp -implicitDefEqProofs only [go_sem, aiaddr_map hs, symV, argsV, hw, qeaV, declsV, quantsV, freesV, statesV, symsV, nodesV, transsV, List.length_map]) | refine at_guard (fun hb => ?_) (fun hb => ?_) | refine ⟨fun hb => ?_, fun hb => ?_⟩ | fail)
        · exact fin0 _ (hbad (by rw [show decide ((s.args.length : Int) ≤ 12) = false by simp; omega]; rfl))
        have hle : (s.args.length : Int) ≤ 12 := by omega
        rw [show decide ((s.args.length : Int) ≤ 12) = true by simpa using hle, Bool.true_and] at hnext hbad
        refine at_loop (fun m st => ∃ k : Nat, k + m = s.args.length ∧ st = ⟨166, [(1, .ref 1 0 0), (4, iv i), (5, iv k)], [(1, ⟨false, t_api_Qea, 9, [qeaV q]⟩)]⟩ ∧ ∀ j y, j < k → s.args[j]? = some y → short y.value.str = true) s.args.length ⟨0, by simp, rfl, fun j x hj => by omega⟩ ?_
        rintro J hJ m st ⟨k, hk, rfl, hall⟩
        simp -implicitDefEqProofs only [go_sem, aiaddr_map hs, symV, argsV, qeaV, declsV, quantsV, freesV, statesV, symsV, nodesV, transsV, List.length_map]
        refine ⟨fun hlt2 => ?_, fun hge2 => ?_⟩
        · have hlt2' : k < s.args.length := by omega
          obtain ⟨a, ha, ham⟩ := at_some hlt2'
          have hw2 := wrap_succ hlt2' (by omega)
          have hgo : short a.value.str = true → again J m ⟨166, [(1, .ref 1 0 0), (4, iv i), (5, iv (k + 1 : Nat))], [(1, ⟨false, t_api_Qea, 9, [qeaV q]⟩)]⟩ := fun hv => at_again (m - 1) (by omega) (hJ _ _ ⟨k + 1, by omega, rfl, allI_step (p := fun _ (a : ArgT) => short a.value.str) ha hv hall⟩)
          have hbd : short a.value.str = false → w = false := fun hv => hbad (allI_false ha hv)
          unfold short at hgo hbd
          clear hnext hbad hall
          repeat' (first | (simp -implicitDefEqProofs only [go_sem, aiaddr_map hs, aiaddr_map ha, argV, symV, argsV, hw2, qeaV, declsV, quantsV, freesV, statesV, symsV, nodesV, transsV, List.length_map]) | refine at_guard (fun hb => ?_) (fun hb => ?_) | refine ⟨fun hb => ?_, fun hb => ?_⟩ | fail)
          all_goals first | (refine hgo ?_; simp; omega) | (refine fin0 _ (hbd ?_); simp; omega)
        · have := hnext (allI_all (by omega) hall)
          try (simp -implicitDefEqProofs only [go_sem, hw])
          exact this
      · rw [allI_all (by omega) hno, Bool.true_and] at hR
        clear hI hno hge hi
        try (simp -implicitDefEqProofs only [go_sem, qeaV, declsV, quantsV, freesV, statesV, symsV, nodesV, transsV, List.length_map])
        refine at_loop (fun n st => ∃ i : Nat, i + n = q.frees.length ∧ st = ⟨166, [(1, .ref 1 0 0), (6, iv i)], [(1, ⟨false, t_api_Qea, 9, [qeaV q]⟩)]⟩ ∧ ∀ j y, j < i → q.frees[j]? = some y → short y.init.str = true) q.frees.length ⟨0, by simp, rfl, fun j x hj => by omega⟩ ?_
        rintro I hI n st ⟨i, hi, rfl, hno⟩
        simp -implicitDefEqProofs only [go_sem, qeaV, declsV, quantsV, freesV, statesV, symsV, nodesV, transsV, List.length_map]
        refine ⟨fun hlt => ?_, fun hge => ?_⟩
        · have hlt' : i < q.frees.length := by omega
          obtain ⟨y, hy, hm⟩ := at_some hlt'
          have hw := wrap_succ hlt' (by omega)
          have hnext : short y.init.str = true → again I n ⟨166, [(1, .ref 1 0 0), (6, iv (i + 1 : Nat))], [(1, ⟨false, t_api_Qea, 9, [qeaV q]⟩)]⟩ := fun hv => at_again (n - 1) (by omega) (hI _ _ ⟨i + 1, by omega, rfl, allI_step (p := fun _ (f : FreeT) => short f.init.str) hy hv hno⟩)
          have hbad : short y.init.str = false → w = false := fun hv => by rw [hR, allI_false hy hv, Bool.false_and]
          unfold short at hnext hbad
          clear hno hR
          repeat' (first | (simp -implicitDefEqProofs only [go_sem, aiaddr_map hy, freeV, hw, qeaV, declsV, quantsV, freesV, statesV, symsV, nodesV, transsV, List.length_map]) | refine at_guard (fun hb => ?_) (fun hb => ?_) | refine ⟨fun hb => ?_, fun hb => ?_⟩ | fail)
          all_goals first | (refine hnext ?_; simp; omega) | (refine fin0 _ (hbad ?_); simp; omega)
        · rw [allI_all (by omega) hno, Bool.true_and] at hR
          clear hI hno hge hi
          try (simp -implicitDefEqProofs only [go_sem, qeaV, declsV, quantsV, freesV, statesV, symsV, nodesV, transsV, List.length_map])
          refine at_loop (fun n st => ∃ i : Nat, i + n = q.nodes.length ∧ st = ⟨166, [(1, .ref 1 0 0), (7, iv i)], [(1, ⟨false, t_api_Qea, 9, [qeaV q]⟩)]⟩ ∧ ∀ j y, j < i → q.nodes[j]? = some y → short y.value.str = true) q.nodes.length ⟨0, by simp, rfl, fun j x hj => by omega⟩ ?_
          rintro I hI n st ⟨i, hi, rfl, hno⟩
          simp -implicitDefEqProofs only [go_sem, qeaV, declsV, quantsV, freesV, statesV, symsV, nodesV, transsV, List.length_map]
          refine ⟨fun hlt => ?_, fun hge => ?_⟩
          · have hlt' : i < q.nodes.length := by omega
            obtain ⟨y, hy, hm⟩ := at_some hlt'
            have hw := wrap_succ hlt' (by omega)
            have hnext : short y.value.str = true → again I n ⟨166, [(1, .ref 1 0 0), (7, iv (i + 1 : Nat))], [(1, ⟨false, t_api_Qea, 9, [qeaV q]⟩)]⟩ := fun hv => at_again (n - 1) (by omega) (hI _ _ ⟨i + 1, by omega, rfl, allI_step (p := fun _ (f : NodeT) => short f.value.str) hy hv hno⟩)
            have hbad : short y.value.str = false → w = false := fun hv => by rw [hR, allI_false hy hv, Bool.false_and]
            unfold short at hnext hbad
            clear hno hR
            repeat' (first | (simp -implicitDefEqProofs only [go_sem, aiaddr_map hy, nodeV, hw, qeaV, declsV, quantsV, freesV, statesV, symsV, nodesV, transsV, List.length_map]) | refine at_guard (fun hb => ?_) (fun hb => ?_) | refine ⟨fun hb => ?_, fun hb => ?_⟩ | fail)
            all_goals first | (refine hnext ?_; simp; omega) | (refine fin0 _ (hbad ?_); simp; omega)
          · rw [allI_all (by omega) hno, Bool.true_and] at hR
            clear hI hno hge hi
            try (simp -implicitDefEqProofs only [go_sem, qeaV, declsV, quantsV, freesV, statesV, symsV, nodesV, transsV, List.length_map])
            refine at_loop (fun n st => ∃ i : Nat, i + n = q.trans.length ∧ st = ⟨166, [(1, .ref 1 0 0), (8, iv i)], [(1, ⟨false, t_api_Qea, 9, [qeaV q]⟩)]⟩ ∧ ∀ j y, j < i → q.trans[j]? = some y → decide ((y.sets.length : Int) ≤ 12) = true) q.trans.length ⟨0, by simp, rfl, fun j x hj => by omega⟩ ?_
            rintro I hI n st ⟨i, hi, rfl, hno⟩
            simp -implicitDefEqProofs only [go_sem, qeaV, declsV, quantsV, freesV, statesV, symsV, nodesV, transsV, List.length_map]
            refine ⟨fun hlt => ?_, fun hge => ?_⟩
            · have hlt' : i < q.trans.length := by omega
              obtain ⟨y, hy, hm⟩ := at_some hlt'
              have hw := wrap_succ hlt' (by omega)
              have hnext : decide ((y.sets.length : Int) ≤ 12) = true → again I n ⟨166, [(1, .ref 1 0 0), (8, iv (i + 1 : Nat))], [(1, ⟨false, t_api_Qea, 9, [qeaV q]⟩)]⟩ := fun hv => at_again (n - 1) (by omega) (hI _ _ ⟨i + 1, by omega, rfl, allI_step (p := fun _ (t : TransT) => decide ((t.sets.length : Int) ≤ 12)) hy hv hno⟩)
              have hbad : decide ((y.sets.length : Int) ≤ 12) = false → w = false := fun hv => by rw [hR, allI_false hy hv]
              clear hno hR
              repeat' (first | (simp -implicitDefEqProofs only [go_sem, aiaddr_map hy, transV, setsV, hw, qeaV, declsV, quantsV, freesV, statesV, symsV, nodesV, transsV, List.length_map]) | refine at_guard (fun hb => ?_) (fun hb => ?_) | refine ⟨fun hb => ?_, fun hb => ?_⟩ | fail)
              all_goals first | (refine hnext ?_; simp; omega) | (refine fin0 _ (hbad ?_); simp; omega)
            · rw [allI_all (by omega) hno] at hR
              try (simp -implicitDefEqProofs only [go_sem])
              exact fin1 _ hR
end Go.Proofs.YtjbcfpkibnhodaaGreatDoor.Ab
