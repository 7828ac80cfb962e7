/-
  proctorref18.Right, config.Right; what the law asks of its arguments. No claim is proved here.
-/
import Derived.Test.YtjbcfpkibnhodaaGreatDoorYC3
import Derived.Test.YtjbcfpkibnhodaaGreatDoorYAbTrod
namespace Go.Proofs.YtjbcfpkibnhodaaGreatDoor.Ab
open Go Go.RowKit
set_option linter.unusedSimpArgs false
set_option maxHeartbeats 4000000
set_option maxRecDepth 100000
variable {G : Nat → Option AV}
def cfgR (q : QeaT) (c : CfgT) : Bool := decide (0 ≤ c.state) && (decide (c.state < q.states.length) && fitsR c.vals q.frees)
theorem ref18_Right_pc (q : QeaT) (c : CfgT) (hk : c.vals.length < 9223372036854775807) (hl : q.frees.length < 9223372036854775807) : PureC Tryz.prog G n_proctorref18_Right [qeaV q, cfgV c] (.bool (cfgR q c)) := by
  have hf := ref16_Fits_pc (G := G) q c.vals hk hl
  refine pc_proctorref18_Right (Runs.of fun Φ h => ?_)
  unfold c_proctorref18_Right
  unfold cfgR at h
  generalize fitsR c.vals q.frees = z at *
  obtain ⟨x, l⟩ := c
  simp only at h hf
  simp only [qeaV, declsV, quantsV, freesV, statesV, symsV, nodesV, transsV, valsV] at hf
  by_cases h0 : 0 ≤ x
  · have e0 : (0 ≤ x) = True := by simp [h0]
    by_cases h1 : x < q.states.length
    · have e1 : (x < (q.states.length : Int)) = True := by simp [h1]
      rw [decide_eq_true h0, decide_eq_true h1] at h
      repeat' (first | (simp -implicitDefEqProofs only [go_sem, qeaV, declsV, quantsV, freesV, statesV, symsV, nodesV, transsV, cfgV, List.length_map, e0, e1, decide_true]) | refine at_guard (fun hb => ?_) (fun hb => ?_) | refine ⟨fun hb => ?_, fun hb => ?_⟩ | refine at_call (hf) rfl rfl ?_ | fail)
      exact h _ ⟨_, _, rfl, rfl, .refl _⟩
    · have e1 : (x < (q.states.length : Int)) = False := by simp [h1]
      rw [decide_eq_true h0, decide_eq_false h1] at h
      repeat' (first | (simp -implicitDefEqProofs only [go_sem, qeaV, declsV, quantsV, freesV, statesV, symsV, nodesV, transsV, cfgV, List.length_map, e0, e1, decide_true, decide_false]) | refine at_guard (fun hb => ?_) (fun hb => ?_) | refine ⟨fun hb => ?_, fun hb => ?_⟩ | refine at_call (hf) rfl rfl ?_ | fail)
      exact h _ ⟨_, _, rfl, rfl, .refl _⟩
  · have e0 : (0 ≤ x) = False := by simp [h0]
    rw [decide_eq_false h0] at h
    repeat' (first | (simp -implicitDefEqProofs only [go_sem, qeaV, declsV, quantsV, freesV, statesV, symsV, nodesV, transsV, cfgV, List.length_map, e0, decide_false]) | refine at_guard (fun hb => ?_) (fun hb => ?_) | refine ⟨fun hb => ?_, fun hb => ?_⟩ | refine at_call (hf) rfl rfl ?_ | fail)
    exact h _ ⟨_, _, rfl, rfl, .refl _⟩
theorem config_Right_pc (q : QeaT) (c : CfgT) (hk : c.vals.length < 9223372036854775807) (hl : q.frees.length < 9223372036854775807) : PureC Tryz.prog G n_config_Right [qeaV q, cfgV c] (.bool (cfgR q c)) := by
  have hf := eval_Fits_pc (G := G) q c.vals hk hl
  refine pc_config_Right (Runs.of fun Φ h => ?_)
  unfold c_config_Right
  unfold cfgR at h
  generalize fitsR c.vals q.frees = z at *
  obtain ⟨x, l⟩ := c
  simp only at h hf
  simp only [qeaV, declsV, quantsV, freesV, statesV, symsV, nodesV, transsV, valsV] at hf
  by_cases h0 : 0 ≤ x
  · have e0 : (0 ≤ x) = True := by simp [h0]
    by_cases h1 : x < q.states.length
    · have e1 : (x < (q.states.length : Int)) = True := by simp [h1]
      rw [decide_eq_true h0, decide_eq_true h1] at h
      repeat' (first | (simp -implicitDefEqProofs only [go_sem, qeaV, declsV, quantsV, freesV, statesV, symsV, nodesV, transsV, cfgV, List.length_map, e0, e1, decide_true]) | refine at_guard (fun hb => ?_) (fun hb => ?_) | refine ⟨fun hb => ?_, fun hb => ?_⟩ | refine at_call (hf) rfl rfl ?_ | fail)
      exact h _ ⟨_, _, rfl, rfl, .refl _⟩
    · have e1 : (x < (q.states.length : Int)) = False := by simp [h1]
      rw [decide_eq_true h0, decide_eq_false h1] at h
      repeat' (first | (simp -implicitDefEqProofs only [go_sem, qeaV, declsV, quantsV, freesV, statesV, symsV, nodesV, transsV, cfgV, List.length_map, e0, e1, decide_true, decide_false]) | refine at_guard (fun hb => ?_) (fun hb => ?_) | refine ⟨fun hb => ?_, fun hb => ?_⟩ | refine at_call (hf) rfl rfl ?_ | fail)
      exact h _ ⟨_, _, rfl, rfl, .refl _⟩
  · have e0 : (0 ≤ x) = False := by simp [h0]
    rw [decide_eq_false h0] at h
    repeat' (first | (simp -implicitDefEqProofs only [go_sem, qeaV, declsV, quantsV, freesV, statesV, symsV, nodesV, transsV, cfgV, List.length_map, e0, decide_false]) | refine at_guard (fun hb => ?_) (fun hb => ?_) | refine ⟨fun hb => ?_, fun hb => ?_⟩ | refine at_call (hf) rfl rfl ?_ | fail)
    exact h _ ⟨_, _, rfl, rfl, .refl _⟩
theorem filter_succ {α : Type} {p : α → Bool} {l : List α} {i : Nat} {x : α} (h : l[i]? = some x) : (l.take (i + 1)).filter p = (l.take i).filter p ++ (if p x = true then [x] else []) := by
  rw [List.take_add_one, h, List.filter_append]
  congr 1
  by_cases hp : p x = true
  · simp [hp]
  · simp [hp]
theorem law18_rights_pc (q : QeaT) (l : List CfgT) (hl : l.length ≤ 1000) (hls : ∀ c ∈ l, c.vals.length ≤ 1000) (hfl : q.frees.length < 9223372036854775807) : PureC Tryz.prog G n_proctorlaw18_rights [qeaV q, cfgsV l] (cfgsV (l.filter (cfgR q))) := by
  refine pc_proctorlaw18_rights (Runs.of fun Φ h => ?_)
  unfold c_proctorlaw18_rights
  simp -implicitDefEqProofs only [go_sem, cfgsV, qeaV, declsV, quantsV, freesV, statesV, symsV, nodesV, transsV]
  refine at_loop (fun n st => ∃ (i : Nat) (m : List CfgT), i + n = l.length ∧ st = ⟨27, [(1, .seq 2 (l.map cfgV)), (2, .ref 2 0 0), (5, .arr 5 0 m.length), (6, iv i)], [(2, ⟨false, t_api_Qea, 9, [qeaV q]⟩), (4, ⟨true, t_api_Config, 2, []⟩), (5, ⟨true, t_api_Config, 2, m.map cfgV⟩)]⟩ ∧ m = (l.take i).filter (cfgR q)) l.length ⟨0, [], by simp, rfl, rfl⟩ ?_
  rintro I hI n st ⟨i, m, hi, rfl, hm⟩
  have hml : m.length ≤ 1000 := by
    have := List.length_filter_le (cfgR q) (l.take i)
    rw [hm]
    simp only [List.length_take] at this
    omega
  simp -implicitDefEqProofs only [go_sem, qeaV, declsV, quantsV, freesV, statesV, symsV, nodesV, transsV, List.length_map]
  refine ⟨fun hlt => ?_, fun hge => ?_⟩
  · have hlt' : i < l.length := by omega
    obtain ⟨c, hc, hcm⟩ := at_some hlt'
    have hw := wrap_succ hlt' (by omega)
    have hck := hls c hcm
    have h2 := ref18_Right_pc (G := G) q c (by omega) hfl
    have hnx := filter_succ (p := cfgR q) hc
    rw [← hm] at hnx
    generalize cfgR q c = z at *
    obtain ⟨x, vs⟩ := c
    simp only [qeaV, declsV, quantsV, freesV, statesV, symsV, nodesV, transsV, cfgV] at h2
    have hb1 : (m.length + 1) * 32 ≤ 140737488355328 := by omega
    cases z
    · rw [if_neg (by decide), List.append_nil] at hnx
      repeat' (first | (simp -implicitDefEqProofs only [go_sem, qeaV, declsV, quantsV, freesV, statesV, symsV, nodesV, transsV, aiaddr_map hc, cfgV, hw, List.length_map]) | refine at_guard (fun hb => ?_) (fun hb => ?_) | refine ⟨fun hb => ?_, fun hb => ?_⟩ | refine at_call (h2) rfl rfl ?_ | fail)
      exact at_again (n - 1) (by omega) (hI _ _ ⟨i + 1, m, by omega, rfl, hnx.symm⟩)
    · rw [if_pos rfl] at hnx
      repeat' (first | (simp -implicitDefEqProofs only [go_sem, qeaV, declsV, quantsV, freesV, statesV, symsV, nodesV, transsV, aiaddr_map hc, cfgV, hw, List.length_map, List.length_append, hb1]) | refine at_guard (fun hb => ?_) (fun hb => ?_) | refine ⟨fun hb => ?_, fun hb => ?_⟩ | refine at_call (h2) rfl rfl ?_ | fail)
      refine at_again (n - 1) (by omega) (hI _ _ ⟨i + 1, m ++ [⟨x, vs⟩], by omega, ?_, hnx.symm⟩)
      simp [cfgV]
      rfl
  · rw [List.take_of_length_le (by omega)] at hm
    subst hm
    repeat' (first | (simp -implicitDefEqProofs only [go_sem]) | refine at_guard (fun hb => ?_) (fun hb => ?_) | refine ⟨fun hb => ?_, fun hb => ?_⟩ | fail)
    exact h _ ⟨_, _, rfl, view_map (e := cfgV) (ty := t_api_Config) (l := l.filter (cfgR q)) (by decide) (by simp [hget, cfgV]) rfl, .refl _⟩
def shortC (l : List CfgT) : Bool := allI (fun _ (c : CfgT) => decide ((c.vals.length : Int) ≤ 20) && shortV c.vals) l
def small18 (q : QeaT) (l : List CfgT) : Bool := fewQ q && (decide ((l.length : Int) ≤ 20) && (shortC l && rightR q))
theorem law18_small_pc (q : QeaT) (l : List CfgT) : PureC Tryz.prog G n_proctorlaw18_small [qeaV q, cfgsV l] (.bool (small18 q l)) := by
  have hf := ref13_Few_pc (G := G) q
  simp only [qeaV, declsV, quantsV, freesV, statesV, symsV, nodesV, transsV] at hf
  refine pc_proctorlaw18_small (Runs.of fun Φ h => ?_)
  unfold c_proctorlaw18_small
  have fin : ∀ β heap, small18 q l = β → Φ ⟨51, [(4, .bool β)], heap⟩ := fun β heap e => h _ ⟨_, _, rfl, rfl, fitB e.symm⟩
  clear h
  generalize hR : small18 q l = w at *
  unfold small18 at hR
  cases hq : fewQ q with
  | false =>
    rw [hq] at hf
    rw [hq, Bool.false_and] at hR
    repeat' (first | (simp -implicitDefEqProofs only [go_sem, qeaV, declsV, quantsV, freesV, statesV, symsV, nodesV, transsV, cfgsV]) | refine at_guard (fun hb => ?_) (fun hb => ?_) | refine ⟨fun hb => ?_, fun hb => ?_⟩ | refine at_call (hf) rfl rfl ?_ | fail)
    exact fin _ _ hR.symm
  | true =>
    rw [hq] at hf
    rw [hq, Bool.true_and] at hR
    have hrc := ref13_Right_pc (G := G) q (few_of q hq)
    simp only [qeaV, declsV, quantsV, freesV, statesV, symsV, nodesV, transsV] at hrc
    by_cases h20 : (20 : Int) < l.length
    · have e20 : ((20 : Int) < l.length) = True := by simp; omega
      rw [show decide ((l.length : Int) ≤ 20) = false by simp; omega, Bool.false_and] at hR
      repeat' (first | (simp -implicitDefEqProofs only [go_sem, qeaV, declsV, quantsV, freesV, statesV, symsV, nodesV, transsV, cfgsV, List.length_map, e20, decide_true]) | refine at_guard (fun hb => ?_) (fun hb => ?_) | refine ⟨fun hb => ?_, fun hb => ?_⟩ | refine at_call (hf) rfl rfl ?_ | fail)
      exact fin _ _ hR.symm
    have e20 : ((20 : Int) < l.length) = False := by simp; omega
    rw [show decide ((l.length : Int) ≤ 20) = true by simp; omega, Bool.true_and] at hR
    repeat' (first | (simp -implicitDefEqProofs only [go_sem, qeaV, declsV, quantsV, freesV, statesV, symsV, nodesV, transsV, cfgsV, List.length_map, e20, decide_false]) | refine at_guard (fun hb => ?_) (fun hb => ?_) | refine ⟨fun hb => ?_, fun hb => ?_⟩ | refine at_call (hf) rfl rfl ?_ | fail)
    refine at_loop (fun n st => ∃ i : Nat, i + n = l.length ∧ st = ⟨51, [(1, .seq 2 (l.map cfgV)), (2, .ref 2 0 0), (5, iv i)], [(2, ⟨false, t_api_Qea, 9, [qeaV q]⟩)]⟩ ∧ ∀ j c, j < i → l[j]? = some c → (decide ((c.vals.length : Int) ≤ 20) && shortV c.vals) = true) l.length ⟨0, by simp, rfl, fun j v hj => by omega⟩ ?_
    rintro I hI n st ⟨i, hi, rfl, hno⟩
    simp -implicitDefEqProofs only [go_sem, List.length_map]
    refine ⟨fun hlt => ?_, fun hge => ?_⟩
    · have hlt' : i < l.length := by omega
      obtain ⟨c, hc, _⟩ := at_some hlt'
      have hw := wrap_succ hlt' (by omega)
      have hnext : (decide ((c.vals.length : Int) ≤ 20) && shortV c.vals) = true → again I n ⟨51, [(1, .seq 2 (l.map cfgV)), (2, .ref 2 0 0), (5, iv (i + 1 : Nat))], [(2, ⟨false, t_api_Qea, 9, [qeaV q]⟩)]⟩ := fun hv' => at_again (n - 1) (by omega) (hI _ _ ⟨i + 1, by omega, rfl, allI_step (p := fun _ (c : CfgT) => decide ((c.vals.length : Int) ≤ 20) && shortV c.vals) hc hv' hno⟩)
      have hbad : (decide ((c.vals.length : Int) ≤ 20) && shortV c.vals) = false → w = false := fun hv' => by rw [← hR, shortC, allI_false (p := fun _ (c : CfgT) => decide ((c.vals.length : Int) ≤ 20) && shortV c.vals) hc hv', Bool.false_and]
      clear hno
      obtain ⟨x, vs⟩ := c
      simp only at hnext hbad
      by_cases hl : (20 : Int) < vs.length
      · have el : ((20 : Int) < vs.length) = True := by simp; omega
        repeat' (first | (simp -implicitDefEqProofs only [go_sem, aiaddr_map hc, cfgV, List.length_map, el, decide_true]) | refine at_guard (fun hb => ?_) (fun hb => ?_) | refine ⟨fun hb => ?_, fun hb => ?_⟩ | fail)
        exact fin _ _ (hbad (by rw [decide_eq_false (by omega), Bool.false_and]))
      · have el : ((20 : Int) < vs.length) = False := by simp; omega
        rw [decide_eq_true (by omega), Bool.true_and] at hnext hbad
        repeat' (first | (simp -implicitDefEqProofs only [go_sem, aiaddr_map hc, cfgV, List.length_map, el, decide_false]) | refine at_guard (fun hb => ?_) (fun hb => ?_) | refine ⟨fun hb => ?_, fun hb => ?_⟩ | fail)
        refine at_loop (fun n' st => ∃ i' : Nat, i' + n' = vs.length ∧ st = ⟨51, [(1, .seq 2 (l.map cfgV)), (2, .ref 2 0 0), (5, iv i), (6, iv i')], [(2, ⟨false, t_api_Qea, 9, [qeaV q]⟩)]⟩ ∧ ∀ j v, j < i' → vs[j]? = some v → decide ((v.str.length : Int) ≤ 1000) = true) vs.length ⟨0, by simp, rfl, fun j v hj => by omega⟩ ?_
        rintro I' hI' n' st ⟨i', hi', rfl, hno⟩
        simp -implicitDefEqProofs only [go_sem, aiaddr_map hc, cfgV, List.length_map]
        refine ⟨fun hlt => ?_, fun hge => ?_⟩
        · have hlt2 : i' < vs.length := by omega
          obtain ⟨v, hv, _⟩ := at_some hlt2
          have hw2 := wrap_succ hlt2 (by omega)
          have hnext2 : decide ((v.str.length : Int) ≤ 1000) = true → again I' n' ⟨51, [(1, .seq 2 (l.map cfgV)), (2, .ref 2 0 0), (5, iv i), (6, iv (i' + 1 : Nat))], [(2, ⟨false, t_api_Qea, 9, [qeaV q]⟩)]⟩ := fun hv' => at_again (n' - 1) (by omega) (hI' _ _ ⟨i' + 1, by omega, rfl, allI_step (p := fun _ (v : Val) => decide ((v.str.length : Int) ≤ 1000)) hv hv' hno⟩)
          have hbad2 : decide ((v.str.length : Int) ≤ 1000) = false → w = false := fun hv' => hbad (allI_false (p := fun _ (v : Val) => decide ((v.str.length : Int) ≤ 1000)) hv hv')
          clear hno
          by_cases hl : (1000 : Int) < v.str.length
          · have el : ((1000 : Int) < v.str.length) = True := by simp; omega
            repeat' (first | (simp -implicitDefEqProofs only [go_sem, aiaddr_map hc, aiaddr_map hv, cfgV, valV, el, decide_true]) | refine at_guard (fun hb => ?_) (fun hb => ?_) | refine ⟨fun hb => ?_, fun hb => ?_⟩ | fail)
            exact fin _ _ (hbad2 (by simp; omega))
          · have el : ((1000 : Int) < v.str.length) = False := by simp; omega
            repeat' (first | (simp -implicitDefEqProofs only [go_sem, aiaddr_map hc, aiaddr_map hv, cfgV, valV, el, decide_false, hw2]) | refine at_guard (fun hb => ?_) (fun hb => ?_) | refine ⟨fun hb => ?_, fun hb => ?_⟩ | fail)
            exact hnext2 (by simp; omega)
        · have hv := hnext (allI_all (p := fun _ (v : Val) => decide ((v.str.length : Int) ≤ 1000)) (by omega) hno)
          repeat' (first | (simp -implicitDefEqProofs only [go_sem, hw]) | refine at_guard (fun hb => ?_) (fun hb => ?_) | refine ⟨fun hb => ?_, fun hb => ?_⟩ | fail)
          exact hv
    · rw [show shortC l = true from allI_all (p := fun _ (c : CfgT) => decide ((c.vals.length : Int) ≤ 20) && shortV c.vals) (by omega) hno, Bool.true_and] at hR
      clear hI hno
      generalize rightR q = b1 at *
      repeat' (first | (simp -implicitDefEqProofs only [go_sem, qeaV, declsV, quantsV, freesV, statesV, symsV, nodesV, transsV]) | refine at_guard (fun hb => ?_) (fun hb => ?_) | refine ⟨fun hb => ?_, fun hb => ?_⟩ | refine at_call (hrc) rfl rfl ?_ | fail)
      exact fin _ _ hR.symm
end Go.Proofs.YtjbcfpkibnhodaaGreatDoor.Ab
