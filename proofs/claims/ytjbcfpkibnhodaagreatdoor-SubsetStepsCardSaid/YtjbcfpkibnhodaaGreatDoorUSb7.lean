/-
  subset: an automaton of sets of states: what is asked of it and leaves it as it is. Sets of states as configurations, two ways. subset: the configurations of a set of states: new memory alone. subset.New: a new automaton of sets of states, and its map. No claim is proved here.
-/
import Derived.Test.YtjbcfpkibnhodaaGreatDoorUSb3
namespace Go.Proofs.YtjbcfpkibnhodaaGreatDoor.Ab
open Go Go.RowKit
set_option linter.unusedSimpArgs false
set_option maxHeartbeats 4000000
set_option maxRecDepth 100000
variable {G : Nat → Option AV}
def autoE (q : QeaT) (x : AV) : AV := .agg [.str q.name, .seq 2 (q.decls.map declV), .seq 3 (q.quants.map quantV), .seq 5 (q.frees.map freeV), .seq 3 (q.states.map stateV), iv q.start, .seq 2 (q.symbols.map symV), .seq 7 (q.nodes.map nodeV), .seq 5 (q.trans.map transV), x, .int .u32 ((2 ^ q.states.length - 1 : Nat) : Int), .int .u64 ((2 ^ q.symbols.length - 1 : Nat) : Int)]
def entV (e : (Nat × Nat) × Nat) : AV := .tup [pairV e.1, .int .u32 (e.2 : Int)]
def knownV (K : List ((Nat × Nat) × Nat)) : AV := .mapc (K.map entV)
theorem Auto_Start_pc (q : QeaT) (x : AV) (h0 : 0 ≤ q.start) (h1 : q.start < 32) : PureC Tryz.prog G n_subset_Auto_Start [.eptr (autoE q x) 0] (.int .u32 ((2 ^ q.start.toNat : Nat) : Int)) := by
  refine pc_subset_Auto_Start (Runs.of fun Φ h => ?_)
  unfold c_subset_Auto_Start
  generalize hs : q.start.toNat = s at *
  have e : q.start = (s : Int) := by omega
  have g1 := shl32 (s := s) (by omega)
  have g2 := u64_nat (m := s) (by omega)
  generalize 2 ^ s = p at *
  repeat' (first | (simp -implicitDefEqProofs only [go_sem, autoE, e, g1, g2]) | refine at_guard (fun hb => ?_) (fun hb => ?_) | refine ⟨fun hb => ?_, fun hb => ?_⟩ | fail)
  exact h _ ⟨_, _, rfl, rfl, .refl _⟩
theorem Auto_Start_nil : PureC Tryz.prog G n_subset_Auto_Start [.nilp] (.int .u32 0) := by
  refine pc_subset_Auto_Start (Runs.of fun Φ h => ?_)
  unfold c_subset_Auto_Start
  repeat' (first | (simp -implicitDefEqProofs only [go_sem]) | refine at_guard (fun hb => ?_) (fun hb => ?_) | refine ⟨fun hb => ?_, fun hb => ?_⟩ | fail)
  exact h _ ⟨_, _, rfl, rfl, .refl _⟩
theorem Auto_Known_pc (q : QeaT) (K : List ((Nat × Nat) × Nat)) : PureC Tryz.prog G n_subset_Auto_Known [.eptr (autoE q (knownV K)) 0] (iv K.length) := by
  refine pc_subset_Auto_Known (Runs.of fun Φ h => ?_)
  unfold c_subset_Auto_Known
  repeat' (first | (simp -implicitDefEqProofs only [go_sem, autoE, knownV, List.length_map]) | refine at_guard (fun hb => ?_) (fun hb => ?_) | refine ⟨fun hb => ?_, fun hb => ?_⟩ | fail)
  exact h _ ⟨_, _, rfl, rfl, .refl _⟩
theorem Auto_Known_nil : PureC Tryz.prog G n_subset_Auto_Known [.nilp] (iv 0) := by
  refine pc_subset_Auto_Known (Runs.of fun Φ h => ?_)
  unfold c_subset_Auto_Known
  repeat' (first | (simp -implicitDefEqProofs only [go_sem]) | refine at_guard (fun hb => ?_) (fun hb => ?_) | refine ⟨fun hb => ?_, fun hb => ?_⟩ | fail)
  exact h _ ⟨_, _, rfl, rfl, .refl _⟩
theorem Auto_Accepts_nil (m : Int) : PureC Tryz.prog G n_subset_Auto_Accepts [.nilp, .int .u32 m] (.bool false) := by
  refine pc_subset_Auto_Accepts (Runs.of fun Φ h => ?_)
  unfold c_subset_Auto_Accepts
  repeat' (first | (simp -implicitDefEqProofs only [go_sem]) | refine at_guard (fun hb => ?_) (fun hb => ?_) | refine ⟨fun hb => ?_, fun hb => ?_⟩ | fail)
  exact h _ ⟨_, _, rfl, rfl, .refl _⟩
theorem Auto_Set_nil (m : Int) : PureC Tryz.prog G n_subset_Auto_Set [.nilp, .int .u32 m] (.seq 2 []) := by
  refine pc_subset_Auto_Set (Runs.of fun Φ h => ?_)
  unfold c_subset_Auto_Set
  repeat' (first | (simp -implicitDefEqProofs only [go_sem]) | refine at_guard (fun hb => ?_) (fun hb => ?_) | refine ⟨fun hb => ?_, fun hb => ?_⟩ | fail)
  exact h _ ⟨_, _, rfl, rfl, .refl _⟩
theorem Auto_Next_nil (m k : Int) : PureC Tryz.prog G n_subset_Auto_Next [.nilp, .int .u32 m, .int .u64 k] (.int .u32 0) := by
  refine pc_subset_Auto_Next (Runs.of fun Φ h => ?_)
  unfold c_subset_Auto_Next
  repeat' (first | (simp -implicitDefEqProofs only [go_sem]) | refine at_guard (fun hb => ?_) (fun hb => ?_) | refine ⟨fun hb => ?_, fun hb => ?_⟩ | fail)
  exact h _ ⟨_, _, rfl, rfl, .refl _⟩
theorem Auto_Accepts_pc (q : QeaT) (x : AV) (hsl : q.states.length ≤ 12) (m : Nat) (hm : m < 4294967296) : PureC Tryz.prog G n_subset_Auto_Accepts [.eptr (autoE q x) 0, .int .u32 (m : Int)] (.bool (accN q m)) := by
  refine pc_subset_Auto_Accepts (Runs.of fun Φ h => ?_)
  unfold c_subset_Auto_Accepts
  generalize hv : accN q m = v at *
  unfold accN at hv
  simp -implicitDefEqProofs only [go_sem, autoE, List.length_map]
  refine at_loop (fun n st => ∃ i : Nat, i + n = q.states.length ∧ st = ⟨31, [(1, .int .u32 (m : Int)), (13, .seq 3 (q.states.map stateV)), (14, iv q.states.length), (15, iv i)], []⟩ ∧ accGo m (q.states.drop i) i = v) q.states.length ⟨0, by simp, by simp; rfl, hv⟩ ?_
  rintro I hI n st ⟨i, hi, rfl, hva⟩
  simp -implicitDefEqProofs only [go_sem, List.length_map]
  refine ⟨fun hlt => ?_, fun hge => ?_⟩
  · have hlt' : i < q.states.length := by omega
    obtain ⟨y, hy, _⟩ := at_some hlt'
    have hw := wrap_succ hlt' (by omega)
    rw [dropC_at hy, accGo] at hva
    have hs1 := shl32 (s := i) (by omega)
    have hs3 := u64_nat (m := i) (by omega)
    have hpp : 0 < 2 ^ i := Nat.two_pow_pos i
    obtain ⟨yn, y1, y2⟩ := y
    cases y2 with
    | false =>
      simp only [Bool.and_false, Bool.false_or] at hva
      repeat' (first | (simp -implicitDefEqProofs only [go_sem, aiaddr_map hy, stateV, hw]) | refine at_guard (fun hb => ?_) (fun hb => ?_) | refine ⟨fun hb => ?_, fun hb => ?_⟩ | fail)
      exact at_again (n - 1) (by omega) (hI _ _ ⟨i + 1, by omega, rfl, hva⟩)
    | true =>
      simp only [Bool.and_true] at hva
      cases hβ : m.testBit i with
      | false =>
        have hb := (bitF hβ).a32 hm (by omega)
        simp only [hβ, Bool.false_eq_true, if_false, Bool.false_or] at hva hb
        generalize 2 ^ i = p at *
        repeat' (first | (simp -implicitDefEqProofs only [go_sem, aiaddr_map hy, stateV, hw, hs1, hs3, hb]) | refine at_guard (fun hb => ?_) (fun hb => ?_) | refine ⟨fun hb => ?_, fun hb => ?_⟩ | fail)
        exact at_again (n - 1) (by omega) (hI _ _ ⟨i + 1, by omega, rfl, hva⟩)
      | true =>
        have hb := (bitF hβ).a32 hm (by omega)
        simp only [hβ, if_true, Bool.true_or] at hva hb
        subst hva
        generalize 2 ^ i = p at *
        have hne : ((p : Int) != 0) = true := by simp; omega
        repeat' (first | (simp -implicitDefEqProofs only [go_sem, aiaddr_map hy, stateV, hw, hs1, hs3, hb, hne]) | refine at_guard (fun hb => ?_) (fun hb => ?_) | refine ⟨fun hb => ?_, fun hb => ?_⟩ | fail)
        exact h _ ⟨_, _, rfl, rfl, .refl _⟩
  · rw [List.drop_eq_nil_of_le (by omega), accGo] at hva
    subst hva
    repeat' (first | (simp -implicitDefEqProofs only [go_sem]) | refine at_guard (fun hb => ?_) (fun hb => ?_) | refine ⟨fun hb => ?_, fun hb => ?_⟩ | fail)
    exact h _ ⟨_, _, rfl, rfl, .refl _⟩
end Go.Proofs.YtjbcfpkibnhodaaGreatDoor.Ab
namespace Go.Proofs.YtjbcfpkibnhodaaGreatDoor.Ab
open Go Go.RowKit
set_option linter.unusedSimpArgs false
set_option maxHeartbeats 4000000
set_option maxRecDepth 100000
variable {G : Nat → Option AV}
def cfgN (i : Nat) : AV := .agg [iv i, .nils]
def cfgC (i : Nat) : CfgT := ⟨(i : Int), []⟩
def setN (n m : Nat) : List Nat := (List.range n).filter fun i => m.testBit i
theorem setN_succ (n m : Nat) : setN (n + 1) m = setN n m ++ (if m.testBit n = true then [n] else []) := by
  unfold setN
  rw [List.range_succ, List.filter_append]
  cases h : m.testBit n <;> simp [h]
theorem setN_len (n m : Nat) : (setN n m).length ≤ n := by
  unfold setN
  have := List.length_filter_le (fun i => m.testBit i) (List.range n)
  rw [List.length_range] at this
  exact this
theorem ref28_Set_pc (q : QeaT) (hsl : q.states.length ≤ 12) (m : Nat) : PureC Tryz.prog G n_proctorref28_Set [qeaV q, .int .u32 (m : Int)] (.seq 2 ((setN q.states.length m).map cfgN)) := by
  refine pc_proctorref28_Set (Runs.of fun Φ h => ?_)
  unfold c_proctorref28_Set
  simp -implicitDefEqProofs only [go_sem, qeaV, declsV, quantsV, freesV, statesV, symsV, nodesV, transsV]
  refine at_loop (fun n st => ∃ (i : Nat) (l : List Nat), i + n = q.states.length ∧ l = setN i m ∧ st = ⟨26, [(1, .int .u32 (m : Int)), (2, .ref 2 0 0), (5, .arr 5 0 l.length), (6, iv i)], [(2, ⟨false, t_api_Qea, 9, [qeaV q]⟩), (4, ⟨true, t_api_Config, 2, []⟩), (5, ⟨true, t_api_Config, 2, l.map cfgN⟩)]⟩) q.states.length ⟨0, [], by simp, by simp [setN], by simp [qeaV, declsV, quantsV, freesV, statesV, symsV, nodesV, transsV]; rfl⟩ ?_
  rintro I hI n st ⟨i, l, hi, hl, rfl⟩
  have hll : l.length ≤ 12 := by rw [hl]; have := setN_len i m; omega
  simp -implicitDefEqProofs only [go_sem, qeaV, declsV, quantsV, freesV, statesV, symsV, nodesV, transsV, List.length_map]
  refine ⟨fun hlt => ?_, fun hge => ?_⟩
  · have hlt' : i < q.states.length := by omega
    have hw := wrap_succ hlt' (by omega)
    have hs2 := shr32 (a := m) (s := i) (by omega)
    have hs3 := u64_nat (m := i) (by omega)
    have hnx := setN_succ i m
    rw [← hl] at hnx
    have hb1 : (l.length + 1) * 32 ≤ 140737488355328 := by omega
    cases hβ : m.testBit i with
    | false =>
      have hb := (bitF hβ).r32
      simp only [hβ, Bool.false_eq_true, if_false, List.append_nil] at hnx hb
      generalize m / 2 ^ i = mp at *
      repeat' (first | (simp -implicitDefEqProofs only [go_sem, qeaV, declsV, quantsV, freesV, statesV, symsV, nodesV, transsV, hw, hs2, hs3, hb, List.length_map]) | refine at_guard (fun hb => ?_) (fun hb => ?_) | refine ⟨fun hb => ?_, fun hb => ?_⟩ | fail)
      exact at_again (n - 1) (by omega) (hI _ _ ⟨i + 1, l, by omega, hnx.symm, by simp [qeaV, declsV, quantsV, freesV, statesV, symsV, nodesV, transsV]⟩)
    | true =>
      have hb := (bitF hβ).r32
      simp only [hβ, if_true] at hnx hb
      generalize m / 2 ^ i = mp at *
      repeat' (first | (simp -implicitDefEqProofs only [go_sem, qeaV, declsV, quantsV, freesV, statesV, symsV, nodesV, transsV, hw, hs2, hs3, hb, hb1, List.length_map, List.length_append, cfgN]) | refine at_guard (fun hb => ?_) (fun hb => ?_) | refine ⟨fun hb => ?_, fun hb => ?_⟩ | fail)
      refine at_again (n - 1) (by omega) (hI _ _ ⟨i + 1, l ++ [i], by omega, hnx.symm, ?_⟩)
      simp [qeaV, declsV, quantsV, freesV, statesV, symsV, nodesV, transsV, cfgN]
  · have hi' : i = q.states.length := by omega
    subst hi'
    subst hl
    repeat' (first | (simp -implicitDefEqProofs only [go_sem, List.length_map]) | refine at_guard (fun hb => ?_) (fun hb => ?_) | refine ⟨fun hb => ?_, fun hb => ?_⟩ | fail)
    exact h _ ⟨_, _, rfl, view_map (sz := 2) (ty := t_api_Config) (by decide) (by simp [hget]) rfl, .refl _⟩
end Go.Proofs.YtjbcfpkibnhodaaGreatDoor.Ab
namespace Go.Proofs.YtjbcfpkibnhodaaGreatDoor.Ab
open Go Go.RowKit
set_option linter.unusedSimpArgs false
set_option maxHeartbeats 4000000
set_option maxRecDepth 100000
variable {G : Nat → Option AV}
theorem Auto_Set_pn (q : QeaT) (x : AV) (hsl : q.states.length ≤ 12) (m : Nat) (hm : m < 4294967296) : PureN Tryz.prog G n_subset_Auto_Set [.eptr (autoE q x) 0, .int .u32 (m : Int)] (.seq 2 ((setN q.states.length m).map cfgN)) := by
  refine PureN.of_runs (fn := Tryz.f32) (A := c_subset_Auto_Set) Tryz.func32 k_subset_Auto_Set rfl (RunsN.of fun Φ h => ?_)
  unfold c_subset_Auto_Set
  simp -implicitDefEqProofs only [go_sem, autoE, List.length_map]
  refine at_loop (fun n st => ∃ (i : Nat) (l : List Nat), i + n = q.states.length ∧ l = setN i m ∧ st = ⟨31, [(1, .int .u32 (m : Int)), (5, .arr 5 0 l.length), (14, iv q.states.length), (15, iv i)], [(4, ⟨true, t_api_Config, 2, []⟩), (5, ⟨true, t_api_Config, 2, l.map cfgN⟩)]⟩) q.states.length ⟨0, [], by simp, by simp [setN], by simp; rfl⟩ ?_
  rintro I hI n st ⟨i, l, hi, hl, rfl⟩
  have hll : l.length ≤ 12 := by rw [hl]; have := setN_len i m; omega
  simp -implicitDefEqProofs only [go_sem, List.length_map]
  refine ⟨fun hlt => ?_, fun hge => ?_⟩
  · have hlt' : i < q.states.length := by omega
    have hw := wrap_succ hlt' (by omega)
    have hs1 := shl32 (s := i) (by omega)
    have hs3 := u64_nat (m := i) (by omega)
    have hpp : 0 < 2 ^ i := Nat.two_pow_pos i
    have hnx := setN_succ i m
    rw [← hl] at hnx
    have hb1 : (l.length + 1) * 32 ≤ 140737488355328 := by omega
    cases hβ : m.testBit i with
    | false =>
      have hb := (bitF hβ).a32 hm (by omega)
      simp only [hβ, Bool.false_eq_true, if_false, List.append_nil] at hnx hb
      generalize 2 ^ i = p at *
      repeat' (first | (simp -implicitDefEqProofs only [go_sem, hw, hs1, hs3, hb, List.length_map]) | refine at_guard (fun hb => ?_) (fun hb => ?_) | refine ⟨fun hb => ?_, fun hb => ?_⟩ | fail)
      exact at_again (n - 1) (by omega) (hI _ _ ⟨i + 1, l, by omega, hnx.symm, rfl⟩)
    | true =>
      have hb := (bitF hβ).a32 hm (by omega)
      simp only [hβ, if_true] at hnx hb
      generalize 2 ^ i = p at *
      have hne : ((p : Int) != 0) = true := by simp; omega
      repeat' (first | (simp -implicitDefEqProofs only [go_sem, hw, hs1, hs3, hb, hne, hb1, List.length_map, List.length_append, cfgN]) | refine at_guard (fun hb => ?_) (fun hb => ?_) | refine ⟨fun hb => ?_, fun hb => ?_⟩ | fail)
      refine at_again (n - 1) (by omega) (hI _ _ ⟨i + 1, l ++ [i], by omega, hnx.symm, ?_⟩)
      simp [cfgN]
  · have hi' : i = q.states.length := by omega
    subst hi'
    subst hl
    repeat' (first | (simp -implicitDefEqProofs only [go_sem, List.length_map]) | refine at_guard (fun hb => ?_) (fun hb => ?_) | refine ⟨fun hb => ?_, fun hb => ?_⟩ | fail)
    refine h _ ⟨5, _, ⟨true, t_api_Config, 2, (setN q.states.length m).map cfgN⟩, rfl, by simp [hget], rfl, Nat.succ_pos 1, by simp, fun e he => ?_, ?_⟩
    · obtain ⟨i, _, rfl⟩ := List.mem_map.1 he
      rfl
    · simp only
      rw [List.take_of_length_le (by simp)]
end Go.Proofs.YtjbcfpkibnhodaaGreatDoor.Ab
namespace Go.Proofs.YtjbcfpkibnhodaaGreatDoor.Ab
open Go Go.RowKit
set_option linter.unusedSimpArgs false
set_option maxHeartbeats 4000000
set_option maxRecDepth 100000
variable {G : Nat → Option AV}
def autoBox (q : QeaT) (j : Nat) : Box := ⟨false, t_subset_Auto, 12, [autoE q (.mapv j)]⟩
def mapBox (K : List ((Nat × Nat) × Nat)) : Box := ⟨true, 1, 0, K.map entV⟩
theorem wrap32_pred {p : Nat} (h0 : 0 < p) (h : p < 4294967296) : IntKind.u32.wrap ((p : Int) - 1) = ((p - 1 : Nat) : Int) := by
  simp [IntKind.wrap, IntKind.bits, IntKind.signed]
  omega
theorem wrap64_pred {p : Nat} (h0 : 0 < p) (h : p < 18446744073709551616) : IntKind.u64.wrap ((p : Int) - 1) = ((p - 1 : Nat) : Int) := by
  simp [IntKind.wrap, IntKind.bits, IntKind.signed]
  omega
theorem New_nil (hG : words_global G) (q : QeaT) (hq : q.Few) (hn : (rightC q && plainS q) = false) : PureC Tryz.prog G n_subset_New [qeaV q] .nilp := by
  have h1 := core_Right_pc hG q hq
  have h2 := core_Plain_pc (G := G) q (by have := hq.trans; omega)
  refine pc_subset_New (Runs.of fun Φ h => ?_)
  unfold c_subset_New
  generalize rightC q = b1 at *
  generalize plainS q = b2 at *
  simp only [qeaV, declsV, quantsV, freesV, statesV, symsV, nodesV, transsV] at h1 h2
  cases b1 <;> cases b2 <;> simp only [Bool.and_self, Bool.and_false, Bool.and_true, Bool.true_and, Bool.false_and, Bool.true_eq_false] at hn
  all_goals
    repeat' (first | (simp -implicitDefEqProofs only [go_sem, qeaV, declsV, quantsV, freesV, statesV, symsV, nodesV, transsV]) | refine at_guard (fun hb => ?_) (fun hb => ?_) | refine ⟨fun hb => ?_, fun hb => ?_⟩ | refine at_call (h1) rfl rfl ?_ | refine at_call (h2) rfl rfl ?_ | fail)
    exact h _ ⟨_, _, rfl, rfl, .refl _⟩
theorem New_hc (hG : words_global G) (q : QeaT) (hq : q.Few) (hs : q.states.length < 32) (hk : q.symbols.length < 64) (hn : (rightC q && plainS q) = true) :
    HeapC Tryz.prog G n_subset_New [qeaV q] [] (.ref 27 0 0) [(27, autoBox q 12), (12, mapBox [])] := by
  rw [Bool.and_eq_true] at hn
  have h1 := core_Right_pc hG q hq
  have h2 := core_Plain_pc (G := G) q (by have := hq.trans; omega)
  rw [hn.1] at h1
  rw [hn.2] at h2
  have g1 := shl32 (s := q.states.length) hs
  have g2 := u64_nat (m := q.states.length) (by omega)
  have g3 := wrap32_pred (Nat.two_pow_pos q.states.length) (pow32 hs)
  have g4 := shl64 (s := q.symbols.length) hk
  have g5 := u64_nat (m := q.symbols.length) (by omega)
  have g6 := wrap64_pred (Nat.two_pow_pos q.symbols.length) (pow64 hk)
  refine hc_subset_New (RunsH.of fun Φ h => ?_)
  unfold c_subset_New
  have fin : ∀ heap, subH heap [(27, autoBox q 12), (12, mapBox [])] → Φ ⟨28, [(2, .ref 27 0 0)], heap⟩ := fun heap e => h _ ⟨_, _, Weak.refl _, rfl, .refl _, e.at⟩
  clear h
  unfold autoBox autoE mapBox at fin
  generalize 2 ^ q.states.length = p at *
  generalize 2 ^ q.symbols.length = r at *
  simp only [qeaV, declsV, quantsV, freesV, statesV, symsV, nodesV, transsV] at h1 h2
  repeat' (first | (simp -implicitDefEqProofs only [go_sem, qeaV, declsV, quantsV, freesV, statesV, symsV, nodesV, transsV, List.length_map, g1, g2, g3, g4, g5, g6]) | refine at_guard (fun hb => ?_) (fun hb => ?_) | refine ⟨fun hb => ?_, fun hb => ?_⟩ | refine at_call (h1) rfl rfl ?_ | refine at_call (h2) rfl rfl ?_ | fail)
  exact fin _ ⟨rfl, rfl, trivial⟩
end Go.Proofs.YtjbcfpkibnhodaaGreatDoor.Ab
