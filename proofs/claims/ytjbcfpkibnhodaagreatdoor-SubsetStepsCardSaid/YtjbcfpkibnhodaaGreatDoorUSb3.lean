/-
  proctorref28: whether an automaton is plain; those states and symbols of a pair that it has; sets of states as configurations. No claim is proved here.
-/
import Derived.Test.YtjbcfpkibnhodaaGreatDoorUSb2
namespace Go.Proofs.YtjbcfpkibnhodaaGreatDoor.Ab
open Go Go.RowKit
set_option linter.unusedSimpArgs false
set_option maxHeartbeats 4000000
set_option maxRecDepth 100000
variable {G : Nat → Option AV}
theorem ref28_Plain_pc (q : QeaT) (hl : q.trans.length ≤ 1000000) (_hf : q.frees.length ≤ 1000000) : PureC Tryz.prog G n_proctorref28_Plain [qeaV q] (.bool (q.trans.all (fun t => t.guard == -1) && decide (q.frees.length = 0))) := by
  refine pc_proctorref28_Plain (Runs.of fun Φ h => ?_)
  unfold c_proctorref28_Plain
  generalize hv : (q.trans.all (fun t => t.guard == -1) && decide (q.frees.length = 0)) = v at *
  simp -implicitDefEqProofs only [go_sem, qeaV, declsV, quantsV, freesV, statesV, symsV, nodesV, transsV]
  refine at_loop (fun n st => ∃ i : Nat, i + n = q.trans.length ∧ st = ⟨22, [(1, .ref 1 0 0), (3, iv i)], [(1, ⟨false, t_api_Qea, 9, [qeaV q]⟩)]⟩ ∧ ((q.trans.drop i).all (fun t => t.guard == -1) && decide (q.frees.length = 0)) = v) q.trans.length ⟨0, by simp, by simp [qeaV, declsV, quantsV, freesV, statesV, symsV, nodesV, transsV]; rfl, hv⟩ ?_
  rintro I hI n st ⟨i, hi, rfl, hva⟩
  simp -implicitDefEqProofs only [go_sem, qeaV, declsV, quantsV, freesV, statesV, symsV, nodesV, transsV, List.length_map]
  refine ⟨fun hlt => ?_, fun hge => ?_⟩
  · have hlt' : i < q.trans.length := by omega
    obtain ⟨t, ht, _⟩ := at_some hlt'
    have hw := wrap_succ hlt' (by omega)
    rw [dropC_at ht, List.all_cons] at hva
    obtain ⟨t1, t2, t3, t4, t5⟩ := t
    simp only at hva
    by_cases hg : t4 = -1
    · have hge' : (t4 != -1) = false := by simp [hg]
      have hge2 : (t4 == -1) = true := by simp [hg]
      rw [hge2, Bool.true_and] at hva
      repeat' (first | (simp -implicitDefEqProofs only [go_sem, qeaV, declsV, quantsV, freesV, statesV, symsV, nodesV, transsV, aiaddr_map ht, transV, setsV, hw, hge']) | refine at_guard (fun hb => ?_) (fun hb => ?_) | refine ⟨fun hb => ?_, fun hb => ?_⟩ | fail)
      exact at_again (n - 1) (by omega) (hI _ _ ⟨i + 1, by omega, by simp [qeaV, declsV, quantsV, freesV, statesV, symsV, nodesV, transsV], hva⟩)
    · have hge' : (t4 != -1) = true := by simp [hg]
      have hge2 : (t4 == -1) = false := by simp [hg]
      rw [hge2, Bool.false_and, Bool.false_and] at hva
      subst hva
      repeat' (first | (simp -implicitDefEqProofs only [go_sem, qeaV, declsV, quantsV, freesV, statesV, symsV, nodesV, transsV, aiaddr_map ht, transV, setsV, hw, hge']) | refine at_guard (fun hb => ?_) (fun hb => ?_) | refine ⟨fun hb => ?_, fun hb => ?_⟩ | fail)
      exact h _ ⟨_, _, rfl, rfl, .refl _⟩
  · rw [List.drop_eq_nil_of_le (by omega)] at hva
    simp only [List.all_nil, Bool.true_and] at hva
    have e : ((q.frees.length : Int) == 0) = v := by
      rw [← hva, Bool.eq_iff_iff]
      simp
    repeat' (first | (simp -implicitDefEqProofs only [go_sem, qeaV, declsV, quantsV, freesV, statesV, symsV, nodesV, transsV, List.length_map, e]) | refine at_guard (fun hb => ?_) (fun hb => ?_) | refine ⟨fun hb => ?_, fun hb => ?_⟩ | fail)
    exact h _ ⟨_, _, rfl, rfl, .refl _⟩
theorem mod_or (m i : Nat) : m % 2 ^ (i + 1) = (m % 2 ^ i) ||| (m &&& 2 ^ i) := by
  apply Nat.eq_of_testBit_eq
  intro j
  rw [Nat.testBit_or, Nat.testBit_and, Nat.testBit_mod_two_pow, Nat.testBit_mod_two_pow, Nat.testBit_two_pow]
  cases hm : m.testBit j
  · simp
  · simp only [Bool.and_true, Bool.true_and]
    rw [Bool.eq_iff_iff, Bool.or_eq_true, decide_eq_true_eq, decide_eq_true_eq, decide_eq_true_eq]
    omega
def pairV (p : Nat × Nat) : AV := .agg [.int .u32 (p.1 : Int), .int .u64 (p.2 : Int)]
def ownN (q : QeaT) (p : Nat × Nat) : Nat × Nat := (p.1 % 2 ^ q.states.length, p.2 % 2 ^ q.symbols.length)
theorem ref28_Own_pc (q : QeaT) (hs : q.states.length ≤ 12) (hk : q.symbols.length ≤ 12) (p : Nat × Nat) (h1 : p.1 < 4294967296) (h2 : p.2 < 18446744073709551616) : PureC Tryz.prog G n_proctorref28_Own [qeaV q, pairV p] (pairV (ownN q p)) := by
  obtain ⟨m, k⟩ := p
  simp only at h1 h2
  refine pc_proctorref28_Own (Runs.of fun Φ h => ?_)
  unfold c_proctorref28_Own
  unfold pairV ownN at h
  simp only at h
  simp -implicitDefEqProofs only [go_sem, qeaV, declsV, quantsV, freesV, statesV, symsV, nodesV, transsV, pairV]
  refine at_loop (fun n st => ∃ i b : Nat, i + n = q.states.length ∧ b = m % 2 ^ i ∧ st = ⟨42, [(2, .ref 2 0 0), (3, .ref 3 0 0), (4, .ref 4 0 0), (5, .int .u32 (b : Int)), (6, iv i)], [(2, ⟨false, t_api_Qea, 9, [qeaV q]⟩), (3, ⟨false, t_proctorref28_Pair, 2, [pairV (m, k)]⟩), (4, ⟨false, t_proctorref28_Pair, 2, [.agg [.int .u32 0, .int .u64 0]]⟩)]⟩) q.states.length ⟨0, 0, by simp, by simp [Nat.mod_one], by simp [qeaV, declsV, quantsV, freesV, statesV, symsV, nodesV, transsV, pairV]; rfl⟩ ?_
  rintro I hI n st ⟨i, b, hi, hb, rfl⟩
  simp -implicitDefEqProofs only [go_sem, qeaV, declsV, quantsV, freesV, statesV, symsV, nodesV, transsV, pairV, List.length_map]
  refine ⟨fun hlt => ?_, fun hge => ?_⟩
  · have hlt' : i < q.states.length := by omega
    have hw := wrap_succ hlt' (by omega)
    have g1 := shl32 (s := i) (by omega)
    have g2 := u64_nat (m := i) (by omega)
    have g3 := band32 h1 (pow32 (s := i) (by omega))
    have g4 := bor32 (a := b) (b := m &&& 2 ^ i) (by rw [hb]; exact Nat.lt_of_le_of_lt (Nat.mod_le _ _) h1) (Nat.lt_of_le_of_lt Nat.and_le_left h1)
    have hnx := mod_or m i
    rw [← hb] at hnx
    clear hb h
    generalize hmi : m % 2 ^ (i + 1) = mi' at *
    generalize m &&& 2 ^ i = ma at *
    generalize 2 ^ i = p at *
    rw [← hnx] at g4
    repeat' (first | (simp -implicitDefEqProofs only [go_sem, qeaV, declsV, quantsV, freesV, statesV, symsV, nodesV, transsV, pairV, hw, g1, g2, g3, g4]) | refine at_guard (fun hb => ?_) (fun hb => ?_) | refine ⟨fun hb => ?_, fun hb => ?_⟩ | fail)
    exact at_again (n - 1) (by omega) (hI _ _ ⟨i + 1, mi', by omega, hmi.symm, by simp [qeaV, declsV, quantsV, freesV, statesV, symsV, nodesV, transsV, pairV]⟩)
  · have hi' : i = q.states.length := by omega
    subst hi'
    rw [← hb] at h
    clear hI I hge hi
    repeat' (first | (simp -implicitDefEqProofs only [go_sem, qeaV, declsV, quantsV, freesV, statesV, symsV, nodesV, transsV, pairV]) | refine at_guard (fun hb => ?_) (fun hb => ?_) | refine ⟨fun hb => ?_, fun hb => ?_⟩ | fail)
    refine at_loop (fun n st => ∃ i c : Nat, i + n = q.symbols.length ∧ c = k % 2 ^ i ∧ st = ⟨42, [(2, .ref 2 0 0), (3, .ref 3 0 0), (4, .ref 4 0 0), (5, .int .u32 (b : Int)), (7, .int .u64 (c : Int)), (8, iv i)], [(2, ⟨false, t_api_Qea, 9, [qeaV q]⟩), (3, ⟨false, t_proctorref28_Pair, 2, [pairV (m, k)]⟩), (4, ⟨false, t_proctorref28_Pair, 2, [.agg [.int .u32 0, .int .u64 0]]⟩)]⟩) q.symbols.length ⟨0, 0, by simp, by simp [Nat.mod_one], by simp [qeaV, declsV, quantsV, freesV, statesV, symsV, nodesV, transsV, pairV]; rfl⟩ ?_
    rintro I hI n st ⟨i, c, hi, hc, rfl⟩
    simp -implicitDefEqProofs only [go_sem, qeaV, declsV, quantsV, freesV, statesV, symsV, nodesV, transsV, pairV, List.length_map]
    refine ⟨fun hlt => ?_, fun hge => ?_⟩
    · have hlt' : i < q.symbols.length := by omega
      have hw := wrap_succ hlt' (by omega)
      have g1 := shl64 (s := i) (by omega)
      have g2 := u64_nat (m := i) (by omega)
      have g3 := band64 h2 (pow64 (s := i) (by omega))
      have g4 := bor64 (a := c) (b := k &&& 2 ^ i) (by rw [hc]; exact Nat.lt_of_le_of_lt (Nat.mod_le _ _) h2) (Nat.lt_of_le_of_lt Nat.and_le_left h2)
      have hnx := mod_or k i
      rw [← hc] at hnx
      clear hc h
      generalize hmi : k % 2 ^ (i + 1) = mi' at *
      generalize k &&& 2 ^ i = ma at *
      generalize 2 ^ i = p at *
      rw [← hnx] at g4
      repeat' (first | (simp -implicitDefEqProofs only [go_sem, qeaV, declsV, quantsV, freesV, statesV, symsV, nodesV, transsV, pairV, hw, g1, g2, g3, g4]) | refine at_guard (fun hb => ?_) (fun hb => ?_) | refine ⟨fun hb => ?_, fun hb => ?_⟩ | fail)
      exact at_again (n - 1) (by omega) (hI _ _ ⟨i + 1, mi', by omega, hmi.symm, by simp [qeaV, declsV, quantsV, freesV, statesV, symsV, nodesV, transsV, pairV]⟩)
    · have hi' : i = q.symbols.length := by omega
      subst hi'
      rw [← hc] at h
      repeat' (first | (simp -implicitDefEqProofs only [go_sem, qeaV, declsV, quantsV, freesV, statesV, symsV, nodesV, transsV, pairV]) | refine at_guard (fun hb => ?_) (fun hb => ?_) | refine ⟨fun hb => ?_, fun hb => ?_⟩ | fail)
      exact h _ ⟨_, _, rfl, rfl, .refl _⟩
theorem ref28_Has_pc (l : List (Nat × Nat)) (p : Nat × Nat) (hl : l.length ≤ 1000000) : PureC Tryz.prog G n_proctorref28_Has [.seq 2 (l.map pairV), pairV p] (.bool (l.any fun x => decide (x = p))) := by
  refine pc_proctorref28_Has (Runs.of fun Φ h => ?_)
  unfold c_proctorref28_Has
  generalize hv : (l.any fun x => decide (x = p)) = v at *
  obtain ⟨m, k⟩ := p
  simp -implicitDefEqProofs only [go_sem, pairV]
  refine at_loop (fun n st => ∃ i : Nat, i + n = l.length ∧ st = ⟨18, [(0, .seq 2 (l.map pairV)), (3, .ref 3 0 0), (5, iv i)], [(3, ⟨false, t_proctorref28_Pair, 2, [pairV (m, k)]⟩)]⟩ ∧ (l.drop i).any (fun x => decide (x = (m, k))) = v) l.length ⟨0, by simp, by rfl, hv⟩ ?_
  rintro I hI n st ⟨i, hi, rfl, hva⟩
  simp -implicitDefEqProofs only [go_sem, pairV, List.length_map]
  refine ⟨fun hlt => ?_, fun hge => ?_⟩
  · have hlt' : i < l.length := by omega
    obtain ⟨x, hx, _⟩ := at_some hlt'
    have hw := wrap_succ hlt' (by omega)
    rw [dropC_at hx, List.any_cons] at hva
    obtain ⟨a, b⟩ := x
    have e1 : ((a : Int) == (m : Int)) = decide (a = m) := by rw [Bool.eq_iff_iff, beq_iff_eq, decide_eq_true_eq]; omega
    have e2 : ((b : Int) == (k : Int)) = decide (b = k) := by rw [Bool.eq_iff_iff, beq_iff_eq, decide_eq_true_eq]; omega
    have e3 : decide ((a, b) = (m, k)) = (decide (a = m) && decide (b = k)) := by rw [Bool.eq_iff_iff]; simp
    rw [e3] at hva
    generalize decide (a = m) = z1 at *
    generalize decide (b = k) = z2 at *
    cases z1 <;> cases z2 <;> simp only [Bool.and_self, Bool.and_false, Bool.and_true, Bool.false_or, Bool.true_or, Bool.false_and, Bool.true_and] at hva
    · repeat' (first | (simp -implicitDefEqProofs only [go_sem, pairV, aiaddr_map hx, hw, e1, e2]) | refine at_guard (fun hb => ?_) (fun hb => ?_) | refine ⟨fun hb => ?_, fun hb => ?_⟩ | fail)
      exact at_again (n - 1) (by omega) (hI _ _ ⟨i + 1, by omega, rfl, hva⟩)
    · repeat' (first | (simp -implicitDefEqProofs only [go_sem, pairV, aiaddr_map hx, hw, e1, e2]) | refine at_guard (fun hb => ?_) (fun hb => ?_) | refine ⟨fun hb => ?_, fun hb => ?_⟩ | fail)
      exact at_again (n - 1) (by omega) (hI _ _ ⟨i + 1, by omega, rfl, hva⟩)
    · repeat' (first | (simp -implicitDefEqProofs only [go_sem, pairV, aiaddr_map hx, hw, e1, e2]) | refine at_guard (fun hb => ?_) (fun hb => ?_) | refine ⟨fun hb => ?_, fun hb => ?_⟩ | fail)
      exact at_again (n - 1) (by omega) (hI _ _ ⟨i + 1, by omega, rfl, hva⟩)
    · subst hva
      repeat' (first | (simp -implicitDefEqProofs only [go_sem, pairV, aiaddr_map hx, hw, e1, e2]) | refine at_guard (fun hb => ?_) (fun hb => ?_) | refine ⟨fun hb => ?_, fun hb => ?_⟩ | fail)
      exact h _ ⟨_, _, rfl, rfl, .refl _⟩
  · rw [List.drop_eq_nil_of_le (by omega)] at hva
    simp only [List.any_nil] at hva
    subst hva
    repeat' (first | (simp -implicitDefEqProofs only [go_sem]) | refine at_guard (fun hb => ?_) (fun hb => ?_) | refine ⟨fun hb => ?_, fun hb => ?_⟩ | fail)
    exact h _ ⟨_, _, rfl, rfl, .refl _⟩
end Go.Proofs.YtjbcfpkibnhodaaGreatDoor.Ab
