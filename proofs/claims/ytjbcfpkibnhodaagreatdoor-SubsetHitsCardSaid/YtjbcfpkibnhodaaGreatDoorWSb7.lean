/-
  proctorref22.Next, proctorref23.Accepts, proctorref28: sets of states, the reference's. proctorref28: whether an automaton is plain; those states and symbols of a pair that it has; sets of states as configurations. subset: an automaton of sets of states: what is asked of it and leaves it as it is. Sets of states as configurations, two ways. subset: the configurations of a set of states: new memory alone. subset.New: a new automaton of sets of states, and its map. No claim is proved here.
-/
import Derived.Test.YtjbcfpkibnhodaaGreatDoorWSb1
namespace Go.Proofs.YtjbcfpkibnhodaaGreatDoor.Ab
open Go Go.RowKit
set_option linter.unusedSimpArgs false
set_option maxHeartbeats 4000000
set_option maxRecDepth 100000
variable {G : Nat → Option AV}
def accGo (m : Nat) : List StateT → Nat → Bool
  | [], _ => false
  | x :: l, i => (m.testBit i && x.accept) || accGo m l (i + 1)
def accN (q : QeaT) (m : Nat) : Bool := accGo m q.states 0
end Go.Proofs.YtjbcfpkibnhodaaGreatDoor.Ab
namespace Go.Proofs.YtjbcfpkibnhodaaGreatDoor.Ab
open Go Go.RowKit
set_option linter.unusedSimpArgs false
set_option maxHeartbeats 4000000
set_option maxRecDepth 100000
variable {G : Nat → Option AV}
theorem ref28_Plain_pc (q : QeaT) (hl : q.trans.length ≤ 1000000) (_hf : q.frees.length ≤ 1000000) : P_ Tryz.prog G n_proctorref28_Plain [qeaV q] (.bool (q.trans.all (fun t => t.guard == -1) && decide (q.frees.length = 0))) := by
  refine pc_proctorref28_Plain (Runs.of fun Φ h => ?_)
  unfold c_proctorref28_Plain
  generalize hv : (q.trans.all (fun t => t.guard == -1) && decide (q.frees.length = 0)) = v at *
  simp -implicitDefEqProofs only [go_sem, qeaV, d_, q_, f_, s_, s10, n_, t_]
  refine al_ (fun n st => ∃ i : Nat, i + n = q.trans.length ∧ st = ⟨22, [(1, .ref 1 0 0), (3, iv i)], [(1, ⟨false, taQ_, 9, [qeaV q]⟩)]⟩ ∧ ((q.trans.drop i).all (fun t => t.guard == -1) && decide (q.frees.length = 0)) = v) q.trans.length ⟨0, by simp, by simp [qeaV, d_, q_, f_, s_, s10, n_, t_]; rfl, hv⟩ ?_
  rintro I hI n st ⟨i, hi, rfl, hva⟩
  simp -implicitDefEqProofs only [go_sem, qeaV, d_, q_, f_, s_, s10, n_, t_, List.length_map]
  refine ⟨fun hlt => ?_, fun hge => ?_⟩
  · have hlt' : i < q.trans.length := by omega
    obtain ⟨t, ht, _⟩ := as10 hlt'
    have hw := ws_ hlt' (by omega)
    rw [dropC_at ht, List.all_cons] at hva
    obtain ⟨t1, t2, t3, t4, t5⟩ := t
    simp only at hva
    by_cases hg : t4 = -1
    · have hge' : (t4 != -1) = false := by simp [hg]
      have hge2 : (t4 == -1) = true := by simp [hg]
      rw [hge2, Bool.true_and] at hva
      repeat' (first | (simp -implicitDefEqProofs only [go_sem, qeaV, d_, q_, f_, s_, s10, n_, t_, am_ ht, t11, setsV, hw, hge']) | refine ag_ (fun hb => ?_) (fun hb => ?_) | refine ⟨fun hb => ?_, fun hb => ?_⟩ | fail)
      exact aa_ (n - 1) (by omega) (hI _ _ ⟨i + 1, by omega, by simp [qeaV, d_, q_, f_, s_, s10, n_, t_], hva⟩)
    · have hge' : (t4 != -1) = true := by simp [hg]
      have hge2 : (t4 == -1) = false := by simp [hg]
      rw [hge2, Bool.false_and, Bool.false_and] at hva
      subst hva
      repeat' (first | (simp -implicitDefEqProofs only [go_sem, qeaV, d_, q_, f_, s_, s10, n_, t_, am_ ht, t11, setsV, hw, hge']) | refine ag_ (fun hb => ?_) (fun hb => ?_) | refine ⟨fun hb => ?_, fun hb => ?_⟩ | fail)
      exact h _ ⟨_, _, rfl, rfl, .refl _⟩
  · rw [List.drop_eq_nil_of_le (by omega)] at hva
    simp only [List.all_nil, Bool.true_and] at hva
    have e : ((q.frees.length : Int) == 0) = v := by
      rw [← hva, Bool.eq_iff_iff]
      simp
    repeat' (first | (simp -implicitDefEqProofs only [go_sem, qeaV, d_, q_, f_, s_, s10, n_, t_, List.length_map, e]) | refine ag_ (fun hb => ?_) (fun hb => ?_) | refine ⟨fun hb => ?_, fun hb => ?_⟩ | fail)
    exact h _ ⟨_, _, rfl, rfl, .refl _⟩
def pairV (p : Nat × Nat) : AV := .agg [.int .u32 (p.1 : Int), .int .u64 (p.2 : Int)]
def ownN (q : QeaT) (p : Nat × Nat) : Nat × Nat := (p.1 % 2 ^ q.states.length, p.2 % 2 ^ q.symbols.length)
end Go.Proofs.YtjbcfpkibnhodaaGreatDoor.Ab
namespace Go.Proofs.YtjbcfpkibnhodaaGreatDoor.Ab
open Go Go.RowKit
set_option linter.unusedSimpArgs false
set_option maxHeartbeats 4000000
set_option maxRecDepth 100000
variable {G : Nat → Option AV}
def autoE (q : QeaT) (x : AV) : AV := .agg [.str q.name, .seq 2 (q.decls.map declV), .seq 3 (q.quants.map quantV), .seq 5 (q.frees.map freeV), .seq 3 (q.states.map stateV), iv q.start, .seq 2 (q.symbols.map symV), .seq 7 (q.nodes.map nodeV), .seq 5 (q.trans.map t11), x, .int .u32 ((2 ^ q.states.length - 1 : Nat) : Int), .int .u64 ((2 ^ q.symbols.length - 1 : Nat) : Int)]
def entV (e : (Nat × Nat) × Nat) : AV := .tup [pairV e.1, .int .u32 (e.2 : Int)]
def knownV (K : List ((Nat × Nat) × Nat)) : AV := .mapc (K.map entV)
theorem Auto_Start_pc (q : QeaT) (x : AV) (h0 : 0 ≤ q.start) (h1 : q.start < 32) : P_ Tryz.prog G n_subset_Auto_Start [.eptr (autoE q x) 0] (.int .u32 ((2 ^ q.start.toNat : Nat) : Int)) := by
  refine pc_subset_Auto_Start (Runs.of fun Φ h => ?_)
  unfold c_subset_Auto_Start
  generalize hs : q.start.toNat = s at *
  have e : q.start = (s : Int) := by omega
  have g1 := shl32 (s := s) (by omega)
  have g2 := u64_nat (m := s) (by omega)
  generalize 2 ^ s = p at *
  repeat' (first | (simp -implicitDefEqProofs only [go_sem, autoE, e, g1, g2]) | refine ag_ (fun hb => ?_) (fun hb => ?_) | refine ⟨fun hb => ?_, fun hb => ?_⟩ | fail)
  exact h _ ⟨_, _, rfl, rfl, .refl _⟩
theorem Auto_Known_pc (q : QeaT) (K : List ((Nat × Nat) × Nat)) : P_ Tryz.prog G n_subset_Auto_Known [.eptr (autoE q (knownV K)) 0] (iv K.length) := by
  refine pc_subset_Auto_Known (Runs.of fun Φ h => ?_)
  unfold c_subset_Auto_Known
  repeat' (first | (simp -implicitDefEqProofs only [go_sem, autoE, knownV, List.length_map]) | refine ag_ (fun hb => ?_) (fun hb => ?_) | refine ⟨fun hb => ?_, fun hb => ?_⟩ | fail)
  exact h _ ⟨_, _, rfl, rfl, .refl _⟩
theorem Auto_Accepts_pc (q : QeaT) (x : AV) (hsl : q.states.length ≤ 12) (m : Nat) (hm : m < 4294967296) : P_ Tryz.prog G n_subset_Auto_Accepts [.eptr (autoE q x) 0, .int .u32 (m : Int)] (.bool (accN q m)) := by
  refine pc_subset_Auto_Accepts (Runs.of fun Φ h => ?_)
  unfold c_subset_Auto_Accepts
  generalize hv : accN q m = v at *
  unfold accN at hv
  simp -implicitDefEqProofs only [go_sem, autoE, List.length_map]
  refine al_ (fun n st => ∃ i : Nat, i + n = q.states.length ∧ st = ⟨31, [(1, .int .u32 (m : Int)), (13, .seq 3 (q.states.map stateV)), (14, iv q.states.length), (15, iv i)], []⟩ ∧ accGo m (q.states.drop i) i = v) q.states.length ⟨0, by simp, by simp; rfl, hv⟩ ?_
  rintro I hI n st ⟨i, hi, rfl, hva⟩
  simp -implicitDefEqProofs only [go_sem, List.length_map]
  refine ⟨fun hlt => ?_, fun hge => ?_⟩
  · have hlt' : i < q.states.length := by omega
    obtain ⟨y, hy, _⟩ := as10 hlt'
    have hw := ws_ hlt' (by omega)
    rw [dropC_at hy, accGo] at hva
    have hs1 := shl32 (s := i) (by omega)
    have hs3 := u64_nat (m := i) (by omega)
    have hpp : 0 < 2 ^ i := Nat.two_pow_pos i
    obtain ⟨yn, y1, y2⟩ := y
    cases y2 with
    | false =>
      simp only [Bool.and_false, Bool.false_or] at hva
      repeat' (first | (simp -implicitDefEqProofs only [go_sem, am_ hy, stateV, hw]) | refine ag_ (fun hb => ?_) (fun hb => ?_) | refine ⟨fun hb => ?_, fun hb => ?_⟩ | fail)
      exact aa_ (n - 1) (by omega) (hI _ _ ⟨i + 1, by omega, rfl, hva⟩)
    | true =>
      simp only [Bool.and_true] at hva
      cases hβ : m.testBit i with
      | false =>
        have hb := (bitF hβ).a32 hm (by omega)
        simp only [hβ, Bool.false_eq_true, if_false, Bool.false_or] at hva hb
        generalize 2 ^ i = p at *
        repeat' (first | (simp -implicitDefEqProofs only [go_sem, am_ hy, stateV, hw, hs1, hs3, hb]) | refine ag_ (fun hb => ?_) (fun hb => ?_) | refine ⟨fun hb => ?_, fun hb => ?_⟩ | fail)
        exact aa_ (n - 1) (by omega) (hI _ _ ⟨i + 1, by omega, rfl, hva⟩)
      | true =>
        have hb := (bitF hβ).a32 hm (by omega)
        simp only [hβ, if_true, Bool.true_or] at hva hb
        subst hva
        generalize 2 ^ i = p at *
        have hne : ((p : Int) != 0) = true := by simp; omega
        repeat' (first | (simp -implicitDefEqProofs only [go_sem, am_ hy, stateV, hw, hs1, hs3, hb, hne]) | refine ag_ (fun hb => ?_) (fun hb => ?_) | refine ⟨fun hb => ?_, fun hb => ?_⟩ | fail)
        exact h _ ⟨_, _, rfl, rfl, .refl _⟩
  · rw [List.drop_eq_nil_of_le (by omega), accGo] at hva
    subst hva
    repeat' (first | (simp -implicitDefEqProofs only [go_sem]) | refine ag_ (fun hb => ?_) (fun hb => ?_) | refine ⟨fun hb => ?_, fun hb => ?_⟩ | fail)
    exact h _ ⟨_, _, rfl, rfl, .refl _⟩
end Go.Proofs.YtjbcfpkibnhodaaGreatDoor.Ab
namespace Go.Proofs.YtjbcfpkibnhodaaGreatDoor.Ab
open Go Go.RowKit
set_option linter.unusedSimpArgs false
set_option maxHeartbeats 4000000
set_option maxRecDepth 100000
variable {G : Nat → Option AV}
def cfgN (i : Nat) : AV := .agg [iv i, .nils]
def cfgC (i : Nat) : CfgT := ⟨(i : Int), []⟩
def setN (n m : Nat) : List Nat := (List.range n).filter fun i => m.testBit i
theorem setN_succ (n m : Nat) : setN (n + 1) m = setN n m ++ (if m.testBit n = true then [n] else []) := by
  unfold setN
  rw [List.range_succ, List.filter_append]
  cases h : m.testBit n <;> simp [h]
theorem setN_len (n m : Nat) : (setN n m).length ≤ n := by
  unfold setN
  have := List.length_filter_le (fun i => m.testBit i) (List.range n)
  rw [List.length_range] at this
  exact this
theorem ref28_Set_pc (q : QeaT) (hsl : q.states.length ≤ 12) (m : Nat) : P_ Tryz.prog G n_proctorref28_Set [qeaV q, .int .u32 (m : Int)] (.seq 2 ((setN q.states.length m).map cfgN)) := by
  refine pc_proctorref28_Set (Runs.of fun Φ h => ?_)
  unfold c_proctorref28_Set
  simp -implicitDefEqProofs only [go_sem, qeaV, d_, q_, f_, s_, s10, n_, t_]
  refine al_ (fun n st => ∃ (i : Nat) (l : List Nat), i + n = q.states.length ∧ l = setN i m ∧ st = ⟨26, [(1, .int .u32 (m : Int)), (2, .ref 2 0 0), (5, .arr 5 0 l.length), (6, iv i)], [(2, ⟨false, taQ_, 9, [qeaV q]⟩), (4, ⟨true, taC_, 2, []⟩), (5, ⟨true, taC_, 2, l.map cfgN⟩)]⟩) q.states.length ⟨0, [], by simp, by simp [setN], by simp [qeaV, d_, q_, f_, s_, s10, n_, t_]; rfl⟩ ?_
  rintro I hI n st ⟨i, l, hi, hl, rfl⟩
  have hll : l.length ≤ 12 := by rw [hl]; have := setN_len i m; omega
  simp -implicitDefEqProofs only [go_sem, qeaV, d_, q_, f_, s_, s10, n_, t_, List.length_map]
  refine ⟨fun hlt => ?_, fun hge => ?_⟩
  · have hlt' : i < q.states.length := by omega
    have hw := ws_ hlt' (by omega)
    have hs2 := shr32 (a := m) (s := i) (by omega)
    have hs3 := u64_nat (m := i) (by omega)
    have hnx := setN_succ i m
    rw [← hl] at hnx
    have hb1 : (l.length + 1) * 32 ≤ 140737488355328 := by omega
    cases hβ : m.testBit i with
    | false =>
      have hb := (bitF hβ).r32
      simp only [hβ, Bool.false_eq_true, if_false, List.append_nil] at hnx hb
      generalize m / 2 ^ i = mp at *
      repeat' (first | (simp -implicitDefEqProofs only [go_sem, qeaV, d_, q_, f_, s_, s10, n_, t_, hw, hs2, hs3, hb, List.length_map]) | refine ag_ (fun hb => ?_) (fun hb => ?_) | refine ⟨fun hb => ?_, fun hb => ?_⟩ | fail)
      exact aa_ (n - 1) (by omega) (hI _ _ ⟨i + 1, l, by omega, hnx.symm, by simp [qeaV, d_, q_, f_, s_, s10, n_, t_]⟩)
    | true =>
      have hb := (bitF hβ).r32
      simp only [hβ, if_true] at hnx hb
      generalize m / 2 ^ i = mp at *
      repeat' (first | (simp -implicitDefEqProofs only [go_sem, qeaV, d_, q_, f_, s_, s10, n_, t_, hw, hs2, hs3, hb, hb1, List.length_map, List.length_append, cfgN]) | refine ag_ (fun hb => ?_) (fun hb => ?_) | refine ⟨fun hb => ?_, fun hb => ?_⟩ | fail)
      refine aa_ (n - 1) (by omega) (hI _ _ ⟨i + 1, l ++ [i], by omega, hnx.symm, ?_⟩)
      simp [qeaV, d_, q_, f_, s_, s10, n_, t_, cfgN]
  · have hi' : i = q.states.length := by omega
    subst hi'
    subst hl
    repeat' (first | (simp -implicitDefEqProofs only [go_sem, List.length_map]) | refine ag_ (fun hb => ?_) (fun hb => ?_) | refine ⟨fun hb => ?_, fun hb => ?_⟩ | fail)
    exact h _ ⟨_, _, rfl, view_map (sz := 2) (ty := taC_) (by decide) (by simp [hget]) rfl, .refl _⟩
end Go.Proofs.YtjbcfpkibnhodaaGreatDoor.Ab
namespace Go.Proofs.YtjbcfpkibnhodaaGreatDoor.Ab
open Go Go.RowKit
set_option linter.unusedSimpArgs false
set_option maxHeartbeats 4000000
set_option maxRecDepth 100000
variable {G : Nat → Option AV}
theorem Auto_Set_pn (q : QeaT) (x : AV) (hsl : q.states.length ≤ 12) (m : Nat) (hm : m < 4294967296) : PureN Tryz.prog G n_subset_Auto_Set [.eptr (autoE q x) 0, .int .u32 (m : Int)] (.seq 2 ((setN q.states.length m).map cfgN)) := by
  refine PureN.of_runs (fn := Tryz.f32) (A := c_subset_Auto_Set) Tryz.func32 k_subset_Auto_Set rfl (RunsN.of fun Φ h => ?_)
  unfold c_subset_Auto_Set
  simp -implicitDefEqProofs only [go_sem, autoE, List.length_map]
  refine al_ (fun n st => ∃ (i : Nat) (l : List Nat), i + n = q.states.length ∧ l = setN i m ∧ st = ⟨31, [(1, .int .u32 (m : Int)), (5, .arr 5 0 l.length), (14, iv q.states.length), (15, iv i)], [(4, ⟨true, taC_, 2, []⟩), (5, ⟨true, taC_, 2, l.map cfgN⟩)]⟩) q.states.length ⟨0, [], by simp, by simp [setN], by simp; rfl⟩ ?_
  rintro I hI n st ⟨i, l, hi, hl, rfl⟩
  have hll : l.length ≤ 12 := by rw [hl]; have := setN_len i m; omega
  simp -implicitDefEqProofs only [go_sem, List.length_map]
  refine ⟨fun hlt => ?_, fun hge => ?_⟩
  · have hlt' : i < q.states.length := by omega
    have hw := ws_ hlt' (by omega)
    have hs1 := shl32 (s := i) (by omega)
    have hs3 := u64_nat (m := i) (by omega)
    have hpp : 0 < 2 ^ i := Nat.two_pow_pos i
    have hnx := setN_succ i m
    rw [← hl] at hnx
    have hb1 : (l.length + 1) * 32 ≤ 140737488355328 := by omega
    cases hβ : m.testBit i with
    | false =>
      have hb := (bitF hβ).a32 hm (by omega)
      simp only [hβ, Bool.false_eq_true, if_false, List.append_nil] at hnx hb
      generalize 2 ^ i = p at *
      repeat' (first | (simp -implicitDefEqProofs only [go_sem, hw, hs1, hs3, hb, List.length_map]) | refine ag_ (fun hb => ?_) (fun hb => ?_) | refine ⟨fun hb => ?_, fun hb => ?_⟩ | fail)
      exact aa_ (n - 1) (by omega) (hI _ _ ⟨i + 1, l, by omega, hnx.symm, rfl⟩)
    | true =>
      have hb := (bitF hβ).a32 hm (by omega)
      simp only [hβ, if_true] at hnx hb
      generalize 2 ^ i = p at *
      have hne : ((p : Int) != 0) = true := by simp; omega
      repeat' (first | (simp -implicitDefEqProofs only [go_sem, hw, hs1, hs3, hb, hne, hb1, List.length_map, List.length_append, cfgN]) | refine ag_ (fun hb => ?_) (fun hb => ?_) | refine ⟨fun hb => ?_, fun hb => ?_⟩ | fail)
      refine aa_ (n - 1) (by omega) (hI _ _ ⟨i + 1, l ++ [i], by omega, hnx.symm, ?_⟩)
      simp [cfgN]
  · have hi' : i = q.states.length := by omega
    subst hi'
    subst hl
    repeat' (first | (simp -implicitDefEqProofs only [go_sem, List.length_map]) | refine ag_ (fun hb => ?_) (fun hb => ?_) | refine ⟨fun hb => ?_, fun hb => ?_⟩ | fail)
    refine h _ ⟨5, _, ⟨true, taC_, 2, (setN q.states.length m).map cfgN⟩, rfl, by simp [hget], rfl, Nat.succ_pos 1, by simp, fun e he => ?_, ?_⟩
    · obtain ⟨i, _, rfl⟩ := List.mem_map.1 he
      rfl
    · simp only
      rw [List.take_of_length_le (by simp)]
end Go.Proofs.YtjbcfpkibnhodaaGreatDoor.Ab
namespace Go.Proofs.YtjbcfpkibnhodaaGreatDoor.Ab
open Go Go.RowKit
set_option linter.unusedSimpArgs false
set_option maxHeartbeats 4000000
set_option maxRecDepth 100000
variable {G : Nat → Option AV}
def autoBox (q : QeaT) (j : Nat) : Box := ⟨false, t_subset_Auto, 12, [autoE q (.mapv j)]⟩
def mapBox (K : List ((Nat × Nat) × Nat)) : Box := ⟨true, 1, 0, K.map entV⟩
theorem wrap32_pred {p : Nat} (h0 : 0 < p) (h : p < 4294967296) : IntKind.u32.wrap ((p : Int) - 1) = ((p - 1 : Nat) : Int) := by
  simp [IntKind.wrap, IntKind.bits, IntKind.signed]
  omega
theorem wrap64_pred {p : Nat} (h0 : 0 < p) (h : p < 18446744073709551616) : IntKind.u64.wrap ((p : Int) - 1) = ((p - 1 : Nat) : Int) := by
  simp [IntKind.wrap, IntKind.bits, IntKind.signed]
  omega
theorem New_hc (hG : wg_ G) (q : QeaT) (hq : q.Few) (hs : q.states.length < 32) (hk : q.symbols.length < 64) (hn : (rightC q && plainS q) = true) :
    HeapC Tryz.prog G n_subset_New [qeaV q] [] (.ref 27 0 0) [(27, autoBox q 12), (12, mapBox [])] := by
  rw [Bool.and_eq_true] at hn
  have h1 := core_Right_pc hG q hq
  have h2 := core_Plain_pc (G := G) q (by have := hq.trans; omega)
  rw [hn.1] at h1
  rw [hn.2] at h2
  have g1 := shl32 (s := q.states.length) hs
  have g2 := u64_nat (m := q.states.length) (by omega)
  have g3 := wrap32_pred (Nat.two_pow_pos q.states.length) (pow32 hs)
  have g4 := shl64 (s := q.symbols.length) hk
  have g5 := u64_nat (m := q.symbols.length) (by omega)
  have g6 := wrap64_pred (Nat.two_pow_pos q.symbols.length) (pow64 hk)
  refine hc_subset_New (RunsH.of fun Φ h => ?_)
  unfold c_subset_New
  have fin : ∀ heap, subH heap [(27, autoBox q 12), (12, mapBox [])] → Φ ⟨28, [(2, .ref 27 0 0)], heap⟩ := fun heap e => h _ ⟨_, _, Weak.refl _, rfl, .refl _, e.at⟩
  clear h
  unfold autoBox autoE mapBox at fin
  generalize 2 ^ q.states.length = p at *
  generalize 2 ^ q.symbols.length = r at *
  simp only [qeaV, d_, q_, f_, s_, s10, n_, t_] at h1 h2
  repeat' (first | (simp -implicitDefEqProofs only [go_sem, qeaV, d_, q_, f_, s_, s10, n_, t_, List.length_map, g1, g2, g3, g4, g5, g6]) | refine ag_ (fun hb => ?_) (fun hb => ?_) | refine ⟨fun hb => ?_, fun hb => ?_⟩ | refine ac_ (h1) rfl rfl ?_ | refine ac_ (h2) rfl rfl ?_ | fail)
  exact fin _ ⟨rfl, rfl, trivial⟩
end Go.Proofs.YtjbcfpkibnhodaaGreatDoor.Ab
