/-
  config.Start, States, Text and the reference's, proctorref04.Keys. No claim is proved here.
-/
import Derived.Test.YtjbcfpkibnhodaaGreatDoorYOd1
import Derived.Test.YtjbcfpkibnhodaaGreatDoorYT8
import Derived.Test.YtjbcfpkibnhodaaGreatDoorYPa1
import Derived.Test.YtjbcfpkibnhodaaGreatDoorYT7
namespace Go.Proofs.YtjbcfpkibnhodaaGreatDoor.Ab
open Go Go.RowKit
set_option linter.unusedSimpArgs false
set_option maxHeartbeats 4000000
set_option maxRecDepth 100000
variable {G : Nat → Option AV}
theorem bor32 {a b : Nat} (ha : a < 4294967296) (hb : b < 4294967296) : abin .or (.int .u32 (a : Int)) (.int .u32 (b : Int)) = some (.int .u32 ((a ||| b : Nat) : Int)) := by
  have h : a ||| b < 4294967296 := Nat.or_lt_two_pow (n := 32) ha hb
  have e : (BitVec.ofInt 32 (a : Int) ||| BitVec.ofInt 32 (b : Int)).toNat = a ||| b := by
    rw [BitVec.ofInt_natCast, BitVec.ofInt_natCast, BitVec.toNat_or, BitVec.toNat_ofNat, BitVec.toNat_ofNat, Nat.mod_eq_of_lt ha, Nat.mod_eq_of_lt hb]
  rw [abin_or]
  unfold bOr
  rw [show IntKind.u32.bits = 32 from rfl, e]
  generalize a ||| b = m at *
  simp [IntKind.wrap, IntKind.bits, IntKind.signed]
  omega
theorem shl32 {s : Nat} (hs : s < 32) : abin .shl (.int .u32 1) (.int .u64 (s : Int)) = some (.int .u32 ((2 ^ s : Nat) : Int)) := by
  have h2 : (2 : Nat) ^ s < 4294967296 := Nat.lt_of_lt_of_le (Nat.pow_lt_pow_right (by decide) hs) (Nat.le_refl (2 ^ 32))
  show (if (s : Int) < 0 then none else some (AV.int .u32 (bShl .u32 1 s))) = _
  rw [if_neg (by omega)]
  unfold bShl
  rw [show IntKind.u32.bits = 32 from rfl, Int.toNat_natCast, Nat.min_eq_left (by omega), Int.one_mul]
  have e : ((2 : Int) ^ s) = ((2 ^ s : Nat) : Int) := by simp
  rw [e]
  generalize 2 ^ s = m at *
  simp [IntKind.wrap, IntKind.bits, IntKind.signed]
  omega
def stR (c : CfgT) : Nat := 2 ^ c.state.toNat
def statesR (l : List CfgT) : Nat := l.foldl (fun a c => a ||| stR c) 0
theorem states_succ {l : List CfgT} {i : Nat} {c : CfgT} (h : l[i]? = some c) : statesR (l.take (i + 1)) = statesR (l.take i) ||| stR c := by
  unfold statesR
  rw [take_at h, List.foldl_append]
  rfl
theorem states_lt {k : Nat} : ∀ (l : List CfgT) (a : Nat), a < 2 ^ k → (∀ c ∈ l, c.state.toNat < k) → l.foldl (fun a c => a ||| stR c) a < 2 ^ k
  | [], _, h, _ => h
  | c :: l, a, h, hc => by
    rw [List.foldl_cons]
    exact states_lt l _ (Nat.or_lt_two_pow h (Nat.pow_lt_pow_right (by decide) (hc c (by simp)))) fun x hx => hc x (by simp [hx])
theorem states_lt32 {l : List CfgT} (h : ∀ c ∈ l, c.state.toNat < 32) : statesR l < 4294967296 := states_lt (k := 32) l 0 (by decide) h
theorem states_new {l : List CfgT} {i : Nat} {c : CfgT} (h : l[i]? = some c) (hn : ∀ x ∈ l.take i, x.state.toNat < c.state.toNat) : statesR (l.take (i + 1)) = statesR (l.take i) + stR c := by
  rw [states_succ h]
  have hlt : statesR (l.take i) < 2 ^ c.state.toNat := states_lt _ 0 (Nat.two_pow_pos _) hn
  have := Nat.two_pow_add_eq_or_of_lt hlt 1
  rw [Nat.mul_one] at this
  unfold stR
  rw [Nat.add_comm, this, Nat.or_comm]
theorem states_same {l : List CfgT} {i : Nat} {c d : CfgT} (h : l[i + 1]? = some c) (hd : l[i]? = some d) (e : d.state = c.state) : statesR (l.take (i + 1 + 1)) = statesR (l.take (i + 1)) := by
  rw [states_succ h, states_succ hd, show stR d = stR c by unfold stR; rw [e], Nat.or_assoc, Nat.or_self]
theorem config_States_pc (l : List CfgT) (hl : l.length ≤ 1000000) (hs : ∀ c ∈ l, 0 ≤ c.state ∧ c.state < 32) : PureC Tryz.prog G n_config_States [cfgsV l] (.int .u32 (statesR l : Int)) := by
  refine pc_config_States (Runs.of fun Φ h => ?_)
  unfold c_config_States
  simp -implicitDefEqProofs only [go_sem, cfgsV, List.length_map]
  refine at_loop (fun n st => ∃ (i m : Nat), i + n = l.length ∧ st = ⟨20, [(3, .int .u32 (m : Int)), (6, .seq 2 (l.map cfgV)), (7, iv l.length), (8, iv i)], []⟩ ∧ m = statesR (l.take i)) l.length ⟨0, 0, by simp, rfl, rfl⟩ ?_
  rintro I hI n st ⟨i, m, hi, rfl, hm⟩
  simp -implicitDefEqProofs only [go_sem, List.length_map]
  refine ⟨fun hlt => ?_, fun hge => ?_⟩
  · have hlt' : i < l.length := by omega
    obtain ⟨c, hc, hcm⟩ := at_some hlt'
    have hw := wrap_succ hlt' (by omega)
    obtain ⟨h0, h1⟩ := hs c hcm
    have hml : m < 4294967296 := by rw [hm]; exact states_lt32 fun x hx => by have := hs x (List.mem_of_mem_take hx); omega
    have hnx := states_succ hc
    rw [← hm] at hnx
    unfold stR at hnx
    obtain ⟨x, vs⟩ := c
    simp only at h0 h1 hnx
    obtain ⟨s, rfl⟩ := Int.eq_ofNat_of_zero_le h0
    rw [Int.toNat_natCast] at hnx
    have hs1 := shl32 (s := s) (by omega)
    have h2 : (2 : Nat) ^ s < 4294967296 := Nat.lt_of_lt_of_le (Nat.pow_lt_pow_right (by decide) (show s < 32 by omega)) (Nat.le_refl (2 ^ 32))
    have hs2 := bor32 hml h2
    have hs3 := u64_nat (m := s) (by omega)
    generalize 2 ^ s = p at *
    generalize hq : m ||| p = r at *
    repeat' (first | (simp -implicitDefEqProofs only [go_sem, aiaddr_map hc, cfgV, hw, hs1, hs2, hs3]) | refine at_guard (fun hb => ?_) (fun hb => ?_) | refine ⟨fun hb => ?_, fun hb => ?_⟩ | fail)
    exact at_again (n - 1) (by omega) (hI _ _ ⟨i + 1, r, by omega, rfl, hnx.symm⟩)
  · rw [List.take_of_length_le (by omega)] at hm
    subst hm
    repeat' (first | (simp -implicitDefEqProofs only [go_sem]) | refine at_guard (fun hb => ?_) (fun hb => ?_) | refine ⟨fun hb => ?_, fun hb => ?_⟩ | fail)
    exact h _ ⟨_, _, rfl, rfl, .refl _⟩
theorem ref04_Keys_pc (l : List Val) (hl : l.length ≤ 1000) (hok : ∀ v ∈ l, v.ok = true ∧ i64 v.int ∧ v.str.length ≤ 1000) : PureC Tryz.prog G n_proctorref04_Keys [valsV l] (bytesV (keyVs l)) := by
  refine pc_proctorref04_Keys (Runs.of fun Φ h => ?_)
  unfold c_proctorref04_Keys
  simp -implicitDefEqProofs only [go_sem, valsV, List.length_map]
  refine at_loop (fun n st => ∃ (i : Nat) (m : Str), i + n = l.length ∧ st = ⟨19, [(0, .seq 4 (l.map valV)), (3, .arr 3 0 m.length), (4, iv i)], [(2, ⟨true, t_uint8, 1, []⟩), (3, ⟨true, t_uint8, 1, m.map byV⟩)]⟩ ∧ m = keyVs (l.take i)) l.length ⟨0, [], by simp, rfl, rfl⟩ ?_
  rintro I hI n st ⟨i, m, hi, rfl, hm⟩
  have hml : m.length ≤ 2009000 := by
    have := keyVs_len (l.take i) fun v hv => (hok v (List.mem_of_mem_take hv)).2.2
    rw [hm]
    simp only [List.length_take] at this
    omega
  simp -implicitDefEqProofs only [go_sem, List.length_map]
  refine ⟨fun hlt => ?_, fun hge => ?_⟩
  · have hlt' : i < l.length := by omega
    obtain ⟨v, hv, hvm⟩ := at_some hlt'
    have hw := wrap_succ hlt' (by omega)
    obtain ⟨k1, k2, k3⟩ := hok v hvm
    have h2 := ref04_Key_pc (G := G) v k1 k2 k3
    have hkl := keyOne_len v
    have hb1 : m.length + (keyOne v).length ≤ 140737488355328 := by omega
    have hnx := keyVs_succ hv
    rw [← hm] at hnx
    clear k1 k2 k3
    generalize keyOne v = y at *
    obtain ⟨k, n', s, b⟩ := v
    simp only [valV] at h2
    repeat' (first | (simp -implicitDefEqProofs only [go_sem, aiaddr_map hv, valV, bytesV, hw, List.length_map, List.length_append, hb1, Nat.mul_one]) | refine at_guard (fun hb => ?_) (fun hb => ?_) | refine ⟨fun hb => ?_, fun hb => ?_⟩ | refine at_call (h2) rfl rfl ?_ | fail)
    refine at_again (n - 1) (by omega) (hI _ _ ⟨i + 1, m ++ y, by omega, ?_, hnx.symm⟩)
    simp [byV]
  · rw [List.take_of_length_le (by omega)] at hm
    subst hm
    repeat' (first | (simp -implicitDefEqProofs only [go_sem]) | refine at_guard (fun hb => ?_) (fun hb => ?_) | refine ⟨fun hb => ?_, fun hb => ?_⟩ | fail)
    exact h _ ⟨_, _, rfl, view_bytes (ty := t_uint8) (out := keyVs l) (by simp [hget, byV]) rfl, .refl _⟩
def startC (q : QeaT) : CfgT := ⟨q.start, q.frees.map (·.init)⟩
theorem init_succ {q : QeaT} {i : Nat} {f : FreeT} (h : q.frees[i]? = some f) : (q.frees.take (i + 1)).map (·.init) = (q.frees.take i).map (·.init) ++ [f.init] := by rw [take_at h]; simp
def startV (q : QeaT) : AV := .agg [iv q.start, if q.frees = [] then .nils else .seq 4 ((q.frees.map (·.init)).map valV)]
theorem startV_fit (q : QeaT) : Fit2 (.seq 2 [startV q]) (cfgsV [startC q]) := by
  refine .seq _ _ _ rfl (fun f hf => by obtain rfl := List.mem_singleton.1 hf; rfl) fun j a b ha hb => ?_
  match j, ha, hb with
  | 0, ha, hb =>
    cases ha; cases hb
    refine .agg _ _ rfl fun j a b ha hb => ?_
    match j, ha, hb with
    | 0, ha, hb => cases ha; cases hb; exact .refl _
    | 1, ha, hb =>
      cases ha; cases hb
      by_cases h : q.frees = []
      · rw [if_pos h]
        unfold startC
        simp only [h, List.map_nil]
        exact .nil _
      · rw [if_neg h]
        exact .refl _
theorem config_Start_pc (q : QeaT) (hf : q.frees.length ≤ 1000) : PureC Tryz.prog G n_config_Start [qeaV q] (.seq 2 [startV q]) := by
  refine pc_config_Start (Runs.of fun Φ h => ?_)
  unfold c_config_Start
  simp -implicitDefEqProofs only [go_sem, qeaV, declsV, quantsV, freesV, statesV, symsV, nodesV, transsV, List.length_map]
  refine at_loop (fun n st => ∃ (i : Nat) (m : List Val), i + n = q.frees.length ∧ m = (q.frees.take i).map (·.init) ∧ m.length = i ∧ ((i = 0 ∧ st = ⟨26, [(3, .ref 3 0 0), (10, .seq 5 (q.frees.map freeV)), (11, iv q.frees.length), (12, iv i)], [(1, ⟨false, t_api_Qea, 9, [qeaV q]⟩), (2, ⟨true, t_api_Config, 2, []⟩), (3, ⟨false, t_api_Config, 2, [.agg [iv q.start, .nils]]⟩)]⟩) ∨ (0 < i ∧ st = ⟨26, [(3, .ref 3 0 0), (10, .seq 5 (q.frees.map freeV)), (11, iv q.frees.length), (12, iv i)], [(1, ⟨false, t_api_Qea, 9, [qeaV q]⟩), (2, ⟨true, t_api_Config, 2, []⟩), (3, ⟨false, t_api_Config, 2, [.agg [iv q.start, .arr 21 0 m.length]]⟩), (21, ⟨true, t_api_Value, 4, m.map valV⟩)]⟩))) q.frees.length ⟨0, [], by simp, rfl, rfl, .inl ⟨rfl, by simp [qeaV, declsV, quantsV, freesV, statesV, symsV, nodesV, transsV]; rfl⟩⟩ ?_
  rintro I hI n st ⟨i, m, hi, hm, hml, ⟨h0, rfl⟩ | ⟨h0, rfl⟩⟩
  · subst h0
    obtain rfl : m = [] := List.eq_nil_of_length_eq_zero hml
    simp -implicitDefEqProofs only [go_sem, qeaV, declsV, quantsV, freesV, statesV, symsV, nodesV, transsV, List.length_map]
    refine ⟨fun hlt => ?_, fun hge => ?_⟩
    · have hlt' : 0 < q.frees.length := by omega
      obtain ⟨f, hf', _⟩ := at_some hlt'
      have hw := wrap_succ hlt' (by omega)
      have hnx := init_succ hf'
      obtain ⟨nm, v⟩ := f
      obtain ⟨a, b, c, d⟩ := v
      repeat' (first | (simp -implicitDefEqProofs only [go_sem, qeaV, declsV, quantsV, freesV, statesV, symsV, nodesV, transsV, aiaddr_map hf', freeV, hw, List.length_map]) | refine at_guard (fun hb => ?_) (fun hb => ?_) | refine ⟨fun hb => ?_, fun hb => ?_⟩ | fail)
      refine at_again (n - 1) (by omega) (hI _ _ ⟨1, [⟨a, b, c, d⟩], by omega, hnx.symm, rfl, .inr ⟨by decide, ?_⟩⟩)
      simp [valV, qeaV, declsV, quantsV, freesV, statesV, symsV, nodesV, transsV]
    · have e : startV q = .agg [iv q.start, .nils] := by
        unfold startV
        rw [if_pos (List.eq_nil_of_length_eq_zero (by omega))]
      rw [e] at h
      repeat' (first | (simp -implicitDefEqProofs only [go_sem, qeaV, declsV, quantsV, freesV, statesV, symsV, nodesV, transsV]) | refine at_guard (fun hb => ?_) (fun hb => ?_) | refine ⟨fun hb => ?_, fun hb => ?_⟩ | fail)
      exact h _ ⟨_, _, rfl, rfl, .refl _⟩
  · have hb1 : (m.length + 1) * 40 ≤ 140737488355328 := by omega
    simp -implicitDefEqProofs only [go_sem, qeaV, declsV, quantsV, freesV, statesV, symsV, nodesV, transsV, List.length_map]
    refine ⟨fun hlt => ?_, fun hge => ?_⟩
    · have hlt' : i < q.frees.length := by omega
      obtain ⟨f, hf', _⟩ := at_some hlt'
      have hw := wrap_succ hlt' (by omega)
      have hnx := init_succ hf'
      rw [← hm] at hnx
      obtain ⟨nm, v⟩ := f
      obtain ⟨a, b, c, d⟩ := v
      repeat' (first | (simp -implicitDefEqProofs only [go_sem, qeaV, declsV, quantsV, freesV, statesV, symsV, nodesV, transsV, aiaddr_map hf', freeV, hw, List.length_map, List.length_append, hb1]) | refine at_guard (fun hb => ?_) (fun hb => ?_) | refine ⟨fun hb => ?_, fun hb => ?_⟩ | fail)
      refine at_again (n - 1) (by omega) (hI _ _ ⟨i + 1, m ++ [⟨a, b, c, d⟩], by omega, hnx.symm, by simp [hml], .inr ⟨by omega, ?_⟩⟩)
      simp [valV, qeaV, declsV, quantsV, freesV, statesV, symsV, nodesV, transsV]
    · have e : startV q = .agg [iv q.start, .seq 4 (m.map valV)] := by
        unfold startV
        rw [hm, List.take_of_length_le (by omega), if_neg (fun e => by rw [e] at hi; simp at hi; omega)]
      rw [e] at h
      have htk : List.take m.length (m.map valV) = m.map valV := List.take_of_length_le (by simp)
      repeat' (first | (simp -implicitDefEqProofs only [go_sem, qeaV, declsV, quantsV, freesV, statesV, symsV, nodesV, transsV, Nat.le_refl, htk]) | refine at_guard (fun hb => ?_) (fun hb => ?_) | refine ⟨fun hb => ?_, fun hb => ?_⟩ | fail)
      exact h _ ⟨_, _, rfl, rfl, .refl _⟩
theorem ref18_Start_pc (q : QeaT) (hf : q.frees.length ≤ 1000) : PureC Tryz.prog G n_proctorref18_Start [qeaV q] (.seq 2 [startV q]) := by
  refine pc_proctorref18_Start (Runs.of fun Φ h => ?_)
  unfold c_proctorref18_Start
  simp -implicitDefEqProofs only [go_sem, qeaV, declsV, quantsV, freesV, statesV, symsV, nodesV, transsV, List.length_map]
  refine at_loop (fun n st => ∃ (i : Nat) (m : List Val), i + n = q.frees.length ∧ m = (q.frees.take i).map (·.init) ∧ m.length = i ∧ ((i = 0 ∧ st = ⟨28, [(1, .ref 1 0 0), (3, .ref 3 0 0), (4, iv i)], [(1, ⟨false, t_api_Qea, 9, [qeaV q]⟩), (2, ⟨true, t_api_Config, 2, []⟩), (3, ⟨false, t_api_Config, 2, [.agg [iv q.start, .nils]]⟩)]⟩) ∨ (0 < i ∧ st = ⟨28, [(1, .ref 1 0 0), (3, .ref 3 0 0), (4, iv i)], [(1, ⟨false, t_api_Qea, 9, [qeaV q]⟩), (2, ⟨true, t_api_Config, 2, []⟩), (3, ⟨false, t_api_Config, 2, [.agg [iv q.start, .arr 24 0 m.length]]⟩), (24, ⟨true, t_api_Value, 4, m.map valV⟩)]⟩))) q.frees.length ⟨0, [], by simp, rfl, rfl, .inl ⟨rfl, by simp [qeaV, declsV, quantsV, freesV, statesV, symsV, nodesV, transsV]; rfl⟩⟩ ?_
  rintro I hI n st ⟨i, m, hi, hm, hml, ⟨h0, rfl⟩ | ⟨h0, rfl⟩⟩
  · subst h0
    obtain rfl : m = [] := List.eq_nil_of_length_eq_zero hml
    simp -implicitDefEqProofs only [go_sem, qeaV, declsV, quantsV, freesV, statesV, symsV, nodesV, transsV, List.length_map]
    refine ⟨fun hlt => ?_, fun hge => ?_⟩
    · have hlt' : 0 < q.frees.length := by omega
      obtain ⟨f, hf', _⟩ := at_some hlt'
      have hw := wrap_succ hlt' (by omega)
      have hnx := init_succ hf'
      obtain ⟨nm, v⟩ := f
      obtain ⟨a, b, c, d⟩ := v
      repeat' (first | (simp -implicitDefEqProofs only [go_sem, qeaV, declsV, quantsV, freesV, statesV, symsV, nodesV, transsV, aiaddr_map hf', freeV, hw, List.length_map]) | refine at_guard (fun hb => ?_) (fun hb => ?_) | refine ⟨fun hb => ?_, fun hb => ?_⟩ | fail)
      refine at_again (n - 1) (by omega) (hI _ _ ⟨1, [⟨a, b, c, d⟩], by omega, hnx.symm, rfl, .inr ⟨by decide, ?_⟩⟩)
      simp [valV, qeaV, declsV, quantsV, freesV, statesV, symsV, nodesV, transsV]
    · have e : startV q = .agg [iv q.start, .nils] := by
        unfold startV
        rw [if_pos (List.eq_nil_of_length_eq_zero (by omega))]
      rw [e] at h
      repeat' (first | (simp -implicitDefEqProofs only [go_sem, qeaV, declsV, quantsV, freesV, statesV, symsV, nodesV, transsV]) | refine at_guard (fun hb => ?_) (fun hb => ?_) | refine ⟨fun hb => ?_, fun hb => ?_⟩ | fail)
      exact h _ ⟨_, _, rfl, rfl, .refl _⟩
  · have hb1 : (m.length + 1) * 40 ≤ 140737488355328 := by omega
    simp -implicitDefEqProofs only [go_sem, qeaV, declsV, quantsV, freesV, statesV, symsV, nodesV, transsV, List.length_map]
    refine ⟨fun hlt => ?_, fun hge => ?_⟩
    · have hlt' : i < q.frees.length := by omega
      obtain ⟨f, hf', _⟩ := at_some hlt'
      have hw := wrap_succ hlt' (by omega)
      have hnx := init_succ hf'
      rw [← hm] at hnx
      obtain ⟨nm, v⟩ := f
      obtain ⟨a, b, c, d⟩ := v
      repeat' (first | (simp -implicitDefEqProofs only [go_sem, qeaV, declsV, quantsV, freesV, statesV, symsV, nodesV, transsV, aiaddr_map hf', freeV, hw, List.length_map, List.length_append, hb1]) | refine at_guard (fun hb => ?_) (fun hb => ?_) | refine ⟨fun hb => ?_, fun hb => ?_⟩ | fail)
      refine at_again (n - 1) (by omega) (hI _ _ ⟨i + 1, m ++ [⟨a, b, c, d⟩], by omega, hnx.symm, by simp [hml], .inr ⟨by omega, ?_⟩⟩)
      simp [valV, qeaV, declsV, quantsV, freesV, statesV, symsV, nodesV, transsV]
    · have e : startV q = .agg [iv q.start, .seq 4 (m.map valV)] := by
        unfold startV
        rw [hm, List.take_of_length_le (by omega), if_neg (fun e => by rw [e] at hi; simp at hi; omega)]
      rw [e] at h
      have htk : List.take m.length (m.map valV) = m.map valV := List.take_of_length_le (by simp)
      repeat' (first | (simp -implicitDefEqProofs only [go_sem, qeaV, declsV, quantsV, freesV, statesV, symsV, nodesV, transsV, Nat.le_refl, htk]) | refine at_guard (fun hb => ?_) (fun hb => ?_) | refine ⟨fun hb => ?_, fun hb => ?_⟩ | fail)
      exact h _ ⟨_, _, rfl, rfl, .refl _⟩
theorem dropC_at {α : Type} {l : List α} {i : Nat} {x : α} (hx : l[i]? = some x) : l.drop i = x :: l.drop (i + 1) := by
  obtain ⟨h1, rfl⟩ := List.getElem?_eq_some_iff.1 hx
  exact List.drop_eq_getElem_cons h1
theorem ref18_Accepts_pc (q : QeaT) (l : List CfgT) (hl : l.length ≤ 1000000) (hs : ∀ c ∈ l, 0 ≤ c.state ∧ c.state < q.states.length) : PureC Tryz.prog G n_proctorref18_Accepts [qeaV q, cfgsV l] (.bool (l.any (accR q))) := by
  refine pc_proctorref18_Accepts (Runs.of fun Φ h => ?_)
  unfold c_proctorref18_Accepts
  generalize hv : l.any (accR q) = v at *
  simp -implicitDefEqProofs only [go_sem, cfgsV, qeaV, declsV, quantsV, freesV, statesV, symsV, nodesV, transsV]
  refine at_loop (fun n st => ∃ i : Nat, i + n = l.length ∧ st = ⟨22, [(1, .seq 2 (l.map cfgV)), (2, .ref 2 0 0), (5, iv i)], [(2, ⟨false, t_api_Qea, 9, [qeaV q]⟩)]⟩ ∧ (l.drop i).any (accR q) = v) l.length ⟨0, by simp, by simp [qeaV, declsV, quantsV, freesV, statesV, symsV, nodesV, transsV]; rfl, hv⟩ ?_
  rintro I hI n st ⟨i, hi, rfl, hva⟩
  simp -implicitDefEqProofs only [go_sem, qeaV, declsV, quantsV, freesV, statesV, symsV, nodesV, transsV, List.length_map]
  refine ⟨fun hlt => ?_, fun hge => ?_⟩
  · have hlt' : i < l.length := by omega
    obtain ⟨c, hc, hcm⟩ := at_some hlt'
    have hw := wrap_succ hlt' (by omega)
    obtain ⟨h0, h1⟩ := hs c hcm
    rw [dropC_at hc, List.any_cons] at hva
    obtain ⟨x, vs⟩ := c
    simp only at h0 h1
    obtain ⟨k, rfl⟩ := Int.eq_ofNat_of_zero_le h0
    obtain ⟨s, hsk, _⟩ := at_some (l := q.states) (i := k) (by omega)
    have ha : accR q ⟨k, vs⟩ = s.accept := by
      unfold accR at?
      simp only
      rw [if_pos h0, Int.toNat_natCast, hsk]
    rw [ha] at hva
    clear ha
    obtain ⟨nm, s1, s2⟩ := s
    simp only at hva
    cases s2
    · rw [Bool.false_or] at hva
      repeat' (first | (simp -implicitDefEqProofs only [go_sem, qeaV, declsV, quantsV, freesV, statesV, symsV, nodesV, transsV, aiaddr_map hc, aiaddr_map hsk, cfgV, stateV, hw]) | refine at_guard (fun hb => ?_) (fun hb => ?_) | refine ⟨fun hb => ?_, fun hb => ?_⟩ | fail)
      exact at_again (n - 1) (by omega) (hI _ _ ⟨i + 1, by omega, rfl, hva⟩)
    · rw [Bool.true_or] at hva
      subst hva
      repeat' (first | (simp -implicitDefEqProofs only [go_sem, qeaV, declsV, quantsV, freesV, statesV, symsV, nodesV, transsV, aiaddr_map hc, aiaddr_map hsk, cfgV, stateV, hw]) | refine at_guard (fun hb => ?_) (fun hb => ?_) | refine ⟨fun hb => ?_, fun hb => ?_⟩ | fail)
      exact h _ ⟨_, _, rfl, rfl, .refl _⟩
  · rw [List.drop_eq_nil_of_le (by omega)] at hva
    simp only [List.any_nil] at hva
    subst hva
    repeat' (first | (simp -implicitDefEqProofs only [go_sem]) | refine at_guard (fun hb => ?_) (fun hb => ?_) | refine ⟨fun hb => ?_, fun hb => ?_⟩ | fail)
    exact h _ ⟨_, _, rfl, rfl, .refl _⟩
def sName (q : QeaT) (n : Int) : Str := match at? q.states n with | none => [] | some y => y.name
def partT (f : FreeT) (v : Val) : Str := f.name ++ [61] ++ valText v
def partsC (q : QeaT) (c : CfgT) : List Str := sName q c.state :: List.zipWith partT q.frees c.vals
def textC (q : QeaT) (c : CfgT) : Str := if cfgR q c then Lib.join (partsC q c) [32] else []
structure TextOk (q : QeaT) (c : CfgT) : Prop where
  names : ∀ f ∈ q.frees, f.name.length ≤ 1000
  states : ∀ s ∈ q.states, s.name.length ≤ 1000
  frees : q.frees.length ≤ 100
  vals : ∀ v ∈ c.vals, v.ok = true ∧ i64 v.int ∧ v.str.length ≤ 1000
theorem cfgR_parts {q : QeaT} {c : CfgT} (h : cfgR q c = true) : ∃ (s : Nat) (y : StateT), c.state = s ∧ q.states[s]? = some y ∧ c.vals.length = q.frees.length := by
  unfold cfgR at h
  simp only [Bool.and_eq_true, decide_eq_true_eq] at h
  obtain ⟨s, hs⟩ := Int.eq_ofNat_of_zero_le h.1
  obtain ⟨y, hy, _⟩ := at_some (l := q.states) (i := s) (by omega)
  exact ⟨s, y, hs, hy, (fitsR_at h.2.2).1⟩
theorem parts_at {q : QeaT} {c : CfgT} {i : Nat} {f : FreeT} {v : Val} (hf : q.frees[i]? = some f) (hv : c.vals[i]? = some v) : (partsC q c)[i + 1]? = some (partT f v) := by
  unfold partsC
  rw [List.getElem?_cons_succ, List.getElem?_zipWith, hf, hv]
theorem parts_len {q : QeaT} {c : CfgT} (h : cfgR q c = true) : (partsC q c).length = q.frees.length + 1 := by
  obtain ⟨_, _, _, _, h⟩ := cfgR_parts h
  unfold partsC
  rw [List.length_cons, List.length_zipWith, h, Nat.min_self]
theorem part_len {f : FreeT} {v : Val} (hf : f.name.length ≤ 1000) (hv : i64 v.int ∧ v.str.length ≤ 1000) : (partT f v).length ≤ 6001 := by
  have := valText_len hv.1 hv.2
  unfold partT
  simp only [List.length_append, List.length_cons, List.length_nil]
  omega
theorem parts_short {q : QeaT} {c : CfgT} (hc : TextOk q c) : ∀ x ∈ partsC q c, x.length ≤ 6001 := fun x hx => by
  unfold partsC at hx
  rcases List.mem_cons.1 hx with rfl | hx
  · unfold sName
    split
    · simp
    · rename_i y hy
      obtain ⟨j, _, hj⟩ := at?_some hy
      have := hc.states y (List.mem_of_getElem? hj)
      omega
  · obtain ⟨i, hi⟩ := List.getElem?_of_mem hx
    rw [List.getElem?_zipWith] at hi
    cases hf : q.frees[i]? with
    | none => rw [hf] at hi; simp at hi
    | some f =>
      cases hv : c.vals[i]? with
      | none => rw [hf, hv] at hi; simp at hi
      | some v =>
        rw [hf, hv] at hi
        cases hi
        exact part_len (hc.names f (List.mem_of_getElem? hf)) (hc.vals v (List.mem_of_getElem? hv)).2
theorem config_Text_pc (hT : TextG G) (q : QeaT) (c : CfgT) (hk : c.vals.length < 9223372036854775807) (hl : q.frees.length < 9223372036854775807) (hok : cfgR q c = true → TextOk q c) : PureC Tryz.prog G n_config_Text [qeaV q, cfgV c] (.str (textC q c)) := by
  have hr := config_Right_pc (G := G) q c hk hl
  refine pc_config_Text (Runs.of fun Φ h => ?_)
  unfold c_config_Text
  unfold textC at h
  cases hz : cfgR q c with
  | false =>
    rw [hz] at h hr
    rw [if_neg (by decide)] at h
    simp only [qeaV, declsV, quantsV, freesV, statesV, symsV, nodesV, transsV, cfgV] at hr
    repeat' (first | (simp -implicitDefEqProofs only [go_sem, qeaV, declsV, quantsV, freesV, statesV, symsV, nodesV, transsV, cfgV]) | refine at_guard (fun hb => ?_) (fun hb => ?_) | refine ⟨fun hb => ?_, fun hb => ?_⟩ | refine at_call (hr) rfl rfl ?_ | fail)
    exact h _ ⟨_, _, rfl, rfl, .refl _⟩
  | true =>
    rw [hz] at h hr
    rw [if_pos rfl] at h
    have ho := hok hz
    obtain ⟨s, y, hs, hy, hvl⟩ := cfgR_parts hz
    have hpl := parts_len hz
    have hsh := parts_short ho
    have hj := strings_Join_pc (G := G) (partsC q c) [32] (by have := ho.frees; omega) (by
      have := join_len (sep := [32]) hsh
      have h2 := ho.frees
      rw [hpl] at this
      simp only [List.length_cons, List.length_nil] at this
      have h3 : (q.frees.length + 1) * (0 + 1 + 6001) ≤ 101 * (0 + 1 + 6001) := Nat.mul_le_mul_right _ (by omega)
      omega)
    have hp0 : (partsC q c)[0]? = some y.name := by
      unfold partsC sName at?
      rw [hs, if_pos (by omega), Int.toNat_natCast, hy]
      rfl
    have hpat : ∀ (i : Nat) f v, q.frees[i]? = some f → c.vals[i]? = some v → (partsC q c)[i + 1]? = some (partT f v) := fun i f v hf hv => parts_at hf hv
    generalize partsC q c = L at *
    obtain ⟨x, vs⟩ := c
    simp only at hs hvl
    subst hs
    obtain ⟨yn, y1, y2⟩ := y
    simp only [qeaV, declsV, quantsV, freesV, statesV, symsV, nodesV, transsV, cfgV] at hr
    simp only at hp0
    have hnm := ho.frees
    repeat' (first | (simp -implicitDefEqProofs only [go_sem, qeaV, declsV, quantsV, freesV, statesV, symsV, nodesV, transsV, cfgV, aiaddr_map hy, stateV]) | refine at_guard (fun hb => ?_) (fun hb => ?_) | refine ⟨fun hb => ?_, fun hb => ?_⟩ | refine at_call (hr) rfl rfl ?_ | fail)
    refine at_loop (fun n st => ∃ (i : Nat) (m : List Str), i + n = q.frees.length ∧ st = ⟨44, [(3, .ref 3 0 0), (5, .arr 19 0 m.length), (21, .seq 5 (q.frees.map freeV)), (22, iv q.frees.length), (23, iv i)], [(2, ⟨false, t_api_Qea, 9, [qeaV q]⟩), (3, ⟨false, t_api_Config, 2, [cfgV ⟨s, vs⟩]⟩), (19, ⟨true, t_string, 1, m.map AV.str⟩)]⟩ ∧ m = L.take (i + 1)) q.frees.length ⟨0, [yn], by simp, by simp [qeaV, declsV, quantsV, freesV, statesV, symsV, nodesV, transsV, cfgV]; rfl, by rw [take_at hp0]; rfl⟩ ?_
    rintro I hI n st ⟨i, m, hi, rfl, hm⟩
    have hml : m.length = i + 1 := by
      rw [hm, List.length_take]
      omega
    simp -implicitDefEqProofs only [go_sem, qeaV, declsV, quantsV, freesV, statesV, symsV, nodesV, transsV, cfgV, List.length_map]
    refine ⟨fun hlt => ?_, fun hge => ?_⟩
    · have hlt' : i < q.frees.length := by omega
      obtain ⟨f, hf, hfm⟩ := at_some hlt'
      obtain ⟨v, hv, hvm⟩ := at_some (l := vs) (i := i) (by omega)
      have hw := wrap_succ hlt' (by omega)
      obtain ⟨v1, v2, v3⟩ := ho.vals v hvm
      have ht := value_Text_pc hT v v1 v2 (by omega)
      have hfl := ho.names f hfm
      have htl := valText_len v2 v3
      have hnx := take_at (hpat i f v hf hv)
      rw [← hm] at hnx
      unfold partT at hnx
      have a1 : abin .add (.str f.name) (.str [61]) = some (.str (f.name ++ [61])) := abin_adds (by simp; omega)
      have a2 : abin .add (.str (f.name ++ [61])) (.str (valText v)) = some (.str (f.name ++ [61] ++ valText v)) := abin_adds (by simp; omega)
      have hb1 : (m.length + 1) * 16 ≤ 140737488355328 := by omega
      generalize valText v = tx at *
      obtain ⟨fnm, fv⟩ := f
      obtain ⟨k, n', s', b⟩ := v
      simp only at a1 a2 hnx
      simp only [valV] at ht
      clear hpat ho hok hj hsh v1 v2 v3
      repeat' (first | (simp -implicitDefEqProofs only [go_sem, qeaV, declsV, quantsV, freesV, statesV, symsV, nodesV, transsV, cfgV, aiaddr_map hf, aiaddr_map hv, freeV, valV, hw, a1, a2, List.length_map, List.length_append, hb1]) | refine at_guard (fun hb => ?_) (fun hb => ?_) | refine ⟨fun hb => ?_, fun hb => ?_⟩ | refine at_call (ht) rfl rfl ?_ | fail)
      refine at_again (n - 1) (by omega) (hI _ _ ⟨i + 1, m ++ [fnm ++ [61] ++ tx], by omega, ?_, hnx.symm⟩)
      simp [qeaV, declsV, quantsV, freesV, statesV, symsV, nodesV, transsV, cfgV]
    · rw [List.take_of_length_le (by omega)] at hm
      subst hm
      have htk : List.take m.length (m.map AV.str) = m.map AV.str := List.take_of_length_le (by simp)
      repeat' (first | (simp -implicitDefEqProofs only [go_sem, List.length_map]) | refine at_guard (fun hb => ?_) (fun hb => ?_) | refine ⟨fun hb => ?_, fun hb => ?_⟩ | (refine at_call hj ?_ rfl ?_; (focus (simp [viewC, flat, viewBs, viewB, viewK, hget, htk]; done))) | fail)
      exact h _ ⟨_, _, rfl, rfl, .refl _⟩
theorem ref18_Text_pc (q : QeaT) (c : CfgT) (hr : cfgR q c = true) (ho : TextOk q c) : PureC Tryz.prog G n_proctorref18_Text [qeaV q, cfgV c] (.str (textC q c)) := by
  refine pc_proctorref18_Text (Runs.of fun Φ h => ?_)
  unfold c_proctorref18_Text
  unfold textC at h
  rw [if_pos hr] at h
  obtain ⟨s, y, hs, hy, hvl⟩ := cfgR_parts hr
  have hpl := parts_len hr
  have hsh := parts_short ho
  have hp0 : (partsC q c)[0]? = some y.name := by
    unfold partsC sName at?
    rw [hs, if_pos (by omega), Int.toNat_natCast, hy]
    rfl
  have hpat : ∀ (i : Nat) f v, q.frees[i]? = some f → c.vals[i]? = some v → (partsC q c)[i + 1]? = some (partT f v) := fun i f v hf hv => parts_at hf hv
  generalize partsC q c = L at *
  obtain ⟨x, vs⟩ := c
  simp only at hs hvl
  subst hs
  obtain ⟨yn, y1, y2⟩ := y
  simp only at hp0
  have hnm := ho.frees
  repeat' (first | (simp -implicitDefEqProofs only [go_sem, qeaV, declsV, quantsV, freesV, statesV, symsV, nodesV, transsV, cfgV, aiaddr_map hy, stateV]) | refine at_guard (fun hb => ?_) (fun hb => ?_) | refine ⟨fun hb => ?_, fun hb => ?_⟩ | fail)
  refine at_loop (fun n st => ∃ (i : Nat) (m : Str), i + n = vs.length ∧ st = ⟨39, [(2, .ref 2 0 0), (3, .ref 3 0 0), (5, .str m), (6, iv i)], [(2, ⟨false, t_api_Qea, 9, [qeaV q]⟩), (3, ⟨false, t_api_Config, 2, [cfgV ⟨s, vs⟩]⟩)]⟩ ∧ m = Lib.join (L.take (i + 1)) [32]) vs.length ⟨0, yn, by simp, by simp [qeaV, declsV, quantsV, freesV, statesV, symsV, nodesV, transsV, cfgV]; rfl, by rw [take_at hp0]; simp [Lib.join_one]⟩ ?_
  rintro I hI n st ⟨i, m, hi, rfl, hm⟩
  simp -implicitDefEqProofs only [go_sem, qeaV, declsV, quantsV, freesV, statesV, symsV, nodesV, transsV, cfgV, List.length_map]
  refine ⟨fun hlt => ?_, fun hge => ?_⟩
  · have hlt' : i < vs.length := by omega
    obtain ⟨v, hv, hvm⟩ := at_some hlt'
    obtain ⟨f, hf, hfm⟩ := at_some (l := q.frees) (i := i) (by omega)
    have hw := wrap_succ hlt' (by omega)
    obtain ⟨v1, v2, v3⟩ := ho.vals v hvm
    have ht := ref03_Text_pc (G := G) v v2 (by omega)
    have hfl := ho.names f hfm
    have htl := valText_len v2 v3
    have hml : m.length ≤ 1000000 := by
      have h1 := join_len (sep := [32]) (l := L.take (i + 1)) fun x hx => hsh x (List.mem_of_mem_take hx)
      have h2 : (L.take (i + 1)).length ≤ 101 := by rw [List.length_take]; omega
      simp only [List.length_cons, List.length_nil] at h1
      have h3 : (L.take (i + 1)).length * (0 + 1 + 6001) ≤ 101 * (0 + 1 + 6001) := Nat.mul_le_mul_right _ h2
      rw [hm]
      omega
    have hnx : Lib.join (L.take (i + 1 + 1)) [32] = m ++ [32] ++ partT f v := by
      rw [take_at (hpat i f v hf hv), join_snoc, if_neg, hm]
      intro e
      have := congrArg List.length e
      rw [List.length_take] at this
      simp only [List.length_nil] at this
      omega
    unfold partT at hnx
    have a0 : abin .add (.str m) (.str [32]) = some (.str (m ++ [32])) := abin_adds (by simp; omega)
    have a1 : abin .add (.str (m ++ [32])) (.str f.name) = some (.str (m ++ [32] ++ f.name)) := abin_adds (by simp; omega)
    have a2 : abin .add (.str (m ++ [32] ++ f.name)) (.str [61]) = some (.str (m ++ [32] ++ f.name ++ [61])) := abin_adds (by simp; omega)
    have a3 : abin .add (.str (m ++ [32] ++ f.name ++ [61])) (.str (valText v)) = some (.str (m ++ [32] ++ f.name ++ [61] ++ valText v)) := abin_adds (by simp; omega)
    have hnx2 : m ++ [32] ++ f.name ++ [61] ++ valText v = Lib.join (L.take (i + 1 + 1)) [32] := by rw [hnx]; simp
    clear hnx
    generalize valText v = tx at *
    obtain ⟨fnm, fv⟩ := f
    obtain ⟨k, n', s', b⟩ := v
    simp only at a1 a2 a3 hnx2
    simp only [valV] at ht
    clear hpat ho hsh v1 v2 v3
    repeat' (first | (simp -implicitDefEqProofs only [go_sem, qeaV, declsV, quantsV, freesV, statesV, symsV, nodesV, transsV, cfgV, aiaddr_map hf, aiaddr_map hv, freeV, valV, hw, a0, a1, a2, a3]) | refine at_guard (fun hb => ?_) (fun hb => ?_) | refine ⟨fun hb => ?_, fun hb => ?_⟩ | refine at_call (ht) rfl rfl ?_ | fail)
    refine at_again (n - 1) (by omega) (hI _ _ ⟨i + 1, m ++ [32] ++ fnm ++ [61] ++ tx, by omega, ?_, hnx2⟩)
    simp [qeaV, declsV, quantsV, freesV, statesV, symsV, nodesV, transsV, cfgV]
  · rw [List.take_of_length_le (by omega)] at hm
    rw [← hm] at h
    repeat' (first | (simp -implicitDefEqProofs only [go_sem]) | refine at_guard (fun hb => ?_) (fun hb => ?_) | refine ⟨fun hb => ?_, fun hb => ?_⟩ | fail)
    exact h _ ⟨_, _, rfl, rfl, .refl _⟩
end Go.Proofs.YtjbcfpkibnhodaaGreatDoor.Ab
