/-
  key.one, key.Of, config.Key. No claim is proved here.
-/
import Derived.Test.YtjbcfpkibnhodaaGreatDoorYC3
import Derived.Test.YtjbcfpkibnhodaaGreatDoorYK8
namespace Go.Proofs.YtjbcfpkibnhodaaGreatDoor.Ab
open Go Go.RowKit
set_option linter.unusedSimpArgs false
set_option maxHeartbeats 4000000
set_option maxRecDepth 100000
variable {G : Nat → Option AV}
theorem ok_kind {v : Val} (h : v.ok = true) : v.kind = 1 ∨ v.kind = 2 ∨ v.kind = 3 := by
  unfold Val.ok at h
  split at h
  · exact .inl ‹_›
  · split at h
    · exact .inr (.inl ‹_›)
    · simp only [Bool.and_eq_true, decide_eq_true_eq] at h
      exact .inr (.inr h.1)
theorem keyTxt_len : ∀ s : Str, (keyTxt s).length ≤ 2 * s.length + 2 := fun s => by
  rw [keyTxt_esc]
  have := escT_len s
  simp only [List.length_append, List.length_cons, List.length_nil]
  omega
theorem keyOne_len (v : Val) : (keyOne v).length ≤ 2 * v.str.length + 9 := by
  unfold keyOne
  have := keyTxt_len v.str
  split
  · simp [keyNum, beB]
  · split
    · simp only [List.length_cons]; omega
    · simp
theorem keyVs_len : ∀ (l : List Val), (∀ v ∈ l, v.str.length ≤ 1000) → (keyVs l).length ≤ 2009 * l.length
  | [], _ => by simp [keyVs]
  | v :: l, h => by
    have h1 := keyOne_len v
    have h2 := h v (by simp)
    have h3 := keyVs_len l fun x hx => h x (by simp [hx])
    simp only [keyVs, List.flatMap_cons, List.length_append, List.length_cons] at *
    omega
theorem key_one_pc (v : Val) (hok : v.ok = true) (hn : i64 v.int) (hs : v.str.length ≤ 1000) : PureC Tryz.prog G n_key_one [valV v] (bytesV (keyOne v)) := by
  have h1 := key_number_pc (G := G) v.int hn
  have h2 := key_text_pc (G := G) v.str (by omega)
  have hk := ok_kind hok
  clear hok
  obtain ⟨k, n, s, b⟩ := v
  simp only at h1 h2 hn hs hk
  refine pc_key_one (Runs.of fun Φ h => ?_)
  unfold c_key_one
  have w1 : IntKind.u8.wrap 1 = 1 := by decide
  have w2 : IntKind.u8.wrap 2 = 2 := by decide
  have w3 : IntKind.u8.wrap 3 = 3 := by decide
  rcases hk with rfl | rfl | rfl
  · have e : keyOne ⟨1, n, s, b⟩ = 1 :: keyNum n := by simp [keyOne]
    rw [e] at h
    have hl : (keyNum n).length = 8 := rfl
    clear e h2
    generalize keyNum n = m at *
    repeat' (first | (simp -implicitDefEqProofs only [go_sem, valV, w1, bytesV, List.length_map, hl]) | refine at_guard (fun hb => ?_) (fun hb => ?_) | refine ⟨fun hb => ?_, fun hb => ?_⟩ | refine at_call (h1) rfl rfl ?_ | fail)
    exact h _ ⟨_, _, rfl, view_bytes (ty := t_uint8) (out := 1 :: m) (by simp [hget, byV]) (by simp; omega), .refl _⟩
  · have e : keyOne ⟨2, n, s, b⟩ = 2 :: keyTxt s := by simp [keyOne]
    rw [e] at h
    have hl : (keyTxt s).length ≤ 2002 := by have := keyTxt_len s; omega
    have hb1 : 1 + (keyTxt s).length ≤ 140737488355328 := by omega
    have hb2 : (keyTxt s).length + 1 ≤ 140737488355328 := by omega
    clear e h1
    generalize keyTxt s = m at *
    repeat' (first | (simp -implicitDefEqProofs only [go_sem, valV, w2, bytesV, List.length_map, hb1, hb2, Nat.mul_one]) | refine at_guard (fun hb => ?_) (fun hb => ?_) | refine ⟨fun hb => ?_, fun hb => ?_⟩ | refine at_call (h2) rfl rfl ?_ | fail)
    exact h _ ⟨_, _, rfl, view_bytes (ty := t_uint8) (out := 2 :: m) (by simp [hget, byV]) (by simp; omega), .refl _⟩
  · have e : keyOne ⟨3, n, s, b⟩ = [3, if b then 1 else 0] := by simp [keyOne]
    rw [e] at h
    clear e h1 h2
    cases b
    · repeat' (first | (simp -implicitDefEqProofs only [go_sem, valV, w3, bytesV]) | refine at_guard (fun hb => ?_) (fun hb => ?_) | refine ⟨fun hb => ?_, fun hb => ?_⟩ | fail)
      exact h _ ⟨_, _, rfl, view_bytes (ty := t_uint8) (out := [3, 0]) (by simp [hget, byV]) (by simp), .refl _⟩
    · repeat' (first | (simp -implicitDefEqProofs only [go_sem, valV, w3, bytesV]) | refine at_guard (fun hb => ?_) (fun hb => ?_) | refine ⟨fun hb => ?_, fun hb => ?_⟩ | fail)
      exact h _ ⟨_, _, rfl, view_bytes (ty := t_uint8) (out := [3, 1]) (by simp [hget, byV]) (by simp), .refl _⟩
theorem keyVs_succ {l : List Val} {i : Nat} {v : Val} (h : l[i]? = some v) : keyVs (l.take (i + 1)) = keyVs (l.take i) ++ keyOne v := by
  rw [take_at h]
  simp [keyVs]
theorem key_Of_pc (l : List Val) (hl : l.length ≤ 1000) (hok : ∀ v ∈ l, v.ok = true ∧ i64 v.int ∧ v.str.length ≤ 1000) : PureC Tryz.prog G n_key_Of [valsV l] (bytesV (keyVs l)) := by
  refine pc_key_Of (Runs.of fun Φ h => ?_)
  unfold c_key_Of
  simp -implicitDefEqProofs only [go_sem, valsV, List.length_map]
  refine at_loop (fun n st => ∃ (i : Nat) (m : Str), i + n = l.length ∧ st = ⟨21, [(3, .arr 3 0 m.length), (6, .seq 4 (l.map valV)), (7, iv l.length), (8, iv i)], [(2, ⟨true, t_uint8, 1, []⟩), (3, ⟨true, t_uint8, 1, m.map byV⟩)]⟩ ∧ m = keyVs (l.take i)) l.length ⟨0, [], by simp, rfl, rfl⟩ ?_
  rintro I hI n st ⟨i, m, hi, rfl, hm⟩
  have hml : m.length ≤ 2009000 := by
    have := keyVs_len (l.take i) fun v hv => (hok v (List.mem_of_mem_take hv)).2.2
    rw [hm]
    simp only [List.length_take] at this
    omega
  simp -implicitDefEqProofs only [go_sem, List.length_map]
  refine ⟨fun hlt => ?_, fun hge => ?_⟩
  · have hlt' : i < l.length := by omega
    obtain ⟨v, hv, hvm⟩ := at_some hlt'
    have hw := wrap_succ hlt' (by omega)
    obtain ⟨k1, k2, k3⟩ := hok v hvm
    have h1 := value_Right_pc (G := G) v
    rw [k1] at h1
    have h2 := key_one_pc (G := G) v k1 k2 k3
    have hkl := keyOne_len v
    have hb1 : m.length + (keyOne v).length ≤ 140737488355328 := by omega
    have hnx := keyVs_succ hv
    rw [← hm] at hnx
    clear k1 k2 k3
    generalize keyOne v = y at *
    obtain ⟨k, n', s, b⟩ := v
    simp only [valV] at h1 h2
    repeat' (first | (simp -implicitDefEqProofs only [go_sem, aiaddr_map hv, valV, bytesV, hw, List.length_map, List.length_append, hb1, Nat.mul_one]) | refine at_guard (fun hb => ?_) (fun hb => ?_) | refine ⟨fun hb => ?_, fun hb => ?_⟩ | refine at_call (h1) rfl rfl ?_ | refine at_call (h2) rfl rfl ?_ | fail)
    refine at_again (n - 1) (by omega) (hI _ _ ⟨i + 1, m ++ y, by omega, ?_, hnx.symm⟩)
    simp [byV]
  · rw [List.take_of_length_le (by omega)] at hm
    subst hm
    repeat' (first | (simp -implicitDefEqProofs only [go_sem]) | refine at_guard (fun hb => ?_) (fun hb => ?_) | refine ⟨fun hb => ?_, fun hb => ?_⟩ | fail)
    exact h _ ⟨_, _, rfl, view_bytes (ty := t_uint8) (out := keyVs l) (by simp [hget, byV]) rfl, .refl _⟩
def keySet (l : List CfgT) : Str := l.flatMap fun c => UInt8.ofNat c.state.toNat :: keyVs c.vals
theorem keySet_succ {l : List CfgT} {i : Nat} {c : CfgT} (h : l[i]? = some c) : keySet (l.take (i + 1)) = keySet (l.take i) ++ (UInt8.ofNat c.state.toNat :: keyVs c.vals) := by
  rw [take_at h]
  simp [keySet]
structure CfgT.Key (c : CfgT) : Prop where
  st0 : 0 ≤ c.state
  st : c.state < 256
  len : c.vals.length ≤ 1000
  ok : ∀ v ∈ c.vals, v.ok = true ∧ i64 v.int ∧ v.str.length ≤ 1000
theorem keySet_len : ∀ (l : List CfgT), (∀ c ∈ l, c.Key) → (keySet l).length ≤ 2009001 * l.length
  | [], _ => by simp [keySet]
  | c :: l, h => by
    have h1 := keyVs_len c.vals fun v hv => ((h c (by simp)).ok v hv).2.2
    have h2 := (h c (by simp)).len
    have h3 := keySet_len l fun x hx => h x (by simp [hx])
    simp only [keySet, List.flatMap_cons, List.length_append, List.length_cons] at *
    omega
theorem config_Key_pc (l : List CfgT) (hl : l.length ≤ 1000) (hk : ∀ c ∈ l, c.Key) : PureC Tryz.prog G n_config_Key [cfgsV l] (.str (keySet l)) := by
  refine pc_config_Key (Runs.of fun Φ h => ?_)
  unfold c_config_Key
  simp -implicitDefEqProofs only [go_sem, cfgsV, List.length_map]
  refine at_loop (fun n st => ∃ (i : Nat) (m : Str), i + n = l.length ∧ st = ⟨25, [(3, .arr 3 0 m.length), (6, .seq 2 (l.map cfgV)), (7, iv l.length), (8, iv i)], [(3, ⟨true, t_uint8, 1, m.map byV⟩)]⟩ ∧ m = keySet (l.take i)) l.length ⟨0, [], by simp, rfl, rfl⟩ ?_
  rintro I hI n st ⟨i, m, hi, rfl, hm⟩
  have hml : m.length ≤ 2009001000 := by
    have := keySet_len (l.take i) fun c hc => hk c (List.mem_of_mem_take hc)
    rw [hm]
    simp only [List.length_take] at this
    omega
  simp -implicitDefEqProofs only [go_sem, List.length_map]
  refine ⟨fun hlt => ?_, fun hge => ?_⟩
  · have hlt' : i < l.length := by omega
    obtain ⟨c, hc, hcm⟩ := at_some hlt'
    have hw := wrap_succ hlt' (by omega)
    have hck := hk c hcm
    have h2 := key_Of_pc (G := G) c.vals hck.len hck.ok
    have hkl := keyVs_len c.vals fun v hv => (hck.ok v hv).2.2
    have hcl := hck.len
    have hb1 : m.length + 1 ≤ 140737488355328 := by omega
    have hb2 : m.length + 1 + (keyVs c.vals).length ≤ 140737488355328 := by omega
    have hnx := keySet_succ hc
    rw [← hm] at hnx
    have h0 := hck.st0
    have h256 := hck.st
    have hby : IntKind.u8.wrap c.state = ((UInt8.ofNat c.state.toNat).toNat : Int) := by
      simp [IntKind.wrap, IntKind.bits, IntKind.signed]
      omega
    clear hck hkl hcl
    generalize keyVs c.vals = y at *
    obtain ⟨x, vs⟩ := c
    simp only at h2 hby hnx
    generalize UInt8.ofNat x.toNat = z at *
    repeat' (first | (simp -implicitDefEqProofs only [go_sem, aiaddr_map hc, cfgV, valsV, bytesV, hw, hby, List.length_map, List.length_append, hb1, hb2, Nat.mul_one]) | refine at_guard (fun hb => ?_) (fun hb => ?_) | refine ⟨fun hb => ?_, fun hb => ?_⟩ | refine at_call (h2) rfl rfl ?_ | fail)
    refine at_again (n - 1) (by omega) (hI _ _ ⟨i + 1, m ++ z :: y, by omega, ?_, hnx.symm⟩)
    simp [byV]
    omega
  · rw [List.take_of_length_le (by omega)] at hm
    subst hm
    have ht : List.take (keySet l).length ((keySet l).map byV) = (keySet l).map byV := List.take_of_length_le (by simp)
    generalize keySet l = ks at *
    repeat' (first | (simp -implicitDefEqProofs only [go_sem, ht, asBytes_map, Nat.le_refl, if_true, Option.map_some]) | refine at_guard (fun hb => ?_) (fun hb => ?_) | refine ⟨fun hb => ?_, fun hb => ?_⟩ | fail)
    exact h _ ⟨_, _, rfl, rfl, .refl _⟩
end Go.Proofs.YtjbcfpkibnhodaaGreatDoor.Ab
