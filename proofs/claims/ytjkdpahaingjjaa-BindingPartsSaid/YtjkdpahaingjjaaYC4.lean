/-
  key.one, key.Of, config.Key. No claim is proved here.
-/
import Derived.Test.YtjkdpahaingjjaaYC3
import Derived.Test.YtjkdpahaingjjaaYK8
namespace Go.Proofs.Ytjkdpahaingjjaa.Ab
open Go Go.RowKit
set_option linter.unusedSimpArgs false
set_option maxHeartbeats 4000000
set_option maxRecDepth 100000
variable {G : Nat → Option AV}
theorem ok_kind {v : Val} (h : v.ok = true) : v.kind = 1 ∨ v.kind = 2 ∨ v.kind = 3 := by
  unfold Val.ok at h
  split at h
  · exact .inl ‹_›
  · split at h
    · exact .inr (.inl ‹_›)
    · simp only [Bool.and_eq_true, decide_eq_true_eq] at h
      exact .inr (.inr h.1)
theorem keyTxt_len : ∀ s : Str, (keyTxt s).length ≤ 2 * s.length + 2 := fun s => by
  rw [keyTxt_esc]
  have := escT_len s
  simp only [List.length_append, List.length_cons, List.length_nil]
  omega
theorem keyOne_len (v : Val) : (keyOne v).length ≤ 2 * v.str.length + 9 := by
  unfold keyOne
  have := keyTxt_len v.str
  split
  · simp [keyNum, beB]
  · split
    · simp only [List.length_cons]; omega
    · simp
theorem keyVs_len : ∀ (l : List Val), (∀ v ∈ l, v.str.length ≤ 1000) → (keyVs l).length ≤ 2009 * l.length
  | [], _ => by simp [keyVs]
  | v :: l, h => by
    have h1 := keyOne_len v
    have h2 := h v (by simp)
    have h3 := keyVs_len l fun x hx => h x (by simp [hx])
    simp only [keyVs, List.flatMap_cons, List.length_append, List.length_cons] at *
    omega
theorem key_one_pc (v : Val) (hok : v.ok = true) (hn : i64 v.int) (hs : v.str.length ≤ 1000) : PureC Try.prog G n_key_one [valV v] (bytesV (keyOne v)) := by
  have h1 := key_number_pc (G := G) v.int hn
  have h2 := key_text_pc (G := G) v.str (by omega)
  have hk := ok_kind hok
  clear hok
  obtain ⟨k, n, s, b⟩ := v
  simp only at h1 h2 hn hs hk
  refine pc_key_one (Runs.of fun Φ h => ?_)
  unfold c_key_one
  have w1 : IntKind.u8.wrap 1 = 1 := by decide
  have w2 : IntKind.u8.wrap 2 = 2 := by decide
  have w3 : IntKind.u8.wrap 3 = 3 := by decide
  rcases hk with rfl | rfl | rfl
  · have e : keyOne ⟨1, n, s, b⟩ = 1 :: keyNum n := by simp [keyOne]
    rw [e] at h
    have hl : (keyNum n).length = 8 := rfl
    clear e h2
    generalize keyNum n = m at *
    (try (simp -implicitDefEqProofs only [go_sem, Nat.reduceAdd, Nat.reduceSub, Nat.reduceMul, Nat.reduceLT, Nat.reduceLeDiff, Nat.reduceEqDiff, Nat.reduceBEq, Int.reduceNeg, Int.reduceAdd, Int.reduceLT, Int.reduceLE, Int.reduceToNat, Int.reduceEq, Int.reduceNe, Int.reduceBEq, Int.reduceBNe, Int.reduceMul, Int.reduceSub, reduceIte, reduceCtorEq, valV, w1, bytesV, List.length_map, hl])); repeat' ((first | refine at_guard (fun hb => ?_) (fun hb => ?_) | refine ⟨fun hb => ?_, fun hb => ?_⟩ | refine at_call (h1) rfl rfl ?_ | fail) <;> (try (simp -implicitDefEqProofs only [go_sem, Nat.reduceAdd, Nat.reduceSub, Nat.reduceMul, Nat.reduceLT, Nat.reduceLeDiff, Nat.reduceEqDiff, Nat.reduceBEq, Int.reduceNeg, Int.reduceAdd, Int.reduceLT, Int.reduceLE, Int.reduceToNat, Int.reduceEq, Int.reduceNe, Int.reduceBEq, Int.reduceBNe, Int.reduceMul, Int.reduceSub, reduceIte, reduceCtorEq, valV, w1, bytesV, List.length_map, hl])))
    exact h _ ⟨_, _, rfl, view_bytes (ty := t_uint8) (out := 1 :: m) (by simp [hget, byV]) (by simp; omega), .refl _⟩
  · have e : keyOne ⟨2, n, s, b⟩ = 2 :: keyTxt s := by simp [keyOne]
    rw [e] at h
    have hl : (keyTxt s).length ≤ 2002 := by have := keyTxt_len s; omega
    have hb1 : 1 + (keyTxt s).length ≤ 140737488355328 := by omega
    have hb2 : (keyTxt s).length + 1 ≤ 140737488355328 := by omega
    clear e h1
    generalize keyTxt s = m at *
    (try (simp -implicitDefEqProofs only [go_sem, Nat.reduceAdd, Nat.reduceSub, Nat.reduceMul, Nat.reduceLT, Nat.reduceLeDiff, Nat.reduceEqDiff, Nat.reduceBEq, Int.reduceNeg, Int.reduceAdd, Int.reduceLT, Int.reduceLE, Int.reduceToNat, Int.reduceEq, Int.reduceNe, Int.reduceBEq, Int.reduceBNe, Int.reduceMul, Int.reduceSub, reduceIte, reduceCtorEq, valV, w2, bytesV, List.length_map, hb1, hb2, Nat.mul_one])); repeat' ((first | refine at_guard (fun hb => ?_) (fun hb => ?_) | refine ⟨fun hb => ?_, fun hb => ?_⟩ | refine at_call (h2) rfl rfl ?_ | fail) <;> (try (simp -implicitDefEqProofs only [go_sem, Nat.reduceAdd, Nat.reduceSub, Nat.reduceMul, Nat.reduceLT, Nat.reduceLeDiff, Nat.reduceEqDiff, Nat.reduceBEq, Int.reduceNeg, Int.reduceAdd, Int.reduceLT, Int.reduceLE, Int.reduceToNat, Int.reduceEq, Int.reduceNe, Int.reduceBEq, Int.reduceBNe, Int.reduceMul, Int.reduceSub, reduceIte, reduceCtorEq, valV, w2, bytesV, List.length_map, hb1, hb2, Nat.mul_one])))
    exact h _ ⟨_, _, rfl, view_bytes (ty := t_uint8) (out := 2 :: m) (by simp [hget, byV]) (by simp; omega), .refl _⟩
  · have e : keyOne ⟨3, n, s, b⟩ = [3, if b then 1 else 0] := by simp [keyOne]
    rw [e] at h
    clear e h1 h2
    cases b
    · (try (simp -implicitDefEqProofs only [go_sem, Nat.reduceAdd, Nat.reduceSub, Nat.reduceMul, Nat.reduceLT, Nat.reduceLeDiff, Nat.reduceEqDiff, Nat.reduceBEq, Int.reduceNeg, Int.reduceAdd, Int.reduceLT, Int.reduceLE, Int.reduceToNat, Int.reduceEq, Int.reduceNe, Int.reduceBEq, Int.reduceBNe, Int.reduceMul, Int.reduceSub, reduceIte, reduceCtorEq, valV, w3, bytesV])); repeat' ((first | refine at_guard (fun hb => ?_) (fun hb => ?_) | refine ⟨fun hb => ?_, fun hb => ?_⟩ | fail) <;> (try (simp -implicitDefEqProofs only [go_sem, Nat.reduceAdd, Nat.reduceSub, Nat.reduceMul, Nat.reduceLT, Nat.reduceLeDiff, Nat.reduceEqDiff, Nat.reduceBEq, Int.reduceNeg, Int.reduceAdd, Int.reduceLT, Int.reduceLE, Int.reduceToNat, Int.reduceEq, Int.reduceNe, Int.reduceBEq, Int.reduceBNe, Int.reduceMul, Int.reduceSub, reduceIte, reduceCtorEq, valV, w3, bytesV])))
      exact h _ ⟨_, _, rfl, view_bytes (ty := t_uint8) (out := [3, 0]) (by simp [hget, byV]) (by simp), .refl _⟩
    · (try (simp -implicitDefEqProofs only [go_sem, Nat.reduceAdd, Nat.reduceSub, Nat.reduceMul, Nat.reduceLT, Nat.reduceLeDiff, Nat.reduceEqDiff, Nat.reduceBEq, Int.reduceNeg, Int.reduceAdd, Int.reduceLT, Int.reduceLE, Int.reduceToNat, Int.reduceEq, Int.reduceNe, Int.reduceBEq, Int.reduceBNe, Int.reduceMul, Int.reduceSub, reduceIte, reduceCtorEq, valV, w3, bytesV])); repeat' ((first | refine at_guard (fun hb => ?_) (fun hb => ?_) | refine ⟨fun hb => ?_, fun hb => ?_⟩ | fail) <;> (try (simp -implicitDefEqProofs only [go_sem, Nat.reduceAdd, Nat.reduceSub, Nat.reduceMul, Nat.reduceLT, Nat.reduceLeDiff, Nat.reduceEqDiff, Nat.reduceBEq, Int.reduceNeg, Int.reduceAdd, Int.reduceLT, Int.reduceLE, Int.reduceToNat, Int.reduceEq, Int.reduceNe, Int.reduceBEq, Int.reduceBNe, Int.reduceMul, Int.reduceSub, reduceIte, reduceCtorEq, valV, w3, bytesV])))
      exact h _ ⟨_, _, rfl, view_bytes (ty := t_uint8) (out := [3, 1]) (by simp [hget, byV]) (by simp), .refl _⟩
theorem keyVs_succ {l : List Val} {i : Nat} {v : Val} (h : l[i]? = some v) : keyVs (l.take (i + 1)) = keyVs (l.take i) ++ keyOne v := by
  rw [take_at h]
  simp [keyVs]
theorem key_Of_pc (l : List Val) (hl : l.length ≤ 1000) (hok : ∀ v ∈ l, v.ok = true ∧ i64 v.int ∧ v.str.length ≤ 1000) : PureC Try.prog G n_key_Of [valsV l] (bytesV (keyVs l)) := by
  refine pc_key_Of (Runs.of fun Φ h => ?_)
  unfold c_key_Of
  simp -implicitDefEqProofs only [go_sem, Nat.reduceAdd, Nat.reduceSub, Nat.reduceMul, Nat.reduceLT, Nat.reduceLeDiff, Nat.reduceEqDiff, Nat.reduceBEq, Int.reduceNeg, Int.reduceAdd, Int.reduceLT, Int.reduceLE, Int.reduceToNat, Int.reduceEq, Int.reduceNe, Int.reduceBEq, Int.reduceBNe, Int.reduceMul, Int.reduceSub, reduceIte, reduceCtorEq, valsV, List.length_map]
  refine at_loop (fun n st => ∃ (i : Nat) (m : Str), i + n = l.length ∧ st = ⟨21, [(3, .arr 3 0 m.length), (6, .seq 4 (l.map valV)), (7, iv l.length), (8, iv i)], [(2, ⟨true, t_uint8, 1, []⟩), (3, ⟨true, t_uint8, 1, m.map byV⟩)]⟩ ∧ m = keyVs (l.take i)) l.length ⟨0, [], by simp, rfl, rfl⟩ ?_
  rintro I hI n st ⟨i, m, hi, rfl, hm⟩
  have hml : m.length ≤ 2009000 := by
    have := keyVs_len (l.take i) fun v hv => (hok v (List.mem_of_mem_take hv)).2.2
    rw [hm]
    simp only [List.length_take] at this
    omega
  simp -implicitDefEqProofs only [go_sem, Nat.reduceAdd, Nat.reduceSub, Nat.reduceMul, Nat.reduceLT, Nat.reduceLeDiff, Nat.reduceEqDiff, Nat.reduceBEq, Int.reduceNeg, Int.reduceAdd, Int.reduceLT, Int.reduceLE, Int.reduceToNat, Int.reduceEq, Int.reduceNe, Int.reduceBEq, Int.reduceBNe, Int.reduceMul, Int.reduceSub, reduceIte, reduceCtorEq, List.length_map]
  refine ⟨fun hlt => ?_, fun hge => ?_⟩
  · have hlt' : i < l.length := by omega
    obtain ⟨v, hv, hvm⟩ := at_some hlt'
    have hw := wrap_succ hlt' (by omega)
    obtain ⟨k1, k2, k3⟩ := hok v hvm
    have h1 := value_Right_pc (G := G) v
    rw [k1] at h1
    have h2 := key_one_pc (G := G) v k1 k2 k3
    have hkl := keyOne_len v
    have hb1 : m.length + (keyOne v).length ≤ 140737488355328 := by omega
    have hnx := keyVs_succ hv
    rw [← hm] at hnx
    clear k1 k2 k3
    generalize keyOne v = y at *
    obtain ⟨k, n', s, b⟩ := v
    simp only [valV] at h1 h2
    (try (simp -implicitDefEqProofs only [go_sem, Nat.reduceAdd, Nat.reduceSub, Nat.reduceMul, Nat.reduceLT, Nat.reduceLeDiff, Nat.reduceEqDiff, Nat.reduceBEq, Int.reduceNeg, Int.reduceAdd, Int.reduceLT, Int.reduceLE, Int.reduceToNat, Int.reduceEq, Int.reduceNe, Int.reduceBEq, Int.reduceBNe, Int.reduceMul, Int.reduceSub, reduceIte, reduceCtorEq, aiaddr_map hv, valV, bytesV, hw, List.length_map, List.length_append, hb1, Nat.mul_one])); repeat' ((first | refine at_guard (fun hb => ?_) (fun hb => ?_) | refine ⟨fun hb => ?_, fun hb => ?_⟩ | refine at_call (h1) rfl rfl ?_ | refine at_call (h2) rfl rfl ?_ | fail) <;> (try (simp -implicitDefEqProofs only [go_sem, Nat.reduceAdd, Nat.reduceSub, Nat.reduceMul, Nat.reduceLT, Nat.reduceLeDiff, Nat.reduceEqDiff, Nat.reduceBEq, Int.reduceNeg, Int.reduceAdd, Int.reduceLT, Int.reduceLE, Int.reduceToNat, Int.reduceEq, Int.reduceNe, Int.reduceBEq, Int.reduceBNe, Int.reduceMul, Int.reduceSub, reduceIte, reduceCtorEq, aiaddr_map hv, valV, bytesV, hw, List.length_map, List.length_append, hb1, Nat.mul_one])))
    refine at_again (n - 1) (by omega) (hI _ _ ⟨i + 1, m ++ y, by omega, ?_, hnx.symm⟩)
    simp [byV]
  · rw [List.take_of_length_le (by omega)] at hm
    subst hm
    (try (simp -implicitDefEqProofs only [go_sem, Nat.reduceAdd, Nat.reduceSub, Nat.reduceMul, Nat.reduceLT, Nat.reduceLeDiff, Nat.reduceEqDiff, Nat.reduceBEq, Int.reduceNeg, Int.reduceAdd, Int.reduceLT, Int.reduceLE, Int.reduceToNat, Int.reduceEq, Int.reduceNe, Int.reduceBEq, Int.reduceBNe, Int.reduceMul, Int.reduceSub, reduceIte, reduceCtorEq])); repeat' ((first | refine at_guard (fun hb => ?_) (fun hb => ?_) | refine ⟨fun hb => ?_, fun hb => ?_⟩ | fail) <;> (try (simp -implicitDefEqProofs only [go_sem, Nat.reduceAdd, Nat.reduceSub, Nat.reduceMul, Nat.reduceLT, Nat.reduceLeDiff, Nat.reduceEqDiff, Nat.reduceBEq, Int.reduceNeg, Int.reduceAdd, Int.reduceLT, Int.reduceLE, Int.reduceToNat, Int.reduceEq, Int.reduceNe, Int.reduceBEq, Int.reduceBNe, Int.reduceMul, Int.reduceSub, reduceIte, reduceCtorEq])))
    exact h _ ⟨_, _, rfl, view_bytes (ty := t_uint8) (out := keyVs l) (by simp [hget, byV]) rfl, .refl _⟩
/-- A configuration with a key. -/
structure CfgT.Key (c : CfgT) : Prop where
  st0 : 0 ≤ c.state
  st : c.state < 256
  len : c.vals.length ≤ 1000
  ok : ∀ v ∈ c.vals, v.ok = true ∧ i64 v.int ∧ v.str.length ≤ 1000
end Go.Proofs.Ytjkdpahaingjjaa.Ab
