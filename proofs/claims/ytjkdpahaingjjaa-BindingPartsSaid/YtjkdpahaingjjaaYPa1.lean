/-
  proctorref04.Key: a value's key. No claim is proved here.
-/
import Derived.Test.YtjkdpahaingjjaaYC4
namespace Go.Proofs.Ytjkdpahaingjjaa.Ab
open Go Go.RowKit
set_option linter.unusedSimpArgs false
set_option maxHeartbeats 4000000
set_option maxRecDepth 100000
variable {G : Nat → Option AV}
theorem u64_top {n : Int} (hn : i64 n) : IntKind.u64.wrap (IntKind.u64.wrap n + 9223372036854775808) = ((n + 9223372036854775808).toNat : Int) := by
  unfold i64 at hn
  simp [IntKind.wrap, IntKind.bits, IntKind.signed]
  omega
theorem u64_nat {m : Nat} (h : m < 18446744073709551616) : IntKind.u64.wrap (m : Int) = (m : Int) := by
  simp [IntKind.wrap, IntKind.bits, IntKind.signed]
  omega
theorem quoU {a b : Nat} (ha : a < 18446744073709551616) (hb : 0 < b) : abin .quo (.int .u64 (a : Int)) (.int .u64 (b : Int)) = some (.int .u64 ((a / b : Nat) : Int)) := by
  rw [abin_quo _ _ _ (by omega)]
  have : (a : Int).tdiv (b : Int) = ((a / b : Nat) : Int) := by
    rw [Int.tdiv_eq_ediv_of_nonneg (by omega)]
    simp
  rw [this, u64_nat (Nat.lt_of_le_of_lt (Nat.div_le_self _ _) ha)]
theorem remU (a : Nat) : abin .rem (.int .u64 (a : Int)) (.int .u64 256) = some (.int .u64 ((a % 256 : Nat) : Int)) := by
  rw [abin_rem _ _ _ (by decide)]
  have : (a : Int).tmod 256 = ((a % 256 : Nat) : Int) := by
    rw [Int.tmod_eq_emod_of_nonneg (by omega)]
    simp
  rw [this]
theorem byteU (a : Nat) : IntKind.u8.wrap ((a % 256 : Nat) : Int) = ((UInt8.ofNat a).toNat : Int) := by
  simp [IntKind.wrap, IntKind.bits, IntKind.signed]
def divU (i : Nat) : Nat := if i < 8 then 256 ^ (7 - i) else 0
theorem divU_next : ∀ i, i < 8 → divU i / 256 = divU (i + 1)
  | 0, _ => by decide
  | 1, _ => by decide
  | 2, _ => by decide
  | 3, _ => by decide
  | 4, _ => by decide
  | 5, _ => by decide
  | 6, _ => by decide
  | 7, _ => by decide
  | i + 8, h => by omega
theorem divU_lt : ∀ i, i < 8 → 0 < divU i ∧ divU i < 18446744073709551616
  | 0, _ => by decide
  | 1, _ => by decide
  | 2, _ => by decide
  | 3, _ => by decide
  | 4, _ => by decide
  | 5, _ => by decide
  | 6, _ => by decide
  | 7, _ => by decide
  | i + 8, h => by omega
theorem beB_at (U : Nat) : ∀ i, i < 8 → (beB U)[i]? = some (UInt8.ofNat (U / divU i))
  | 0, _ => rfl
  | 1, _ => rfl
  | 2, _ => rfl
  | 3, _ => rfl
  | 4, _ => rfl
  | 5, _ => rfl
  | 6, _ => rfl
  | 7, _ => by simp [beB, divU]
  | i + 8, h => by omega
theorem ref04_Key_pc (v : Val) (hok : v.ok = true) (hn : i64 v.int) (hs : v.str.length ≤ 1000) : PureC Try.prog G n_proctorref04_Key [valV v] (bytesV (keyOne v)) := by
  have hk := ok_kind hok
  clear hok
  obtain ⟨k, n, s, b⟩ := v
  simp only at hn hs hk
  refine pc_proctorref04_Key (Runs.of fun Φ h => ?_)
  unfold c_proctorref04_Key
  have w1 : IntKind.u8.wrap 1 = 1 := by decide
  have w2 : IntKind.u8.wrap 2 = 2 := by decide
  have w3 : IntKind.u8.wrap 3 = 3 := by decide
  rcases hk with rfl | rfl | rfl
  · have e : keyOne ⟨1, n, s, b⟩ = 1 :: keyNum n := by simp [keyOne]
    rw [e] at h
    have hU := u64_top hn
    have hUlt : (n + 9223372036854775808).toNat < 18446744073709551616 := by unfold i64 at hn; omega
    unfold keyNum at h
    generalize (n + 9223372036854775808).toNat = U at *
    (try (simp -implicitDefEqProofs only [go_sem, Nat.reduceAdd, Nat.reduceSub, Nat.reduceMul, Nat.reduceLT, Nat.reduceLeDiff, Nat.reduceEqDiff, Nat.reduceBEq, Int.reduceNeg, Int.reduceAdd, Int.reduceLT, Int.reduceLE, Int.reduceToNat, Int.reduceEq, Int.reduceNe, Int.reduceBEq, Int.reduceBNe, Int.reduceMul, Int.reduceSub, reduceIte, reduceCtorEq, valV, w1, hU])); repeat' ((first | refine at_guard (fun hb => ?_) (fun hb => ?_) | refine ⟨fun hb => ?_, fun hb => ?_⟩ | fail) <;> (try (simp -implicitDefEqProofs only [go_sem, Nat.reduceAdd, Nat.reduceSub, Nat.reduceMul, Nat.reduceLT, Nat.reduceLeDiff, Nat.reduceEqDiff, Nat.reduceBEq, Int.reduceNeg, Int.reduceAdd, Int.reduceLT, Int.reduceLE, Int.reduceToNat, Int.reduceEq, Int.reduceNe, Int.reduceBEq, Int.reduceBNe, Int.reduceMul, Int.reduceSub, reduceIte, reduceCtorEq, valV, w1, hU])))
    refine at_loop (fun n2 st => ∃ (i : Nat) (m : Str), i + n2 = 8 ∧ st = ⟨70, [(3, .arr 11 0 m.length), (5, .int .u64 (U : Int)), (6, .int .u64 (divU i : Int)), (7, iv i)], [(1, ⟨false, t_api_Value, 4, [.agg [iv 1, iv n, .str s, .bool b]]⟩), (2, ⟨true, t_uint8, 1, []⟩), (11, ⟨true, t_uint8, 1, m.map byV⟩)]⟩ ∧ m = 1 :: (beB U).take i) 8 ⟨0, [1], by simp, by rfl, rfl⟩ ?_
    rintro I hI n2 st ⟨i, m, hi, rfl, hm⟩
    have hml : m.length = i + 1 := by
      rw [hm]
      simp only [List.length_cons, List.length_take]
      have : (beB U).length = 8 := rfl
      omega
    simp -implicitDefEqProofs only [go_sem, Nat.reduceAdd, Nat.reduceSub, Nat.reduceMul, Nat.reduceLT, Nat.reduceLeDiff, Nat.reduceEqDiff, Nat.reduceBEq, Int.reduceNeg, Int.reduceAdd, Int.reduceLT, Int.reduceLE, Int.reduceToNat, Int.reduceEq, Int.reduceNe, Int.reduceBEq, Int.reduceBNe, Int.reduceMul, Int.reduceSub, reduceIte, reduceCtorEq]
    refine ⟨fun hlt => ?_, fun hge => ?_⟩
    · have hlt' : i < 8 := by omega
      have hw := wrap_succ hlt' (by omega)
      obtain ⟨d1, d2⟩ := divU_lt i hlt'
      have q1 := quoU hUlt d1
      have q2 := remU (U / divU i)
      have q3 := byteU (U / divU i)
      have q4 := quoU d2 (show 0 < 256 by decide)
      have q4' : abin .quo (.int .u64 (divU i : Int)) (.int .u64 256) = some (.int .u64 (divU (i + 1) : Int)) := by rw [← divU_next i hlt']; exact q4
      have hnx := take_at (beB_at U i hlt')
      have hb1 : m.length + 1 ≤ 140737488355328 := by omega
      clear q4 d1 d2
      (try (simp -implicitDefEqProofs only [go_sem, Nat.reduceAdd, Nat.reduceSub, Nat.reduceMul, Nat.reduceLT, Nat.reduceLeDiff, Nat.reduceEqDiff, Nat.reduceBEq, Int.reduceNeg, Int.reduceAdd, Int.reduceLT, Int.reduceLE, Int.reduceToNat, Int.reduceEq, Int.reduceNe, Int.reduceBEq, Int.reduceBNe, Int.reduceMul, Int.reduceSub, reduceIte, reduceCtorEq, q1, q2, q3, q4', hw, List.length_map, List.length_append, hb1, Nat.mul_one])); repeat' ((first | refine at_guard (fun hb => ?_) (fun hb => ?_) | refine ⟨fun hb => ?_, fun hb => ?_⟩ | fail) <;> (try (simp -implicitDefEqProofs only [go_sem, Nat.reduceAdd, Nat.reduceSub, Nat.reduceMul, Nat.reduceLT, Nat.reduceLeDiff, Nat.reduceEqDiff, Nat.reduceBEq, Int.reduceNeg, Int.reduceAdd, Int.reduceLT, Int.reduceLE, Int.reduceToNat, Int.reduceEq, Int.reduceNe, Int.reduceBEq, Int.reduceBNe, Int.reduceMul, Int.reduceSub, reduceIte, reduceCtorEq, q1, q2, q3, q4', hw, List.length_map, List.length_append, hb1, Nat.mul_one])))
      refine at_again (n2 - 1) (by omega) (hI _ _ ⟨i + 1, m ++ [UInt8.ofNat (U / divU i)], by omega, ?_, by rw [hnx, hm]; rfl⟩)
      simp [byV]
    · have hi8 : i = 8 := by omega
      subst hi8
      have hm8 : m = 1 :: beB U := hm
      clear hm hI
      subst hm8
      (try (simp -implicitDefEqProofs only [go_sem, Nat.reduceAdd, Nat.reduceSub, Nat.reduceMul, Nat.reduceLT, Nat.reduceLeDiff, Nat.reduceEqDiff, Nat.reduceBEq, Int.reduceNeg, Int.reduceAdd, Int.reduceLT, Int.reduceLE, Int.reduceToNat, Int.reduceEq, Int.reduceNe, Int.reduceBEq, Int.reduceBNe, Int.reduceMul, Int.reduceSub, reduceIte, reduceCtorEq])); repeat' ((first | refine at_guard (fun hb => ?_) (fun hb => ?_) | refine ⟨fun hb => ?_, fun hb => ?_⟩ | fail) <;> (try (simp -implicitDefEqProofs only [go_sem, Nat.reduceAdd, Nat.reduceSub, Nat.reduceMul, Nat.reduceLT, Nat.reduceLeDiff, Nat.reduceEqDiff, Nat.reduceBEq, Int.reduceNeg, Int.reduceAdd, Int.reduceLT, Int.reduceLE, Int.reduceToNat, Int.reduceEq, Int.reduceNe, Int.reduceBEq, Int.reduceBNe, Int.reduceMul, Int.reduceSub, reduceIte, reduceCtorEq])))
      exact h _ ⟨_, _, rfl, view_bytes (ty := t_uint8) (out := 1 :: beB U) (by simp [hget]) rfl, .refl _⟩
  · have e : keyOne ⟨2, n, s, b⟩ = 2 :: keyTxt s := by simp [keyOne]
    rw [e, keyTxt_esc] at h
    (try (simp -implicitDefEqProofs only [go_sem, Nat.reduceAdd, Nat.reduceSub, Nat.reduceMul, Nat.reduceLT, Nat.reduceLeDiff, Nat.reduceEqDiff, Nat.reduceBEq, Int.reduceNeg, Int.reduceAdd, Int.reduceLT, Int.reduceLE, Int.reduceToNat, Int.reduceEq, Int.reduceNe, Int.reduceBEq, Int.reduceBNe, Int.reduceMul, Int.reduceSub, reduceIte, reduceCtorEq, valV, w2])); repeat' ((first | refine at_guard (fun hb => ?_) (fun hb => ?_) | refine ⟨fun hb => ?_, fun hb => ?_⟩ | fail) <;> (try (simp -implicitDefEqProofs only [go_sem, Nat.reduceAdd, Nat.reduceSub, Nat.reduceMul, Nat.reduceLT, Nat.reduceLeDiff, Nat.reduceEqDiff, Nat.reduceBEq, Int.reduceNeg, Int.reduceAdd, Int.reduceLT, Int.reduceLE, Int.reduceToNat, Int.reduceEq, Int.reduceNe, Int.reduceBEq, Int.reduceBNe, Int.reduceMul, Int.reduceSub, reduceIte, reduceCtorEq, valV, w2])))
    refine at_loop (fun n2 st => ∃ (i : Nat) (m : Str), i + n2 = s.length ∧ st = ⟨70, [(1, .ref 1 0 0), (3, .arr 11 0 m.length), (4, iv i)], [(1, ⟨false, t_api_Value, 4, [.agg [iv 2, iv n, .str s, .bool b]]⟩), (2, ⟨true, t_uint8, 1, []⟩), (11, ⟨true, t_uint8, 1, m.map byV⟩)]⟩ ∧ m = 2 :: escT (s.take i)) s.length ⟨0, [2], by simp, by rfl, rfl⟩ ?_
    rintro I hI n2 st ⟨i, m, hi, rfl, hm⟩
    have hml : m.length ≤ 2001 := by
      have := escT_len (s.take i)
      rw [hm]
      simp only [List.length_take, List.length_cons] at this ⊢
      omega
    simp -implicitDefEqProofs only [go_sem, Nat.reduceAdd, Nat.reduceSub, Nat.reduceMul, Nat.reduceLT, Nat.reduceLeDiff, Nat.reduceEqDiff, Nat.reduceBEq, Int.reduceNeg, Int.reduceAdd, Int.reduceLT, Int.reduceLE, Int.reduceToNat, Int.reduceEq, Int.reduceNe, Int.reduceBEq, Int.reduceBNe, Int.reduceMul, Int.reduceSub, reduceIte, reduceCtorEq]
    refine ⟨fun hlt => ?_, fun hge => ?_⟩
    · have hlt' : i < s.length := by omega
      obtain ⟨c, hc, _⟩ := at_some hlt'
      have hw := wrap_succ hlt' (by omega)
      have hnx : 2 :: escT (s.take (i + 1)) = m ++ (if c = 0 then [0, 255] else [c]) := by rw [take_at hc, escT_append, hm, escT, escT]; simp
      have hb1 : m.length + 1 ≤ 140737488355328 := by omega
      have hb2 : m.length + 1 + 1 ≤ 140737488355328 := by omega
      by_cases h0 : c = 0
      · subst h0
        rw [if_pos rfl] at hnx
        have e0 : (((0 : UInt8).toNat : Int) == 0) = true := rfl
        (try (simp -implicitDefEqProofs only [go_sem, Nat.reduceAdd, Nat.reduceSub, Nat.reduceMul, Nat.reduceLT, Nat.reduceLeDiff, Nat.reduceEqDiff, Nat.reduceBEq, Int.reduceNeg, Int.reduceAdd, Int.reduceLT, Int.reduceLE, Int.reduceToNat, Int.reduceEq, Int.reduceNe, Int.reduceBEq, Int.reduceBNe, Int.reduceMul, Int.reduceSub, reduceIte, reduceCtorEq, aidx_at hc, hw, e0, List.length_map, List.length_append, hb1, hb2, Nat.mul_one])); repeat' ((first | refine at_guard (fun hb => ?_) (fun hb => ?_) | refine ⟨fun hb => ?_, fun hb => ?_⟩ | fail) <;> (try (simp -implicitDefEqProofs only [go_sem, Nat.reduceAdd, Nat.reduceSub, Nat.reduceMul, Nat.reduceLT, Nat.reduceLeDiff, Nat.reduceEqDiff, Nat.reduceBEq, Int.reduceNeg, Int.reduceAdd, Int.reduceLT, Int.reduceLE, Int.reduceToNat, Int.reduceEq, Int.reduceNe, Int.reduceBEq, Int.reduceBNe, Int.reduceMul, Int.reduceSub, reduceIte, reduceCtorEq, aidx_at hc, hw, e0, List.length_map, List.length_append, hb1, hb2, Nat.mul_one])))
        refine at_again (n2 - 1) (by omega) (hI _ _ ⟨i + 1, m ++ [0, 255], by omega, ?_, hnx.symm⟩)
        simp [byV]
      · rw [if_neg h0] at hnx
        have e0 : ((c.toNat : Int) == 0) = false := by
          have : c.toNat ≠ 0 := fun e => h0 (UInt8.toNat_inj.1 e)
          simp; omega
        (try (simp -implicitDefEqProofs only [go_sem, Nat.reduceAdd, Nat.reduceSub, Nat.reduceMul, Nat.reduceLT, Nat.reduceLeDiff, Nat.reduceEqDiff, Nat.reduceBEq, Int.reduceNeg, Int.reduceAdd, Int.reduceLT, Int.reduceLE, Int.reduceToNat, Int.reduceEq, Int.reduceNe, Int.reduceBEq, Int.reduceBNe, Int.reduceMul, Int.reduceSub, reduceIte, reduceCtorEq, aidx_at hc, hw, e0, List.length_map, List.length_append, hb1, hb2, Nat.mul_one])); repeat' ((first | refine at_guard (fun hb => ?_) (fun hb => ?_) | refine ⟨fun hb => ?_, fun hb => ?_⟩ | fail) <;> (try (simp -implicitDefEqProofs only [go_sem, Nat.reduceAdd, Nat.reduceSub, Nat.reduceMul, Nat.reduceLT, Nat.reduceLeDiff, Nat.reduceEqDiff, Nat.reduceBEq, Int.reduceNeg, Int.reduceAdd, Int.reduceLT, Int.reduceLE, Int.reduceToNat, Int.reduceEq, Int.reduceNe, Int.reduceBEq, Int.reduceBNe, Int.reduceMul, Int.reduceSub, reduceIte, reduceCtorEq, aidx_at hc, hw, e0, List.length_map, List.length_append, hb1, hb2, Nat.mul_one])))
        refine at_again (n2 - 1) (by omega) (hI _ _ ⟨i + 1, m ++ [c], by omega, ?_, hnx.symm⟩)
        simp [byV]
    · rw [List.take_of_length_le (by omega)] at hm
      rw [show 2 :: (escT s ++ [0, 1]) = m ++ [0, 1] by rw [hm]; rfl] at h
      have hb1 : m.length + 2 ≤ 140737488355328 := by omega
      have hb2 : m.length + 1 + 1 ≤ 140737488355328 := by omega
      (try (simp -implicitDefEqProofs only [go_sem, Nat.reduceAdd, Nat.reduceSub, Nat.reduceMul, Nat.reduceLT, Nat.reduceLeDiff, Nat.reduceEqDiff, Nat.reduceBEq, Int.reduceNeg, Int.reduceAdd, Int.reduceLT, Int.reduceLE, Int.reduceToNat, Int.reduceEq, Int.reduceNe, Int.reduceBEq, Int.reduceBNe, Int.reduceMul, Int.reduceSub, reduceIte, reduceCtorEq, List.length_map, List.length_append, hb1, hb2, Nat.mul_one])); repeat' ((first | refine at_guard (fun hb => ?_) (fun hb => ?_) | refine ⟨fun hb => ?_, fun hb => ?_⟩ | fail) <;> (try (simp -implicitDefEqProofs only [go_sem, Nat.reduceAdd, Nat.reduceSub, Nat.reduceMul, Nat.reduceLT, Nat.reduceLeDiff, Nat.reduceEqDiff, Nat.reduceBEq, Int.reduceNeg, Int.reduceAdd, Int.reduceLT, Int.reduceLE, Int.reduceToNat, Int.reduceEq, Int.reduceNe, Int.reduceBEq, Int.reduceBNe, Int.reduceMul, Int.reduceSub, reduceIte, reduceCtorEq, List.length_map, List.length_append, hb1, hb2, Nat.mul_one])))
      exact h _ ⟨_, _, rfl, view_bytes (ty := t_uint8) (out := m ++ [0, 1]) (by simp [hget, byV]) (by simp), .refl _⟩
  · have e : keyOne ⟨3, n, s, b⟩ = [3, if b then 1 else 0] := by simp [keyOne]
    rw [e] at h
    clear e
    cases b
    · (try (simp -implicitDefEqProofs only [go_sem, Nat.reduceAdd, Nat.reduceSub, Nat.reduceMul, Nat.reduceLT, Nat.reduceLeDiff, Nat.reduceEqDiff, Nat.reduceBEq, Int.reduceNeg, Int.reduceAdd, Int.reduceLT, Int.reduceLE, Int.reduceToNat, Int.reduceEq, Int.reduceNe, Int.reduceBEq, Int.reduceBNe, Int.reduceMul, Int.reduceSub, reduceIte, reduceCtorEq, valV, w3, bytesV])); repeat' ((first | refine at_guard (fun hb => ?_) (fun hb => ?_) | refine ⟨fun hb => ?_, fun hb => ?_⟩ | fail) <;> (try (simp -implicitDefEqProofs only [go_sem, Nat.reduceAdd, Nat.reduceSub, Nat.reduceMul, Nat.reduceLT, Nat.reduceLeDiff, Nat.reduceEqDiff, Nat.reduceBEq, Int.reduceNeg, Int.reduceAdd, Int.reduceLT, Int.reduceLE, Int.reduceToNat, Int.reduceEq, Int.reduceNe, Int.reduceBEq, Int.reduceBNe, Int.reduceMul, Int.reduceSub, reduceIte, reduceCtorEq, valV, w3, bytesV])))
      exact h _ ⟨_, _, rfl, view_bytes (ty := t_uint8) (out := [3, 0]) (by simp [hget, byV]) (by simp), .refl _⟩
    · (try (simp -implicitDefEqProofs only [go_sem, Nat.reduceAdd, Nat.reduceSub, Nat.reduceMul, Nat.reduceLT, Nat.reduceLeDiff, Nat.reduceEqDiff, Nat.reduceBEq, Int.reduceNeg, Int.reduceAdd, Int.reduceLT, Int.reduceLE, Int.reduceToNat, Int.reduceEq, Int.reduceNe, Int.reduceBEq, Int.reduceBNe, Int.reduceMul, Int.reduceSub, reduceIte, reduceCtorEq, valV, w3, bytesV])); repeat' ((first | refine at_guard (fun hb => ?_) (fun hb => ?_) | refine ⟨fun hb => ?_, fun hb => ?_⟩ | fail) <;> (try (simp -implicitDefEqProofs only [go_sem, Nat.reduceAdd, Nat.reduceSub, Nat.reduceMul, Nat.reduceLT, Nat.reduceLeDiff, Nat.reduceEqDiff, Nat.reduceBEq, Int.reduceNeg, Int.reduceAdd, Int.reduceLT, Int.reduceLE, Int.reduceToNat, Int.reduceEq, Int.reduceNe, Int.reduceBEq, Int.reduceBNe, Int.reduceMul, Int.reduceSub, reduceIte, reduceCtorEq, valV, w3, bytesV])))
      exact h _ ⟨_, _, rfl, view_bytes (ty := t_uint8) (out := [3, 1]) (by simp [hget, byV]) (by simp), .refl _⟩
end Go.Proofs.Ytjkdpahaingjjaa.Ab
