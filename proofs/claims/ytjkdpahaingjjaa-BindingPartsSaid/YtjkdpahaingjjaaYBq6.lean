/-
  proctorref05.Less. binding.Key: a binding's key; no two bindings have one. Bindings that fit: both together. proctorlaw05.small; the law BindingPairs. No claim is proved here.
-/
import Derived.Test.YtjkdpahaingjjaaYBq2
import Derived.Test.YtjkdpahaingjjaaYD8
import Derived.Test.YtjkdpahaingjjaaYC4
import Derived.Test.YtjkdpahaingjjaaYC3
namespace Go.Proofs.Ytjkdpahaingjjaa.Ab
open Go Go.RowKit
set_option linter.unusedSimpArgs false
set_option maxHeartbeats 4000000
set_option maxRecDepth 100000
variable {G : Nat → Option AV}
theorem ref05_Less_pc (a b : List SlotT) (ha : a.length ≤ 1000) (_hb : b.length ≤ 1000) (hs : ∀ x ∈ a, x.value.str.length < 9223372036854775807) : PureC Try.prog G n_proctorref05_Less [slotsV a, slotsV b] (.bool (lessB a b)) := by
  refine pc_proctorref05_Less (Runs.of fun Φ h => ?_)
  unfold c_proctorref05_Less
  have fin : ∀ β heap, β = lessB a b → Φ ⟨66, [(4, .bool β)], heap⟩ := fun β heap e => h _ ⟨_, _, rfl, rfl, fitB e⟩
  clear h
  unfold lessB at fin
  by_cases hl : a.length = b.length
  · have e0 : ((a.length : Int) != (b.length : Int)) = false := by simp [hl]
    rw [if_neg (by simpa using hl)] at fin
    simp -implicitDefEqProofs only [go_sem, Nat.reduceAdd, Nat.reduceSub, Nat.reduceMul, Nat.reduceLT, Nat.reduceLeDiff, Nat.reduceEqDiff, Nat.reduceBEq, Int.reduceNeg, Int.reduceAdd, Int.reduceLT, Int.reduceLE, Int.reduceToNat, Int.reduceEq, Int.reduceNe, Int.reduceBEq, Int.reduceBNe, Int.reduceMul, Int.reduceSub, reduceIte, reduceCtorEq, slotsV, List.length_map, e0]
    refine at_loop (fun n st => ∃ i : Nat, i + n = a.length ∧ st = ⟨66, [(0, .seq 5 (a.map slotV)), (1, .seq 5 (b.map slotV)), (5, iv i)], []⟩ ∧ lessSl (a.drop i) (b.drop i) = lessSl a b) a.length ⟨0, by simp, rfl, rfl⟩ ?_
    rintro I hI n st ⟨i, hi, rfl, hno⟩
    simp -implicitDefEqProofs only [go_sem, Nat.reduceAdd, Nat.reduceSub, Nat.reduceMul, Nat.reduceLT, Nat.reduceLeDiff, Nat.reduceEqDiff, Nat.reduceBEq, Int.reduceNeg, Int.reduceAdd, Int.reduceLT, Int.reduceLE, Int.reduceToNat, Int.reduceEq, Int.reduceNe, Int.reduceBEq, Int.reduceBNe, Int.reduceMul, Int.reduceSub, reduceIte, reduceCtorEq, List.length_map]
    refine ⟨fun hlt => ?_, fun hge => ?_⟩
    · have hlt' : i < a.length := by omega
      obtain ⟨x, hx, hxm⟩ := at_some hlt'
      obtain ⟨y, hy, _⟩ := at_some (l := b) (i := i) (by omega)
      have hw := wrap_succ hlt' (by omega)
      have hc := ref03_Less_pc (G := G) x.value y.value (hs x hxm)
      rw [drop_at hx, drop_at hy, lessSl] at hno
      generalize lessV x.value y.value = z at *
      generalize lessSl a b = R at *
      obtain ⟨v1, ⟨k1, n1, s1, t1⟩⟩ := x
      obtain ⟨v2, ⟨k2, n2, s2, t2⟩⟩ := y
      simp only [valV] at hc hno
      by_cases hv : v1 = v2
      · subst hv
        rw [if_neg (by simp)] at hno
        have hxy : ((⟨k1, n1, s1, t1⟩ : Val) == ⟨k2, n2, s2, t2⟩) = (k1 == k2 && (n1 == n2 && (s1 == s2 && t1 == t2))) := val_beq _ _ _ _ _ _ _ _
        cases hE : ((⟨k1, n1, s1, t1⟩ : Val) == ⟨k2, n2, s2, t2⟩) with
        | true =>
          rw [hE] at hxy
          rw [if_neg (by simpa using hE)] at hno
          (try (simp -implicitDefEqProofs only [go_sem, Nat.reduceAdd, Nat.reduceSub, Nat.reduceMul, Nat.reduceLT, Nat.reduceLeDiff, Nat.reduceEqDiff, Nat.reduceBEq, Int.reduceNeg, Int.reduceAdd, Int.reduceLT, Int.reduceLE, Int.reduceToNat, Int.reduceEq, Int.reduceNe, Int.reduceBEq, Int.reduceBNe, Int.reduceMul, Int.reduceSub, reduceIte, reduceCtorEq, aiaddr_map hx, aiaddr_map hy, List.length_map, slotV, valV, hw, aeqA, aeqs, leafEq, andO, Bool.and_true, ← hxy, Bool.not_true])); repeat' ((first | refine at_guard (fun hb => ?_) (fun hb => ?_) | refine ⟨fun hb => ?_, fun hb => ?_⟩ | refine at_call (hc) rfl rfl ?_ | fail) <;> (try (simp -implicitDefEqProofs only [go_sem, Nat.reduceAdd, Nat.reduceSub, Nat.reduceMul, Nat.reduceLT, Nat.reduceLeDiff, Nat.reduceEqDiff, Nat.reduceBEq, Int.reduceNeg, Int.reduceAdd, Int.reduceLT, Int.reduceLE, Int.reduceToNat, Int.reduceEq, Int.reduceNe, Int.reduceBEq, Int.reduceBNe, Int.reduceMul, Int.reduceSub, reduceIte, reduceCtorEq, aiaddr_map hx, aiaddr_map hy, List.length_map, slotV, valV, hw, aeqA, aeqs, leafEq, andO, Bool.and_true, ← hxy, Bool.not_true])))
          all_goals first
            | exact at_again (n - 1) (by omega) (hI _ _ ⟨i + 1, by omega, rfl, hno⟩)
            | (exfalso; simp_all; done)
        | false =>
          rw [hE] at hxy
          rw [if_pos (by simpa using hE)] at hno
          (try (simp -implicitDefEqProofs only [go_sem, Nat.reduceAdd, Nat.reduceSub, Nat.reduceMul, Nat.reduceLT, Nat.reduceLeDiff, Nat.reduceEqDiff, Nat.reduceBEq, Int.reduceNeg, Int.reduceAdd, Int.reduceLT, Int.reduceLE, Int.reduceToNat, Int.reduceEq, Int.reduceNe, Int.reduceBEq, Int.reduceBNe, Int.reduceMul, Int.reduceSub, reduceIte, reduceCtorEq, aiaddr_map hx, aiaddr_map hy, List.length_map, slotV, valV, hw, aeqA, aeqs, leafEq, andO, Bool.and_true, ← hxy, Bool.not_false])); repeat' ((first | refine at_guard (fun hb => ?_) (fun hb => ?_) | refine ⟨fun hb => ?_, fun hb => ?_⟩ | refine at_call (hc) rfl rfl ?_ | fail) <;> (try (simp -implicitDefEqProofs only [go_sem, Nat.reduceAdd, Nat.reduceSub, Nat.reduceMul, Nat.reduceLT, Nat.reduceLeDiff, Nat.reduceEqDiff, Nat.reduceBEq, Int.reduceNeg, Int.reduceAdd, Int.reduceLT, Int.reduceLE, Int.reduceToNat, Int.reduceEq, Int.reduceNe, Int.reduceBEq, Int.reduceBNe, Int.reduceMul, Int.reduceSub, reduceIte, reduceCtorEq, aiaddr_map hx, aiaddr_map hy, List.length_map, slotV, valV, hw, aeqA, aeqs, leafEq, andO, Bool.and_true, ← hxy, Bool.not_false])))
          all_goals first
            | exact fin _ _ hno
            | (exfalso; simp_all; done)
      · have hv' : (v1 != v2) = true := by simpa using hv
        rw [if_pos hv] at hno
        (try (simp -implicitDefEqProofs only [go_sem, Nat.reduceAdd, Nat.reduceSub, Nat.reduceMul, Nat.reduceLT, Nat.reduceLeDiff, Nat.reduceEqDiff, Nat.reduceBEq, Int.reduceNeg, Int.reduceAdd, Int.reduceLT, Int.reduceLE, Int.reduceToNat, Int.reduceEq, Int.reduceNe, Int.reduceBEq, Int.reduceBNe, Int.reduceMul, Int.reduceSub, reduceIte, reduceCtorEq, aiaddr_map hx, aiaddr_map hy, List.length_map, slotV, valV, hw, hv'])); repeat' ((first | refine at_guard (fun hb => ?_) (fun hb => ?_) | refine ⟨fun hb => ?_, fun hb => ?_⟩ | refine at_call (hc) rfl rfl ?_ | fail) <;> (try (simp -implicitDefEqProofs only [go_sem, Nat.reduceAdd, Nat.reduceSub, Nat.reduceMul, Nat.reduceLT, Nat.reduceLeDiff, Nat.reduceEqDiff, Nat.reduceBEq, Int.reduceNeg, Int.reduceAdd, Int.reduceLT, Int.reduceLE, Int.reduceToNat, Int.reduceEq, Int.reduceNe, Int.reduceBEq, Int.reduceBNe, Int.reduceMul, Int.reduceSub, reduceIte, reduceCtorEq, aiaddr_map hx, aiaddr_map hy, List.length_map, slotV, valV, hw, hv'])))
        all_goals first
          | exact fin _ _ hno
          | (exfalso; simp_all; done)
    · have hd : a.drop i = [] := List.drop_of_length_le (by omega)
      rw [hd, lessSl] at hno
      (try (simp -implicitDefEqProofs only [go_sem, Nat.reduceAdd, Nat.reduceSub, Nat.reduceMul, Nat.reduceLT, Nat.reduceLeDiff, Nat.reduceEqDiff, Nat.reduceBEq, Int.reduceNeg, Int.reduceAdd, Int.reduceLT, Int.reduceLE, Int.reduceToNat, Int.reduceEq, Int.reduceNe, Int.reduceBEq, Int.reduceBNe, Int.reduceMul, Int.reduceSub, reduceIte, reduceCtorEq])); repeat' ((first | refine at_guard (fun hb => ?_) (fun hb => ?_) | refine ⟨fun hb => ?_, fun hb => ?_⟩ | fail) <;> (try (simp -implicitDefEqProofs only [go_sem, Nat.reduceAdd, Nat.reduceSub, Nat.reduceMul, Nat.reduceLT, Nat.reduceLeDiff, Nat.reduceEqDiff, Nat.reduceBEq, Int.reduceNeg, Int.reduceAdd, Int.reduceLT, Int.reduceLE, Int.reduceToNat, Int.reduceEq, Int.reduceNe, Int.reduceBEq, Int.reduceBNe, Int.reduceMul, Int.reduceSub, reduceIte, reduceCtorEq])))
      exact fin _ _ hno
  · have e0 : ((a.length : Int) != (b.length : Int)) = true := by simp; omega
    have e1 : decide ((a.length : Int) < (b.length : Int)) = decide (a.length < b.length) := by simp
    rw [if_pos hl] at fin
    (try (simp -implicitDefEqProofs only [go_sem, Nat.reduceAdd, Nat.reduceSub, Nat.reduceMul, Nat.reduceLT, Nat.reduceLeDiff, Nat.reduceEqDiff, Nat.reduceBEq, Int.reduceNeg, Int.reduceAdd, Int.reduceLT, Int.reduceLE, Int.reduceToNat, Int.reduceEq, Int.reduceNe, Int.reduceBEq, Int.reduceBNe, Int.reduceMul, Int.reduceSub, reduceIte, reduceCtorEq, slotsV, List.length_map, e0, e1])); repeat' ((first | refine at_guard (fun hb => ?_) (fun hb => ?_) | refine ⟨fun hb => ?_, fun hb => ?_⟩ | fail) <;> (try (simp -implicitDefEqProofs only [go_sem, Nat.reduceAdd, Nat.reduceSub, Nat.reduceMul, Nat.reduceLT, Nat.reduceLeDiff, Nat.reduceEqDiff, Nat.reduceBEq, Int.reduceNeg, Int.reduceAdd, Int.reduceLT, Int.reduceLE, Int.reduceToNat, Int.reduceEq, Int.reduceNe, Int.reduceBEq, Int.reduceBNe, Int.reduceMul, Int.reduceSub, reduceIte, reduceCtorEq, slotsV, List.length_map, e0, e1])))
    exact fin _ _ rfl
end Go.Proofs.Ytjkdpahaingjjaa.Ab
namespace Go.Proofs.Ytjkdpahaingjjaa.Ab
open Go Go.RowKit
set_option linter.unusedSimpArgs false
set_option maxHeartbeats 4000000
set_option maxRecDepth 100000
variable {G : Nat → Option AV}
def keySl (s : SlotT) : Str := UInt8.ofNat (s.var + 16).toNat :: keyOne s.value
def keyB (l : List SlotT) : Str := l.flatMap keySl
/-- A slot with a key. -/
structure SlotT.Key (s : SlotT) : Prop where
  v0 : 0 ≤ s.var
  v7 : s.var ≤ 7
  ok : s.value.ok = true
  n64 : i64 s.value.int
  len : s.value.str.length ≤ 1000
theorem keyB_succ {l : List SlotT} {i : Nat} {s : SlotT} (h : l[i]? = some s) : keyB (l.take (i + 1)) = keyB (l.take i) ++ keySl s := by
  rw [take_at h]
  simp [keyB]
theorem keyB_len : ∀ (l : List SlotT), (∀ s ∈ l, s.value.str.length ≤ 1000) → (keyB l).length ≤ 2010 * l.length
  | [], _ => by simp [keyB]
  | s :: l, h => by
    have h1 := keyOne_len s.value
    have h2 := h s (by simp)
    have h3 := keyB_len l fun x hx => h x (by simp [hx])
    simp only [keyB, keySl, List.flatMap_cons, List.length_append, List.length_cons] at *
    omega
theorem binding_Key_pc (l : List SlotT) (hl : l.length ≤ 1000) (hok : ∀ s ∈ l, s.Key) : PureC Try.prog G n_binding_Key [slotsV l] (.str (keyB l)) := by
  refine pc_binding_Key (Runs.of fun Φ h => ?_)
  unfold c_binding_Key
  simp -implicitDefEqProofs only [go_sem, Nat.reduceAdd, Nat.reduceSub, Nat.reduceMul, Nat.reduceLT, Nat.reduceLeDiff, Nat.reduceEqDiff, Nat.reduceBEq, Int.reduceNeg, Int.reduceAdd, Int.reduceLT, Int.reduceLE, Int.reduceToNat, Int.reduceEq, Int.reduceNe, Int.reduceBEq, Int.reduceBNe, Int.reduceMul, Int.reduceSub, reduceIte, reduceCtorEq, slotsV, List.length_map]
  refine at_loop (fun n st => ∃ (i : Nat) (m : Str), i + n = l.length ∧ st = ⟨27, [(3, .arr 3 0 m.length), (6, .seq 5 (l.map slotV)), (7, iv l.length), (8, iv i)], [(3, ⟨true, t_uint8, 1, m.map byV⟩)]⟩ ∧ m = keyB (l.take i)) l.length ⟨0, [], by simp, rfl, rfl⟩ ?_
  rintro I hI n st ⟨i, m, hi, rfl, hm⟩
  have hml : m.length ≤ 2010000 := by
    have := keyB_len (l.take i) fun v hv => (hok v (List.mem_of_mem_take hv)).len
    rw [hm]
    simp only [List.length_take] at this
    omega
  simp -implicitDefEqProofs only [go_sem, Nat.reduceAdd, Nat.reduceSub, Nat.reduceMul, Nat.reduceLT, Nat.reduceLeDiff, Nat.reduceEqDiff, Nat.reduceBEq, Int.reduceNeg, Int.reduceAdd, Int.reduceLT, Int.reduceLE, Int.reduceToNat, Int.reduceEq, Int.reduceNe, Int.reduceBEq, Int.reduceBNe, Int.reduceMul, Int.reduceSub, reduceIte, reduceCtorEq, List.length_map]
  refine ⟨fun hlt => ?_, fun hge => ?_⟩
  · have hlt' : i < l.length := by omega
    obtain ⟨s, hs, hsm⟩ := at_some hlt'
    have hw := wrap_succ hlt' (by omega)
    have hk := hok s hsm
    have h2 := key_Of_pc (G := G) [s.value] (by simp) (fun v hv => by simp only [List.mem_singleton] at hv; rw [hv]; exact ⟨hk.ok, hk.n64, hk.len⟩)
    rw [show keyVs [s.value] = keyOne s.value by simp [keyVs]] at h2
    have hkl := keyOne_len s.value
    have hsl := hk.len
    have hb1 : m.length + 1 ≤ 140737488355328 := by omega
    have hb2 : m.length + 1 + (keyOne s.value).length ≤ 140737488355328 := by omega
    have hnx := keyB_succ hs
    rw [← hm, keySl] at hnx
    have h0 := hk.v0
    have h7 := hk.v7
    have hw16 : IntKind.i64.wrap (s.var + 16) = s.var + 16 := wrap_i64 (by omega) (by omega)
    have hby : IntKind.u8.wrap (s.var + 16) = ((UInt8.ofNat (s.var + 16).toNat).toNat : Int) := by
      simp [IntKind.wrap, IntKind.bits, IntKind.signed]
      omega
    clear hk hkl hsl h0 h7
    generalize keyOne s.value = y at *
    obtain ⟨v, ⟨k, n', t, b⟩⟩ := s
    simp only [valsV, valV, List.map_cons, List.map_nil] at h2 hby hnx hw16
    generalize UInt8.ofNat (v + 16).toNat = z at *
    (try (simp -implicitDefEqProofs only [go_sem, Nat.reduceAdd, Nat.reduceSub, Nat.reduceMul, Nat.reduceLT, Nat.reduceLeDiff, Nat.reduceEqDiff, Nat.reduceBEq, Int.reduceNeg, Int.reduceAdd, Int.reduceLT, Int.reduceLE, Int.reduceToNat, Int.reduceEq, Int.reduceNe, Int.reduceBEq, Int.reduceBNe, Int.reduceMul, Int.reduceSub, reduceIte, reduceCtorEq, aiaddr_map hs, slotV, valV, bytesV, hw, hw16, hby, List.length_map, List.length_append, hb1, hb2, Nat.mul_one])); repeat' ((first | refine at_guard (fun hb => ?_) (fun hb => ?_) | refine ⟨fun hb => ?_, fun hb => ?_⟩ | refine at_call (h2) rfl rfl ?_ | refine at_lcall (h2) rfl rfl ?_ | (refine And.intro (a := lcallT ..) ?_ ?_) | fail) <;> (try (simp -implicitDefEqProofs only [go_sem, Nat.reduceAdd, Nat.reduceSub, Nat.reduceMul, Nat.reduceLT, Nat.reduceLeDiff, Nat.reduceEqDiff, Nat.reduceBEq, Int.reduceNeg, Int.reduceAdd, Int.reduceLT, Int.reduceLE, Int.reduceToNat, Int.reduceEq, Int.reduceNe, Int.reduceBEq, Int.reduceBNe, Int.reduceMul, Int.reduceSub, reduceIte, reduceCtorEq, aiaddr_map hs, slotV, valV, bytesV, hw, hw16, hby, List.length_map, List.length_append, hb1, hb2, Nat.mul_one])))
    all_goals
      refine at_again (n - 1) (by omega) (hI _ _ ⟨i + 1, m ++ z :: y, by omega, ?_, hnx.symm⟩)
      simp [byV]
      try omega
  · rw [List.take_of_length_le (by omega)] at hm
    subst hm
    have ht : List.take (keyB l).length ((keyB l).map byV) = (keyB l).map byV := List.take_of_length_le (by simp)
    generalize keyB l = ks at *
    (try (simp -implicitDefEqProofs only [go_sem, Nat.reduceAdd, Nat.reduceSub, Nat.reduceMul, Nat.reduceLT, Nat.reduceLeDiff, Nat.reduceEqDiff, Nat.reduceBEq, Int.reduceNeg, Int.reduceAdd, Int.reduceLT, Int.reduceLE, Int.reduceToNat, Int.reduceEq, Int.reduceNe, Int.reduceBEq, Int.reduceBNe, Int.reduceMul, Int.reduceSub, reduceIte, reduceCtorEq, ht, asBytes_map, Nat.le_refl, if_true, Option.map_some])); repeat' ((first | refine at_guard (fun hb => ?_) (fun hb => ?_) | refine ⟨fun hb => ?_, fun hb => ?_⟩ | fail) <;> (try (simp -implicitDefEqProofs only [go_sem, Nat.reduceAdd, Nat.reduceSub, Nat.reduceMul, Nat.reduceLT, Nat.reduceLeDiff, Nat.reduceEqDiff, Nat.reduceBEq, Int.reduceNeg, Int.reduceAdd, Int.reduceLT, Int.reduceLE, Int.reduceToNat, Int.reduceEq, Int.reduceNe, Int.reduceBEq, Int.reduceBNe, Int.reduceMul, Int.reduceSub, reduceIte, reduceCtorEq, ht, asBytes_map, Nat.le_refl, if_true, Option.map_some])))
    exact h _ ⟨_, _, rfl, rfl, .refl _⟩
end Go.Proofs.Ytjkdpahaingjjaa.Ab
namespace Go.Proofs.Ytjkdpahaingjjaa.Ab
open Go
set_option linter.unusedSimpArgs false
end Go.Proofs.Ytjkdpahaingjjaa.Ab
namespace Go.Proofs.Ytjkdpahaingjjaa.Ab
open Go Go.RowKit
set_option linter.unusedSimpArgs false
set_option maxHeartbeats 4000000
set_option maxRecDepth 100000
variable {G : Nat → Option AV}
def smallB (b : List SlotT) : Bool := decide (b.length ≤ 8) && (b.all (fun s => decide (s.value.str.length ≤ 1000)) && bindOk b)
theorem small_of {b : List SlotT} (h : smallB b = true) : b.length ≤ 8 ∧ (∀ s ∈ b, s.value.str.length ≤ 1000) ∧ Can b := by
  simp only [smallB, Bool.and_eq_true, decide_eq_true_eq, List.all_eq_true] at h
  exact ⟨h.1, h.2.1, can_of h.2.2⟩
theorem law05_small_pc (b : List SlotT) : PureC Try.prog G n_proctorlaw05_small [slotsV b] (.bool (smallB b)) := by
  refine pc_proctorlaw05_small (Runs.of fun Φ h => ?_)
  unfold c_proctorlaw05_small
  have fin : ∀ β heap, β = smallB b → Φ ⟨23, [(2, .bool β)], heap⟩ := fun β heap e => h _ ⟨_, _, rfl, rfl, fitB e⟩
  clear h
  unfold smallB at fin
  by_cases hl : b.length ≤ 8
  · have hr := ref05_Right_pc (G := G) b (by omega)
    have e0 : decide ((8 : Int) < (b.length : Int)) = false := by simp; omega
    rw [decide_eq_true hl, Bool.true_and] at fin
    simp -implicitDefEqProofs only [go_sem, Nat.reduceAdd, Nat.reduceSub, Nat.reduceMul, Nat.reduceLT, Nat.reduceLeDiff, Nat.reduceEqDiff, Nat.reduceBEq, Int.reduceNeg, Int.reduceAdd, Int.reduceLT, Int.reduceLE, Int.reduceToNat, Int.reduceEq, Int.reduceNe, Int.reduceBEq, Int.reduceBNe, Int.reduceMul, Int.reduceSub, reduceIte, reduceCtorEq, slotsV, List.length_map, e0]
    refine at_loop (fun n st => ∃ i : Nat, i + n = b.length ∧ st = ⟨23, [(0, .seq 5 (b.map slotV)), (3, iv i)], []⟩ ∧ ∀ j x, j < i → b[j]? = some x → decide (x.value.str.length ≤ 1000) = true) b.length ⟨0, by simp, rfl, fun j x hj => by omega⟩ ?_
    rintro I hI n st ⟨i, hi, rfl, hno⟩
    simp -implicitDefEqProofs only [go_sem, Nat.reduceAdd, Nat.reduceSub, Nat.reduceMul, Nat.reduceLT, Nat.reduceLeDiff, Nat.reduceEqDiff, Nat.reduceBEq, Int.reduceNeg, Int.reduceAdd, Int.reduceLT, Int.reduceLE, Int.reduceToNat, Int.reduceEq, Int.reduceNe, Int.reduceBEq, Int.reduceBNe, Int.reduceMul, Int.reduceSub, reduceIte, reduceCtorEq, List.length_map]
    refine ⟨fun hlt => ?_, fun hge => ?_⟩
    · have hlt' : i < b.length := by omega
      obtain ⟨x, hx, hxm⟩ := at_some hlt'
      have hw := wrap_succ hlt' (by omega)
      have hnext : decide (x.value.str.length ≤ 1000) = true → again I n ⟨23, [(0, .seq 5 (b.map slotV)), (3, iv (i + 1 : Nat))], []⟩ := fun hv => at_again (n - 1) (by omega) (hI _ _ ⟨i + 1, by omega, rfl, fun j y hj hy => by
        by_cases e : j = i
        · subst e; rw [hx] at hy; cases hy; exact hv
        · exact hno j y (by omega) hy⟩)
      have hbad : decide (x.value.str.length ≤ 1000) = false → false = (b.all (fun s => decide (s.value.str.length ≤ 1000)) && bindOk b) := fun hv => by
        symm
        rw [Bool.and_eq_false_iff]
        left
        rw [List.all_eq_false]
        exact ⟨x, hxm, by rw [hv]; simp⟩
      obtain ⟨v1, ⟨k1, n1, s1, t1⟩⟩ := x
      simp only at hnext hbad
      by_cases hs : s1.length ≤ 1000
      · have e1 : decide ((1000 : Int) < (s1.length : Int)) = false := by simp; omega
        have := hnext (by simpa using hs)
        clear hnext hbad
        (try (simp -implicitDefEqProofs only [go_sem, Nat.reduceAdd, Nat.reduceSub, Nat.reduceMul, Nat.reduceLT, Nat.reduceLeDiff, Nat.reduceEqDiff, Nat.reduceBEq, Int.reduceNeg, Int.reduceAdd, Int.reduceLT, Int.reduceLE, Int.reduceToNat, Int.reduceEq, Int.reduceNe, Int.reduceBEq, Int.reduceBNe, Int.reduceMul, Int.reduceSub, reduceIte, reduceCtorEq, aiaddr_map hx, slotV, valV, hw, e1])); repeat' ((first | refine at_guard (fun hb => ?_) (fun hb => ?_) | refine ⟨fun hb => ?_, fun hb => ?_⟩ | fail) <;> (try (simp -implicitDefEqProofs only [go_sem, Nat.reduceAdd, Nat.reduceSub, Nat.reduceMul, Nat.reduceLT, Nat.reduceLeDiff, Nat.reduceEqDiff, Nat.reduceBEq, Int.reduceNeg, Int.reduceAdd, Int.reduceLT, Int.reduceLE, Int.reduceToNat, Int.reduceEq, Int.reduceNe, Int.reduceBEq, Int.reduceBNe, Int.reduceMul, Int.reduceSub, reduceIte, reduceCtorEq, aiaddr_map hx, slotV, valV, hw, e1])))
        exact this
      · have e1 : decide ((1000 : Int) < (s1.length : Int)) = true := by simp; omega
        have := hbad (by simpa using hs)
        clear hnext hbad
        (try (simp -implicitDefEqProofs only [go_sem, Nat.reduceAdd, Nat.reduceSub, Nat.reduceMul, Nat.reduceLT, Nat.reduceLeDiff, Nat.reduceEqDiff, Nat.reduceBEq, Int.reduceNeg, Int.reduceAdd, Int.reduceLT, Int.reduceLE, Int.reduceToNat, Int.reduceEq, Int.reduceNe, Int.reduceBEq, Int.reduceBNe, Int.reduceMul, Int.reduceSub, reduceIte, reduceCtorEq, aiaddr_map hx, slotV, valV, hw, e1])); repeat' ((first | refine at_guard (fun hb => ?_) (fun hb => ?_) | refine ⟨fun hb => ?_, fun hb => ?_⟩ | fail) <;> (try (simp -implicitDefEqProofs only [go_sem, Nat.reduceAdd, Nat.reduceSub, Nat.reduceMul, Nat.reduceLT, Nat.reduceLeDiff, Nat.reduceEqDiff, Nat.reduceBEq, Int.reduceNeg, Int.reduceAdd, Int.reduceLT, Int.reduceLE, Int.reduceToNat, Int.reduceEq, Int.reduceNe, Int.reduceBEq, Int.reduceBNe, Int.reduceMul, Int.reduceSub, reduceIte, reduceCtorEq, aiaddr_map hx, slotV, valV, hw, e1])))
        exact fin _ _ this
    · have hall : b.all (fun s => decide (s.value.str.length ≤ 1000)) = true := by
        rw [List.all_eq_true]
        intro x hx
        obtain ⟨j, hj⟩ := List.getElem?_of_mem hx
        exact hno j x (by have := (List.getElem?_eq_some_iff.1 hj).1; omega) hj
      rw [hall, Bool.true_and] at fin
      simp only [slotsV] at hr
      (try (simp -implicitDefEqProofs only [go_sem, Nat.reduceAdd, Nat.reduceSub, Nat.reduceMul, Nat.reduceLT, Nat.reduceLeDiff, Nat.reduceEqDiff, Nat.reduceBEq, Int.reduceNeg, Int.reduceAdd, Int.reduceLT, Int.reduceLE, Int.reduceToNat, Int.reduceEq, Int.reduceNe, Int.reduceBEq, Int.reduceBNe, Int.reduceMul, Int.reduceSub, reduceIte, reduceCtorEq])); repeat' ((first | refine at_guard (fun hb => ?_) (fun hb => ?_) | refine ⟨fun hb => ?_, fun hb => ?_⟩ | refine at_call (hr) rfl rfl ?_ | fail) <;> (try (simp -implicitDefEqProofs only [go_sem, Nat.reduceAdd, Nat.reduceSub, Nat.reduceMul, Nat.reduceLT, Nat.reduceLeDiff, Nat.reduceEqDiff, Nat.reduceBEq, Int.reduceNeg, Int.reduceAdd, Int.reduceLT, Int.reduceLE, Int.reduceToNat, Int.reduceEq, Int.reduceNe, Int.reduceBEq, Int.reduceBNe, Int.reduceMul, Int.reduceSub, reduceIte, reduceCtorEq])))
      exact fin _ _ rfl
  · have e0 : decide ((8 : Int) < (b.length : Int)) = true := by simp; omega
    rw [decide_eq_false hl, Bool.false_and] at fin
    (try (simp -implicitDefEqProofs only [go_sem, Nat.reduceAdd, Nat.reduceSub, Nat.reduceMul, Nat.reduceLT, Nat.reduceLeDiff, Nat.reduceEqDiff, Nat.reduceBEq, Int.reduceNeg, Int.reduceAdd, Int.reduceLT, Int.reduceLE, Int.reduceToNat, Int.reduceEq, Int.reduceNe, Int.reduceBEq, Int.reduceBNe, Int.reduceMul, Int.reduceSub, reduceIte, reduceCtorEq, slotsV, List.length_map, e0])); repeat' ((first | refine at_guard (fun hb => ?_) (fun hb => ?_) | refine ⟨fun hb => ?_, fun hb => ?_⟩ | fail) <;> (try (simp -implicitDefEqProofs only [go_sem, Nat.reduceAdd, Nat.reduceSub, Nat.reduceMul, Nat.reduceLT, Nat.reduceLeDiff, Nat.reduceEqDiff, Nat.reduceBEq, Int.reduceNeg, Int.reduceAdd, Int.reduceLT, Int.reduceLE, Int.reduceToNat, Int.reduceEq, Int.reduceNe, Int.reduceBEq, Int.reduceBNe, Int.reduceMul, Int.reduceSub, reduceIte, reduceCtorEq, slotsV, List.length_map, e0])))
    exact fin _ _ rfl
theorem key_of {b : List SlotT} (h : smallB b = true) (h64 : ∀ s ∈ b, i64 s.value.int) : ∀ s ∈ b, s.Key := fun s hs => by
  obtain ⟨_, h2, h3⟩ := small_of h
  obtain ⟨g1, g2, g3⟩ := h3.good s hs
  exact ⟨g1, g2, g3, h64 s hs, h2 s hs⟩
end Go.Proofs.Ytjkdpahaingjjaa.Ab
