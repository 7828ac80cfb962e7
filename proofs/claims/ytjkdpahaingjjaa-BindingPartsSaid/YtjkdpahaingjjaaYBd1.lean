/-
  binding, proctorref05: the search for a variable; which bindings are the same, under one, fit. No claim is proved here.
-/
import Derived.Test.YtjkdpahaingjjaaYV5
namespace Go.Proofs.Ytjkdpahaingjjaa.Ab
open Go
set_option linter.unusedSimpArgs false
set_option maxHeartbeats 4000000
set_option maxRecDepth 100000
variable {G : Nat → Option AV}
/-- How far a slot is from a variable. -/
def cmpS (s : SlotT) (v : Int) : Int := IntKind.i64.wrap (s.var - v)
theorem binding_find_1_pc (s : SlotT) (v : Int) : PureC Try.prog G n_binding_find_1 [slotV s, iv v] (iv (cmpS s v)) := by
  refine pc_binding_find_1 (Runs.of fun Φ h => ?_)
  unfold c_binding_find_1
  unfold cmpS at h
  obtain ⟨x, y⟩ := s
  (try (simp -implicitDefEqProofs only [go_sem, Nat.reduceAdd, Nat.reduceSub, Nat.reduceMul, Nat.reduceLT, Nat.reduceLeDiff, Nat.reduceEqDiff, Nat.reduceBEq, Int.reduceNeg, Int.reduceAdd, Int.reduceLT, Int.reduceLE, Int.reduceToNat, Int.reduceEq, Int.reduceNe, Int.reduceBEq, Int.reduceBNe, Int.reduceMul, Int.reduceSub, reduceIte, reduceCtorEq, slotV])); repeat' ((first | refine at_guard (fun hb => ?_) (fun hb => ?_) | refine ⟨fun hb => ?_, fun hb => ?_⟩ | fail) <;> (try (simp -implicitDefEqProofs only [go_sem, Nat.reduceAdd, Nat.reduceSub, Nat.reduceMul, Nat.reduceLT, Nat.reduceLeDiff, Nat.reduceEqDiff, Nat.reduceBEq, Int.reduceNeg, Int.reduceAdd, Int.reduceLT, Int.reduceLE, Int.reduceToNat, Int.reduceEq, Int.reduceNe, Int.reduceBEq, Int.reduceBNe, Int.reduceMul, Int.reduceSub, reduceIte, reduceCtorEq, slotV])))
  exact h _ ⟨_, _, rfl, rfl, .refl _⟩
/-- The place that the search comes to. -/
def bsGo (p : SlotT → Bool) (l : List SlotT) : Nat → Nat → Nat → Nat
  | 0, i, _ => i
  | k + 1, i, j => if i < j then (match l[(i + j) / 2]? with | some x => if p x then bsGo p l k ((i + j) / 2 + 1) j else bsGo p l k i ((i + j) / 2) | none => i) else i
def ltS (v : Int) (s : SlotT) : Bool := decide (cmpS s v < 0)
def findI (l : List SlotT) (v : Int) : Nat := bsGo (ltS v) l l.length 0 l.length
def findB (l : List SlotT) (v : Int) : Bool := match l[findI l v]? with | some x => cmpS x v == 0 | none => false
theorem bsGo_end {p : SlotT → Bool} {l : List SlotT} {k i j : Nat} (h : ¬ i < j) : bsGo p l k i j = i := by
  cases k with
  | zero => rfl
  | succ k => rw [bsGo, if_neg h]
theorem bsGo_step {p : SlotT → Bool} {l : List SlotT} {k i j : Nat} {x : SlotT} (h : i < j) (hx : l[(i + j) / 2]? = some x) : bsGo p l (k + 1) i j = if p x then bsGo p l k ((i + j) / 2 + 1) j else bsGo p l k i ((i + j) / 2) := by
  rw [bsGo, if_pos h, hx]
theorem half_i64 {i j : Nat} (h : i + j < 9223372036854775807) : IntKind.i64.wrap (bShr .u64 (IntKind.u64.wrap ((i + j : Nat) : Int)) 1) = (((i + j) / 2 : Nat) : Int) := by
  have e : IntKind.u64.wrap ((i + j : Nat) : Int) = ((i + j : Nat) : Int) := by
    simp [IntKind.wrap, IntKind.bits, IntKind.signed]
    omega
  rw [e]
  have : bShr .u64 ((i + j : Nat) : Int) 1 = (((i + j) / 2 : Nat) : Int) := by
    unfold bShr
    rw [show min (1 : Int).toNat (IntKind.bits .u64) = 1 by simp [IntKind.bits], Int.fdiv_eq_ediv_of_nonneg _ (Int.pow_nonneg (by decide))]
    simp
  rw [this, wrap_i64 (by omega) (by omega)]
theorem BinarySearch_pc (l : List SlotT) (v : Int) (hl : l.length ≤ 1000000) : PureC Try.prog G n_slices_BinarySearchFunc_api_Slot_api_Slot_int [.seq 5 (l.map slotV), iv v, .fn n_binding_find_1 []] (.tup [iv (findI l v), .bool (findB l v)]) := by
  have hf : bodyB Try.prog n_binding_find_1 = true := by kernel_rfl
  refine pc_slices_BinarySearchFunc_api_Slot_api_Slot_int (Runs.of fun Φ h => ?_)
  unfold c_slices_BinarySearchFunc_api_Slot_api_Slot_int
  unfold findB at h
  generalize hR : findI l v = R at *
  unfold findI at hR
  simp -implicitDefEqProofs only [go_sem, Nat.reduceAdd, Nat.reduceSub, Nat.reduceMul, Nat.reduceLT, Nat.reduceLeDiff, Nat.reduceEqDiff, Nat.reduceBEq, Int.reduceNeg, Int.reduceAdd, Int.reduceLT, Int.reduceLE, Int.reduceToNat, Int.reduceEq, Int.reduceNe, Int.reduceBEq, Int.reduceBNe, Int.reduceMul, Int.reduceSub, reduceIte, reduceCtorEq, List.length_map]
  refine at_loop (fun n st => ∃ i j : Nat, st = ⟨49, [(0, .seq 5 (l.map slotV)), (1, iv v), (2, .fn n_binding_find_1 []), (8, iv l.length), (9, iv i), (10, iv j)], []⟩ ∧ i ≤ j ∧ j ≤ l.length ∧ j - i ≤ n ∧ bsGo (ltS v) l n i j = R) l.length ⟨0, l.length, rfl, by omega, by omega, by omega, hR⟩ ?_
  rintro I hI n st ⟨i, j, rfl, hij, hjl, hn, hgo⟩
  have w0 : IntKind.i64.wrap ((i : Int) + (j : Int)) = ((i + j : Nat) : Int) := by rw [wrap_i64 (by omega) (by omega)]; omega
  have hh := half_i64 (i := i) (j := j) (by omega)
  simp -implicitDefEqProofs only [go_sem, Nat.reduceAdd, Nat.reduceSub, Nat.reduceMul, Nat.reduceLT, Nat.reduceLeDiff, Nat.reduceEqDiff, Nat.reduceBEq, Int.reduceNeg, Int.reduceAdd, Int.reduceLT, Int.reduceLE, Int.reduceToNat, Int.reduceEq, Int.reduceNe, Int.reduceBEq, Int.reduceBNe, Int.reduceMul, Int.reduceSub, reduceIte, reduceCtorEq]
  refine ⟨fun hlt => ?_, fun hge => ?_⟩
  · have hlt' : i < j := by omega
    obtain ⟨x, hx, _⟩ := at_some (l := l) (i := (i + j) / 2) (by omega)
    have hw := wrap_succ (i := (i + j) / 2) (n := l.length) (by omega) (by omega)
    have hc := binding_find_1_pc (G := G) x v
    obtain ⟨n, rfl⟩ : ∃ m, n = m + 1 := ⟨n - 1, by omega⟩
    rw [bsGo_step hlt' hx] at hgo
    rw [show ltS v x = decide (cmpS x v < 0) from rfl] at hgo
    generalize cmpS x v = z at *
    obtain ⟨a, b⟩ := x
    simp only [slotV] at hc
    by_cases hz : z < 0
    · have e : (z < 0) = True := by simp [hz]
      rw [decide_eq_true hz, if_pos rfl] at hgo
      (try (simp -implicitDefEqProofs only [go_sem, Nat.reduceAdd, Nat.reduceSub, Nat.reduceMul, Nat.reduceLT, Nat.reduceLeDiff, Nat.reduceEqDiff, Nat.reduceBEq, Int.reduceNeg, Int.reduceAdd, Int.reduceLT, Int.reduceLE, Int.reduceToNat, Int.reduceEq, Int.reduceNe, Int.reduceBEq, Int.reduceBNe, Int.reduceMul, Int.reduceSub, reduceIte, reduceCtorEq, w0, hh, hw, aiaddr_map hx, slotV, e, decide_true])); repeat' ((first | refine at_guard (fun hb => ?_) (fun hb => ?_) | refine ⟨fun hb => ?_, fun hb => ?_⟩ | (refine ⟨hf, at_call hc rfl rfl ?_⟩) | fail) <;> (try (simp -implicitDefEqProofs only [go_sem, Nat.reduceAdd, Nat.reduceSub, Nat.reduceMul, Nat.reduceLT, Nat.reduceLeDiff, Nat.reduceEqDiff, Nat.reduceBEq, Int.reduceNeg, Int.reduceAdd, Int.reduceLT, Int.reduceLE, Int.reduceToNat, Int.reduceEq, Int.reduceNe, Int.reduceBEq, Int.reduceBNe, Int.reduceMul, Int.reduceSub, reduceIte, reduceCtorEq, w0, hh, hw, aiaddr_map hx, slotV, e, decide_true])))
      exact at_again n (by omega) (hI _ _ ⟨(i + j) / 2 + 1, j, rfl, by omega, hjl, by omega, hgo⟩)
    · have e : (z < 0) = False := by simp [hz]
      rw [decide_eq_false hz, if_neg (by simp)] at hgo
      (try (simp -implicitDefEqProofs only [go_sem, Nat.reduceAdd, Nat.reduceSub, Nat.reduceMul, Nat.reduceLT, Nat.reduceLeDiff, Nat.reduceEqDiff, Nat.reduceBEq, Int.reduceNeg, Int.reduceAdd, Int.reduceLT, Int.reduceLE, Int.reduceToNat, Int.reduceEq, Int.reduceNe, Int.reduceBEq, Int.reduceBNe, Int.reduceMul, Int.reduceSub, reduceIte, reduceCtorEq, w0, hh, hw, aiaddr_map hx, slotV, e, decide_false])); repeat' ((first | refine at_guard (fun hb => ?_) (fun hb => ?_) | refine ⟨fun hb => ?_, fun hb => ?_⟩ | (refine ⟨hf, at_call hc rfl rfl ?_⟩) | fail) <;> (try (simp -implicitDefEqProofs only [go_sem, Nat.reduceAdd, Nat.reduceSub, Nat.reduceMul, Nat.reduceLT, Nat.reduceLeDiff, Nat.reduceEqDiff, Nat.reduceBEq, Int.reduceNeg, Int.reduceAdd, Int.reduceLT, Int.reduceLE, Int.reduceToNat, Int.reduceEq, Int.reduceNe, Int.reduceBEq, Int.reduceBNe, Int.reduceMul, Int.reduceSub, reduceIte, reduceCtorEq, w0, hh, hw, aiaddr_map hx, slotV, e, decide_false])))
      exact at_again n (by omega) (hI _ _ ⟨i, (i + j) / 2, rfl, by omega, by omega, by omega, hgo⟩)
  · rw [bsGo_end (by omega)] at hgo
    subst hgo
    clear hR
    by_cases hil : i < l.length
    · obtain ⟨x, hx, _⟩ := at_some hil
      have hc := binding_find_1_pc (G := G) x v
      rw [hx] at h
      simp only at h
      generalize cmpS x v = z at *
      obtain ⟨a, b⟩ := x
      simp only [slotV] at hc
      have e : ((i : Int) < l.length) = True := by simp; omega
      (try (simp -implicitDefEqProofs only [go_sem, Nat.reduceAdd, Nat.reduceSub, Nat.reduceMul, Nat.reduceLT, Nat.reduceLeDiff, Nat.reduceEqDiff, Nat.reduceBEq, Int.reduceNeg, Int.reduceAdd, Int.reduceLT, Int.reduceLE, Int.reduceToNat, Int.reduceEq, Int.reduceNe, Int.reduceBEq, Int.reduceBNe, Int.reduceMul, Int.reduceSub, reduceIte, reduceCtorEq, aiaddr_map hx, slotV, e, decide_true])); repeat' ((first | refine at_guard (fun hb => ?_) (fun hb => ?_) | refine ⟨fun hb => ?_, fun hb => ?_⟩ | (refine ⟨hf, at_call hc rfl rfl ?_⟩) | fail) <;> (try (simp -implicitDefEqProofs only [go_sem, Nat.reduceAdd, Nat.reduceSub, Nat.reduceMul, Nat.reduceLT, Nat.reduceLeDiff, Nat.reduceEqDiff, Nat.reduceBEq, Int.reduceNeg, Int.reduceAdd, Int.reduceLT, Int.reduceLE, Int.reduceToNat, Int.reduceEq, Int.reduceNe, Int.reduceBEq, Int.reduceBNe, Int.reduceMul, Int.reduceSub, reduceIte, reduceCtorEq, aiaddr_map hx, slotV, e, decide_true])))
      exact h _ ⟨_, _, rfl, rfl, .refl _⟩
    · rw [List.getElem?_eq_none (by omega)] at h
      simp only at h
      have e : ((i : Int) < l.length) = False := by simp; omega
      (try (simp -implicitDefEqProofs only [go_sem, Nat.reduceAdd, Nat.reduceSub, Nat.reduceMul, Nat.reduceLT, Nat.reduceLeDiff, Nat.reduceEqDiff, Nat.reduceBEq, Int.reduceNeg, Int.reduceAdd, Int.reduceLT, Int.reduceLE, Int.reduceToNat, Int.reduceEq, Int.reduceNe, Int.reduceBEq, Int.reduceBNe, Int.reduceMul, Int.reduceSub, reduceIte, reduceCtorEq, e, decide_false])); repeat' ((first | refine at_guard (fun hb => ?_) (fun hb => ?_) | refine ⟨fun hb => ?_, fun hb => ?_⟩ | fail) <;> (try (simp -implicitDefEqProofs only [go_sem, Nat.reduceAdd, Nat.reduceSub, Nat.reduceMul, Nat.reduceLT, Nat.reduceLeDiff, Nat.reduceEqDiff, Nat.reduceBEq, Int.reduceNeg, Int.reduceAdd, Int.reduceLT, Int.reduceLE, Int.reduceToNat, Int.reduceEq, Int.reduceNe, Int.reduceBEq, Int.reduceBNe, Int.reduceMul, Int.reduceSub, reduceIte, reduceCtorEq, e, decide_false])))
      exact h _ ⟨_, _, rfl, rfl, .refl _⟩
theorem binding_find_pc (l : List SlotT) (v : Int) (hl : l.length ≤ 1000000) : PureC Try.prog G n_binding_find [slotsV l, iv v] (.tup [iv (findI l v), .bool (findB l v)]) := by
  have hc := BinarySearch_pc (G := G) l v hl
  refine pc_binding_find (Runs.of fun Φ h => ?_)
  unfold c_binding_find
  generalize (findI l v : Int) = i at *
  generalize findB l v = b at *
  (try (simp -implicitDefEqProofs only [go_sem, Nat.reduceAdd, Nat.reduceSub, Nat.reduceMul, Nat.reduceLT, Nat.reduceLeDiff, Nat.reduceEqDiff, Nat.reduceBEq, Int.reduceNeg, Int.reduceAdd, Int.reduceLT, Int.reduceLE, Int.reduceToNat, Int.reduceEq, Int.reduceNe, Int.reduceBEq, Int.reduceBNe, Int.reduceMul, Int.reduceSub, reduceIte, reduceCtorEq, slotsV])); repeat' ((first | refine at_guard (fun hb => ?_) (fun hb => ?_) | refine ⟨fun hb => ?_, fun hb => ?_⟩ | refine at_call (hc) rfl rfl ?_ | fail) <;> (try (simp -implicitDefEqProofs only [go_sem, Nat.reduceAdd, Nat.reduceSub, Nat.reduceMul, Nat.reduceLT, Nat.reduceLeDiff, Nat.reduceEqDiff, Nat.reduceBEq, Int.reduceNeg, Int.reduceAdd, Int.reduceLT, Int.reduceLE, Int.reduceToNat, Int.reduceEq, Int.reduceNe, Int.reduceBEq, Int.reduceBNe, Int.reduceMul, Int.reduceSub, reduceIte, reduceCtorEq, slotsV])))
  exact h _ ⟨_, _, rfl, rfl, .refl _⟩
theorem slot_beq (a b a1 b1 : Int) (n m : Int) (s t : Str) (p q : Bool) : ((⟨a, ⟨a1, n, s, p⟩⟩ : SlotT) == ⟨b, ⟨b1, m, t, q⟩⟩) = (a == b && (a1 == b1 && (n == m && (s == t && p == q)))) := by
  rw [Bool.eq_iff_iff]
  simp
theorem list_eq_of {α : Type} {a b : List α} {i : Nat} (h1 : a.length ≤ i) (h2 : b.length ≤ i) (h : ∀ j, j < i → a[j]? = b[j]?) : a = b := by
  apply List.ext_getElem?
  intro j
  by_cases hj : j < i
  · exact h j hj
  · rw [List.getElem?_eq_none (by omega), List.getElem?_eq_none (by omega)]
theorem ref05_Same_pc (a b : List SlotT) (ha : a.length < 9223372036854775807) (hb : b.length < 9223372036854775807) : PureC Try.prog G n_proctorref05_Same [slotsV a, slotsV b] (.bool (decide (a = b))) := by
  refine pc_proctorref05_Same (Runs.of fun Φ h => ?_)
  unfold c_proctorref05_Same
  have fin : ∀ β, β = decide (a = b) → Φ ⟨26, [(4, .bool β)], []⟩ := fun β e => h _ ⟨_, _, rfl, rfl, fitB e⟩
  clear h
  by_cases hl : a.length = b.length
  · have e0 : ((a.length : Int) != (b.length : Int)) = false := by simp [hl]
    simp -implicitDefEqProofs only [go_sem, Nat.reduceAdd, Nat.reduceSub, Nat.reduceMul, Nat.reduceLT, Nat.reduceLeDiff, Nat.reduceEqDiff, Nat.reduceBEq, Int.reduceNeg, Int.reduceAdd, Int.reduceLT, Int.reduceLE, Int.reduceToNat, Int.reduceEq, Int.reduceNe, Int.reduceBEq, Int.reduceBNe, Int.reduceMul, Int.reduceSub, reduceIte, reduceCtorEq, slotsV, List.length_map, e0]
    refine at_loop (fun n st => ∃ i : Nat, i + n = a.length ∧ st = ⟨26, [(0, .seq 5 (a.map slotV)), (1, .seq 5 (b.map slotV)), (5, iv i)], []⟩ ∧ ∀ j, j < i → a[j]? = b[j]?) a.length ⟨0, by simp, rfl, fun j hj => by omega⟩ ?_
    rintro I hI n st ⟨i, hi, rfl, hno⟩
    simp -implicitDefEqProofs only [go_sem, Nat.reduceAdd, Nat.reduceSub, Nat.reduceMul, Nat.reduceLT, Nat.reduceLeDiff, Nat.reduceEqDiff, Nat.reduceBEq, Int.reduceNeg, Int.reduceAdd, Int.reduceLT, Int.reduceLE, Int.reduceToNat, Int.reduceEq, Int.reduceNe, Int.reduceBEq, Int.reduceBNe, Int.reduceMul, Int.reduceSub, reduceIte, reduceCtorEq, List.length_map]
    refine ⟨fun hlt => ?_, fun hge => ?_⟩
    · have hlt' : i < a.length := by omega
      obtain ⟨x, hx, _⟩ := at_some hlt'
      obtain ⟨y, hy, _⟩ := at_some (l := b) (i := i) (by omega)
      have hw := wrap_succ hlt' (by omega)
      have hnext : x = y → again I n ⟨26, [(0, .seq 5 (a.map slotV)), (1, .seq 5 (b.map slotV)), (5, iv (i + 1 : Nat))], []⟩ := fun hv' => at_again (n - 1) (by omega) (hI _ _ ⟨i + 1, by omega, rfl, fun j hj => by
        by_cases e : j = i
        · subst e; rw [hx, hy, hv']
        · exact hno j (by omega)⟩)
      have hbad : ¬ x = y → false = decide (a = b) := fun hv' => by
        symm
        rw [decide_eq_false_iff_not]
        rintro rfl
        rw [hx] at hy
        cases hy
        exact hv' rfl
      obtain ⟨v, k, n1, s, t⟩ := x
      obtain ⟨v', k', n', s', t'⟩ := y
      have hxy := slot_beq v v' k k' n1 n' s s' t t'
      cases hE : ((⟨v, ⟨k, n1, s, t⟩⟩ : SlotT) == ⟨v', ⟨k', n', s', t'⟩⟩) with
      | true =>
        rw [hE] at hxy
        have := hnext (eq_of_beq hE)
        (try (simp -implicitDefEqProofs only [go_sem, Nat.reduceAdd, Nat.reduceSub, Nat.reduceMul, Nat.reduceLT, Nat.reduceLeDiff, Nat.reduceEqDiff, Nat.reduceBEq, Int.reduceNeg, Int.reduceAdd, Int.reduceLT, Int.reduceLE, Int.reduceToNat, Int.reduceEq, Int.reduceNe, Int.reduceBEq, Int.reduceBNe, Int.reduceMul, Int.reduceSub, reduceIte, reduceCtorEq, aiaddr_map hx, aiaddr_map hy, slotV, hw, aeqA, aeqs, leafEq, andO, Bool.and_true, ← hxy, Bool.not_true])); repeat' ((first | refine at_guard (fun hb => ?_) (fun hb => ?_) | refine ⟨fun hb => ?_, fun hb => ?_⟩ | fail) <;> (try (simp -implicitDefEqProofs only [go_sem, Nat.reduceAdd, Nat.reduceSub, Nat.reduceMul, Nat.reduceLT, Nat.reduceLeDiff, Nat.reduceEqDiff, Nat.reduceBEq, Int.reduceNeg, Int.reduceAdd, Int.reduceLT, Int.reduceLE, Int.reduceToNat, Int.reduceEq, Int.reduceNe, Int.reduceBEq, Int.reduceBNe, Int.reduceMul, Int.reduceSub, reduceIte, reduceCtorEq, aiaddr_map hx, aiaddr_map hy, slotV, hw, aeqA, aeqs, leafEq, andO, Bool.and_true, ← hxy, Bool.not_true])))
        exact this
      | false =>
        rw [hE] at hxy
        have := fin _ (hbad fun e => by rw [e] at hE; simp at hE)
        (try (simp -implicitDefEqProofs only [go_sem, Nat.reduceAdd, Nat.reduceSub, Nat.reduceMul, Nat.reduceLT, Nat.reduceLeDiff, Nat.reduceEqDiff, Nat.reduceBEq, Int.reduceNeg, Int.reduceAdd, Int.reduceLT, Int.reduceLE, Int.reduceToNat, Int.reduceEq, Int.reduceNe, Int.reduceBEq, Int.reduceBNe, Int.reduceMul, Int.reduceSub, reduceIte, reduceCtorEq, aiaddr_map hx, aiaddr_map hy, slotV, hw, aeqA, aeqs, leafEq, andO, Bool.and_true, ← hxy, Bool.not_false])); repeat' ((first | refine at_guard (fun hb => ?_) (fun hb => ?_) | refine ⟨fun hb => ?_, fun hb => ?_⟩ | fail) <;> (try (simp -implicitDefEqProofs only [go_sem, Nat.reduceAdd, Nat.reduceSub, Nat.reduceMul, Nat.reduceLT, Nat.reduceLeDiff, Nat.reduceEqDiff, Nat.reduceBEq, Int.reduceNeg, Int.reduceAdd, Int.reduceLT, Int.reduceLE, Int.reduceToNat, Int.reduceEq, Int.reduceNe, Int.reduceBEq, Int.reduceBNe, Int.reduceMul, Int.reduceSub, reduceIte, reduceCtorEq, aiaddr_map hx, aiaddr_map hy, slotV, hw, aeqA, aeqs, leafEq, andO, Bool.and_true, ← hxy, Bool.not_false])))
        exact this
    · refine fin _ ?_
      symm
      rw [decide_eq_true_eq]
      exact list_eq_of (by omega) (by omega) hno
  · have e0 : ((a.length : Int) != (b.length : Int)) = true := by simp; omega
    (try (simp -implicitDefEqProofs only [go_sem, Nat.reduceAdd, Nat.reduceSub, Nat.reduceMul, Nat.reduceLT, Nat.reduceLeDiff, Nat.reduceEqDiff, Nat.reduceBEq, Int.reduceNeg, Int.reduceAdd, Int.reduceLT, Int.reduceLE, Int.reduceToNat, Int.reduceEq, Int.reduceNe, Int.reduceBEq, Int.reduceBNe, Int.reduceMul, Int.reduceSub, reduceIte, reduceCtorEq, slotsV, List.length_map, e0])); repeat' ((first | refine at_guard (fun hb => ?_) (fun hb => ?_) | refine ⟨fun hb => ?_, fun hb => ?_⟩ | fail) <;> (try (simp -implicitDefEqProofs only [go_sem, Nat.reduceAdd, Nat.reduceSub, Nat.reduceMul, Nat.reduceLT, Nat.reduceLeDiff, Nat.reduceEqDiff, Nat.reduceBEq, Int.reduceNeg, Int.reduceAdd, Int.reduceLT, Int.reduceLE, Int.reduceToNat, Int.reduceEq, Int.reduceNe, Int.reduceBEq, Int.reduceBNe, Int.reduceMul, Int.reduceSub, reduceIte, reduceCtorEq, slotsV, List.length_map, e0])))
    exact fin _ (by symm; rw [decide_eq_false_iff_not]; rintro rfl; exact hl rfl)
end Go.Proofs.Ytjkdpahaingjjaa.Ab
