/-
  binding.Of. No claim is proved here.
-/
import Derived.Test.YtjkdpahaingjjaaYIn3
import Derived.Test.YtjkdpahaingjjaaYIn6
namespace Go.Proofs.Ytjkdpahaingjjaa.Ab
open Go
set_option linter.unusedSimpArgs false
set_option maxHeartbeats 4000000
set_option maxRecDepth 100000
variable {G : Nat → Option AV}
def ofStep (m : List SlotT) (s : SlotT) : Option (List SlotT) :=
  if findB m s.var then (match m[findI m s.var]? with | some x => if x = s then some m else none | none => none) else some (insR m (findI m s.var) s)
def ofGo : List SlotT → List SlotT → Option (List SlotT)
  | m, [] => some m
  | m, s :: l => match ofStep m s with | some m' => ofGo m' l | none => none
def ofB (l : List SlotT) : Option (List SlotT) := match ofGo [] l with | some m => if bindOk m then some m else none | none => none
def ofV (o : Option (List SlotT)) : AV := .tup [slotsV (o.getD []), .bool o.isSome]
theorem bsGo_le {p : SlotT → Bool} {l : List SlotT} : ∀ {k i j : Nat}, i ≤ j → bsGo p l k i j ≤ j
  | 0, i, j, h => h
  | k + 1, i, j, h => by
    rw [bsGo]
    split
    · split
      · split
        · exact bsGo_le (by omega)
        · exact Nat.le_trans (bsGo_le (by omega)) (by omega)
      · omega
    · exact h
theorem findI_le (l : List SlotT) (v : Int) : findI l v ≤ l.length := bsGo_le (Nat.zero_le _)
theorem viewC_arr {H : List (Nat × Box)} {i ty : Nat} {m : List SlotT} {r : AV} {rest : List AV} (hf : flat r = true) (hr : ∀ H, viewBs H rest = some rest) (hH : hget H i = some ⟨true, ty, 5, m.map slotV⟩) :
    viewC r H (.arr i 0 m.length :: rest) = some (.seq 5 (m.map slotV) :: rest) := by
  have h1 : viewB 6 H (.arr i 0 m.length) = some (.seq 5 (m.map slotV)) := by
    simp [viewB, viewK, hH]
    exact List.take_of_length_le (by simp)
  unfold viewC
  rw [if_pos hf]
  simp only [viewBs, h1, hr]
theorem view_pair {H : List (Nat × Box)} {x a : AV} {b : Bool} (h : view H x = some a) : view H (.tup [x, .bool b]) = some (.tup [a, .bool b]) := by
  simp [view, view.go, h]
theorem binding_Of_pc (l : List SlotT) (hl : l.length ≤ 1000) : PureC Try.prog G n_binding_Of [slotsV l] (ofV (ofB l)) := by
  refine pc_binding_Of (Runs.of fun Φ h => ?_)
  unfold c_binding_Of
  simp -implicitDefEqProofs only [go_sem, Nat.reduceAdd, Nat.reduceSub, Nat.reduceMul, Nat.reduceLT, Nat.reduceLeDiff, Nat.reduceEqDiff, Nat.reduceBEq, Int.reduceNeg, Int.reduceAdd, Int.reduceLT, Int.reduceLE, Int.reduceToNat, Int.reduceEq, Int.reduceNe, Int.reduceBEq, Int.reduceBNe, Int.reduceMul, Int.reduceSub, reduceIte, reduceCtorEq, slotsV, List.length_map]
  refine at_loop (fun n st => ∃ (i : Nat) (m : List SlotT), i + n = l.length ∧ st = ⟨42, [(4, .arr 4 0 m.length), (9, .seq 5 (l.map slotV)), (10, iv l.length), (11, iv i)], [(2, ⟨true, t_api_Slot, 5, []⟩), (4, ⟨true, t_api_Slot, 5, m.map slotV⟩)]⟩ ∧ m.length ≤ i ∧ ofGo m (l.drop i) = ofGo [] l) l.length ⟨0, [], by simp, rfl, by simp, rfl⟩ ?_
  rintro I hI n st ⟨i, m, hi, rfl, hml, hgo⟩
  simp -implicitDefEqProofs only [go_sem, Nat.reduceAdd, Nat.reduceSub, Nat.reduceMul, Nat.reduceLT, Nat.reduceLeDiff, Nat.reduceEqDiff, Nat.reduceBEq, Int.reduceNeg, Int.reduceAdd, Int.reduceLT, Int.reduceLE, Int.reduceToNat, Int.reduceEq, Int.reduceNe, Int.reduceBEq, Int.reduceBNe, Int.reduceMul, Int.reduceSub, reduceIte, reduceCtorEq]
  refine ⟨fun hlt => ?_, fun hge => ?_⟩
  · have hlt' : i < l.length := by omega
    obtain ⟨x, hx, _⟩ := at_some hlt'
    have hw := wrap_succ hlt' (by omega)
    rw [drop_at hx, ofGo] at hgo
    have h1 := binding_find_pc (G := G) m x.var (by omega)
    have hvw : ∀ H, hget H 4 = some ⟨true, t_api_Slot, 5, m.map slotV⟩ → viewC (.tup [iv (findI m x.var), .bool (findB m x.var)]) H [.arr 4 0 m.length, iv x.var] = some [slotsV m, iv x.var] := fun H hH => viewC_arr rfl (fun _ => rfl) hH
    have hle := findI_le m x.var
    unfold ofStep at hgo
    have hky : findB m x.var = true → ∃ y, m[findI m x.var]? = some y := fun h => by
      unfold findB at h
      split at h
      · exact ⟨_, ‹_›⟩
      · cases h
    have hin := insert_hc (G := G) m (findI m x.var) x hle (by omega)
    have hil := insR_len x hle
    generalize findI m x.var = k at *
    obtain ⟨v, ⟨kd, nn, ss, tt⟩⟩ := x
    cases hb : findB m v with
    | false =>
      simp only [hb, Bool.false_eq_true, if_false] at hgo h1 hvw
      simp only [slotV] at hin
      (try (simp -implicitDefEqProofs only [go_sem, Nat.reduceAdd, Nat.reduceSub, Nat.reduceMul, Nat.reduceLT, Nat.reduceLeDiff, Nat.reduceEqDiff, Nat.reduceBEq, Int.reduceNeg, Int.reduceAdd, Int.reduceLT, Int.reduceLE, Int.reduceToNat, Int.reduceEq, Int.reduceNe, Int.reduceBEq, Int.reduceBNe, Int.reduceMul, Int.reduceSub, reduceIte, reduceCtorEq, aiaddr_map hx, slotV, hw, List.length_map])); repeat' ((first | refine at_guard (fun hb => ?_) (fun hb => ?_) | refine ⟨fun hb => ?_, fun hb => ?_⟩ | (refine at_call h1 (hvw _ rfl) rfl ?_) | (refine at_callH [(1000, 4), (1001, 28)] hin rfl ⟨⟨_, _, rfl, rfl, rfl⟩, ⟨_, _, rfl, rfl, rfl⟩, trivial⟩ rfl rfl rfl ?_) | fail) <;> (try (simp -implicitDefEqProofs only [go_sem, Nat.reduceAdd, Nat.reduceSub, Nat.reduceMul, Nat.reduceLT, Nat.reduceLeDiff, Nat.reduceEqDiff, Nat.reduceBEq, Int.reduceNeg, Int.reduceAdd, Int.reduceLT, Int.reduceLE, Int.reduceToNat, Int.reduceEq, Int.reduceNe, Int.reduceBEq, Int.reduceBNe, Int.reduceMul, Int.reduceSub, reduceIte, reduceCtorEq, aiaddr_map hx, slotV, hw, List.length_map])))
      refine at_again (n - 1) (by omega) (hI _ _ ⟨i + 1, insR m k ⟨v, ⟨kd, nn, ss, tt⟩⟩, by omega, by rw [hil], by rw [hil]; omega, hgo⟩)
    | true =>
      obtain ⟨y, hy⟩ := hky hb
      simp only [hb, if_true, hy] at hgo h1 hvw
      have hkl := (List.getElem?_eq_some_iff.1 hy).1
      have q2 : (m.map slotV)[k]? = some (slotV y) := by simp [hy]
      obtain ⟨v', ⟨kd', nn', ss', tt'⟩⟩ := y
      simp only [slotV] at q2
      have hxy := slot_beq v' v kd' kd nn' nn ss' ss tt' tt
      cases hE : ((⟨v', ⟨kd', nn', ss', tt'⟩⟩ : SlotT) == ⟨v, ⟨kd, nn, ss, tt⟩⟩) with
      | true =>
        rw [hE] at hxy
        rw [if_pos (eq_of_beq hE)] at hgo
        (try (simp -implicitDefEqProofs only [go_sem, Nat.reduceAdd, Nat.reduceSub, Nat.reduceMul, Nat.reduceLT, Nat.reduceLeDiff, Nat.reduceEqDiff, Nat.reduceBEq, Int.reduceNeg, Int.reduceAdd, Int.reduceLT, Int.reduceLE, Int.reduceToNat, Int.reduceEq, Int.reduceNe, Int.reduceBEq, Int.reduceBNe, Int.reduceMul, Int.reduceSub, reduceIte, reduceCtorEq, aiaddr_map hx, slotV, hw, List.length_map, aiaddr_arr hkl, q2, aeqA, aeqs, leafEq, andO, Bool.and_true, ← hxy, Bool.not_true])); repeat' ((first | refine at_guard (fun hb => ?_) (fun hb => ?_) | refine ⟨fun hb => ?_, fun hb => ?_⟩ | (refine at_call h1 (hvw _ rfl) rfl ?_) | fail) <;> (try (simp -implicitDefEqProofs only [go_sem, Nat.reduceAdd, Nat.reduceSub, Nat.reduceMul, Nat.reduceLT, Nat.reduceLeDiff, Nat.reduceEqDiff, Nat.reduceBEq, Int.reduceNeg, Int.reduceAdd, Int.reduceLT, Int.reduceLE, Int.reduceToNat, Int.reduceEq, Int.reduceNe, Int.reduceBEq, Int.reduceBNe, Int.reduceMul, Int.reduceSub, reduceIte, reduceCtorEq, aiaddr_map hx, slotV, hw, List.length_map, aiaddr_arr hkl, q2, aeqA, aeqs, leafEq, andO, Bool.and_true, ← hxy, Bool.not_true])))
        exact at_again (n - 1) (by omega) (hI _ _ ⟨i + 1, m, by omega, rfl, by omega, hgo⟩)
      | false =>
        rw [hE] at hxy
        rw [if_neg fun e => by rw [e] at hE; simp at hE] at hgo
        (try (simp -implicitDefEqProofs only [go_sem, Nat.reduceAdd, Nat.reduceSub, Nat.reduceMul, Nat.reduceLT, Nat.reduceLeDiff, Nat.reduceEqDiff, Nat.reduceBEq, Int.reduceNeg, Int.reduceAdd, Int.reduceLT, Int.reduceLE, Int.reduceToNat, Int.reduceEq, Int.reduceNe, Int.reduceBEq, Int.reduceBNe, Int.reduceMul, Int.reduceSub, reduceIte, reduceCtorEq, aiaddr_map hx, slotV, hw, List.length_map, aiaddr_arr hkl, q2, aeqA, aeqs, leafEq, andO, Bool.and_true, ← hxy, Bool.not_false])); repeat' ((first | refine at_guard (fun hb => ?_) (fun hb => ?_) | refine ⟨fun hb => ?_, fun hb => ?_⟩ | (refine at_call h1 (hvw _ rfl) rfl ?_) | fail) <;> (try (simp -implicitDefEqProofs only [go_sem, Nat.reduceAdd, Nat.reduceSub, Nat.reduceMul, Nat.reduceLT, Nat.reduceLeDiff, Nat.reduceEqDiff, Nat.reduceBEq, Int.reduceNeg, Int.reduceAdd, Int.reduceLT, Int.reduceLE, Int.reduceToNat, Int.reduceEq, Int.reduceNe, Int.reduceBEq, Int.reduceBNe, Int.reduceMul, Int.reduceSub, reduceIte, reduceCtorEq, aiaddr_map hx, slotV, hw, List.length_map, aiaddr_arr hkl, q2, aeqA, aeqs, leafEq, andO, Bool.and_true, ← hxy, Bool.not_false])))
        have hnn : ofB l = none := by unfold ofB; rw [← hgo]
        rw [hnn] at h
        exact h _ ⟨_, _, rfl, rfl, .refl _⟩
  · have hd : l.drop i = [] := List.drop_of_length_le (by omega)
    rw [hd, ofGo] at hgo
    unfold ofB at h
    rw [← hgo] at h
    simp only at h
    have h1 := binding_Right_pc (G := G) m (by omega)
    have hvw : ∀ H, hget H 4 = some ⟨true, t_api_Slot, 5, m.map slotV⟩ → viewC (.bool (bindOk m)) H [.arr 4 0 m.length] = some [slotsV m] := fun H hH => viewC_arr rfl (fun _ => rfl) hH
    cases hb : bindOk m with
    | false =>
      rw [hb] at h h1 hvw
      rw [if_neg (by simp)] at h
      (try (simp -implicitDefEqProofs only [go_sem, Nat.reduceAdd, Nat.reduceSub, Nat.reduceMul, Nat.reduceLT, Nat.reduceLeDiff, Nat.reduceEqDiff, Nat.reduceBEq, Int.reduceNeg, Int.reduceAdd, Int.reduceLT, Int.reduceLE, Int.reduceToNat, Int.reduceEq, Int.reduceNe, Int.reduceBEq, Int.reduceBNe, Int.reduceMul, Int.reduceSub, reduceIte, reduceCtorEq])); repeat' ((first | refine at_guard (fun hb => ?_) (fun hb => ?_) | refine ⟨fun hb => ?_, fun hb => ?_⟩ | (refine at_call h1 (hvw _ rfl) rfl ?_) | fail) <;> (try (simp -implicitDefEqProofs only [go_sem, Nat.reduceAdd, Nat.reduceSub, Nat.reduceMul, Nat.reduceLT, Nat.reduceLeDiff, Nat.reduceEqDiff, Nat.reduceBEq, Int.reduceNeg, Int.reduceAdd, Int.reduceLT, Int.reduceLE, Int.reduceToNat, Int.reduceEq, Int.reduceNe, Int.reduceBEq, Int.reduceBNe, Int.reduceMul, Int.reduceSub, reduceIte, reduceCtorEq])))
      exact h _ ⟨_, _, rfl, rfl, .refl _⟩
    | true =>
      rw [hb] at h h1 hvw
      rw [if_pos rfl] at h
      (try (simp -implicitDefEqProofs only [go_sem, Nat.reduceAdd, Nat.reduceSub, Nat.reduceMul, Nat.reduceLT, Nat.reduceLeDiff, Nat.reduceEqDiff, Nat.reduceBEq, Int.reduceNeg, Int.reduceAdd, Int.reduceLT, Int.reduceLE, Int.reduceToNat, Int.reduceEq, Int.reduceNe, Int.reduceBEq, Int.reduceBNe, Int.reduceMul, Int.reduceSub, reduceIte, reduceCtorEq])); repeat' ((first | refine at_guard (fun hb => ?_) (fun hb => ?_) | refine ⟨fun hb => ?_, fun hb => ?_⟩ | (refine at_call h1 (hvw _ rfl) rfl ?_) | fail) <;> (try (simp -implicitDefEqProofs only [go_sem, Nat.reduceAdd, Nat.reduceSub, Nat.reduceMul, Nat.reduceLT, Nat.reduceLeDiff, Nat.reduceEqDiff, Nat.reduceBEq, Int.reduceNeg, Int.reduceAdd, Int.reduceLT, Int.reduceLE, Int.reduceToNat, Int.reduceEq, Int.reduceNe, Int.reduceBEq, Int.reduceBNe, Int.reduceMul, Int.reduceSub, reduceIte, reduceCtorEq])))
      refine h _ ⟨_, _, rfl, ?_, .refl _⟩
      have hvv : ∀ H : List (Nat × Box), hget H 4 = some ⟨true, t_api_Slot, 5, m.map slotV⟩ → view H (.arr 4 0 m.length) = some (slotsV m) := fun H hH => view_row (by decide) hH rfl
      exact view_pair (hvv _ rfl)
end Go.Proofs.Ytjkdpahaingjjaa.Ab
