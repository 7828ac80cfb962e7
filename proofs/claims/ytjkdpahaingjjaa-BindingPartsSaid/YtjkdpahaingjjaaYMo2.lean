/-
  proctorref05.Has, Put; proctorlaw05.few, same. proctorlaw05.few, same; slices.ContainsFunc at bindings. No claim is proved here.
-/
import Derived.Test.YtjkdpahaingjjaaYBq6
import Derived.Test.YtjkdpahaingjjaaYSo1
namespace Go.Proofs.Ytjkdpahaingjjaa.Ab
open Go Go.RowKit
set_option linter.unusedSimpArgs false
set_option maxHeartbeats 4000000
set_option maxRecDepth 100000
variable {G : Nat → Option AV}
def llV (l : List (List SlotT)) : AV := .seq 1 (l.map slotsV)
theorem aiaddr_ll {H : List (Nat × Box)} {l : List (List SlotT)} {i : Nat} {x : List SlotT} (h : l[i]? = some x) : aiaddr H 1 (.seq 1 (l.map slotsV)) (.int .i64 (i : Int)) = some (.eptr (.seq 5 (x.map slotV)) 0) := aiaddr_map (e := slotsV) h
theorem ref05_Has_pc (l : List (List SlotT)) (b : List SlotT) (hl : l.length < 9223372036854775807) (hx : ∀ x ∈ l, x.length < 9223372036854775807) (hb : b.length < 9223372036854775807) : PureC Try.prog G n_proctorref05_Has [llV l, slotsV b] (.bool (decide (b ∈ l))) := by
  refine pc_proctorref05_Has (Runs.of fun Φ h => ?_)
  unfold c_proctorref05_Has
  have fin : ∀ β heap, β = decide (b ∈ l) → Φ ⟨18, [(4, .bool β)], heap⟩ := fun β heap e => h _ ⟨_, _, rfl, rfl, fitB e⟩
  clear h
  simp -implicitDefEqProofs only [go_sem, Nat.reduceAdd, Nat.reduceSub, Nat.reduceMul, Nat.reduceLT, Nat.reduceLeDiff, Nat.reduceEqDiff, Nat.reduceBEq, Int.reduceNeg, Int.reduceAdd, Int.reduceLT, Int.reduceLE, Int.reduceToNat, Int.reduceEq, Int.reduceNe, Int.reduceBEq, Int.reduceBNe, Int.reduceMul, Int.reduceSub, reduceIte, reduceCtorEq, llV, slotsV, List.length_map]
  refine at_loop (fun n st => ∃ i : Nat, i + n = l.length ∧ st = ⟨18, [(0, .seq 1 (l.map slotsV)), (1, .seq 5 (b.map slotV)), (5, iv i)], []⟩ ∧ ∀ j x, j < i → l[j]? = some x → x ≠ b) l.length ⟨0, by simp, rfl, fun j x hj => by omega⟩ ?_
  rintro I hI n st ⟨i, hi, rfl, hno⟩
  simp -implicitDefEqProofs only [go_sem, Nat.reduceAdd, Nat.reduceSub, Nat.reduceMul, Nat.reduceLT, Nat.reduceLeDiff, Nat.reduceEqDiff, Nat.reduceBEq, Int.reduceNeg, Int.reduceAdd, Int.reduceLT, Int.reduceLE, Int.reduceToNat, Int.reduceEq, Int.reduceNe, Int.reduceBEq, Int.reduceBNe, Int.reduceMul, Int.reduceSub, reduceIte, reduceCtorEq, List.length_map]
  refine ⟨fun hlt => ?_, fun hge => ?_⟩
  · have hlt' : i < l.length := by omega
    obtain ⟨x, hx1, hxm⟩ := at_some hlt'
    have hw := wrap_succ hlt' (by omega)
    have hc := ref05_Same_pc (G := G) x b (hx x hxm) hb
    have ha := aiaddr_ll (H := []) hx1
    by_cases e : x = b
    · have := fin true
      rw [decide_eq_true e] at hc
      have hm : true = decide (b ∈ l) := by rw [decide_eq_true (e ▸ hxm)]
      simp only [slotsV] at hc
      (try (simp -implicitDefEqProofs only [go_sem, Nat.reduceAdd, Nat.reduceSub, Nat.reduceMul, Nat.reduceLT, Nat.reduceLeDiff, Nat.reduceEqDiff, Nat.reduceBEq, Int.reduceNeg, Int.reduceAdd, Int.reduceLT, Int.reduceLE, Int.reduceToNat, Int.reduceEq, Int.reduceNe, Int.reduceBEq, Int.reduceBNe, Int.reduceMul, Int.reduceSub, reduceIte, reduceCtorEq, ha, hw])); repeat' ((first | refine at_guard (fun hb => ?_) (fun hb => ?_) | refine ⟨fun hb => ?_, fun hb => ?_⟩ | refine at_call (hc) rfl rfl ?_ | fail) <;> (try (simp -implicitDefEqProofs only [go_sem, Nat.reduceAdd, Nat.reduceSub, Nat.reduceMul, Nat.reduceLT, Nat.reduceLeDiff, Nat.reduceEqDiff, Nat.reduceBEq, Int.reduceNeg, Int.reduceAdd, Int.reduceLT, Int.reduceLE, Int.reduceToNat, Int.reduceEq, Int.reduceNe, Int.reduceBEq, Int.reduceBNe, Int.reduceMul, Int.reduceSub, reduceIte, reduceCtorEq, ha, hw])))
      exact fin _ _ hm
    · rw [decide_eq_false e] at hc
      simp only [slotsV] at hc
      (try (simp -implicitDefEqProofs only [go_sem, Nat.reduceAdd, Nat.reduceSub, Nat.reduceMul, Nat.reduceLT, Nat.reduceLeDiff, Nat.reduceEqDiff, Nat.reduceBEq, Int.reduceNeg, Int.reduceAdd, Int.reduceLT, Int.reduceLE, Int.reduceToNat, Int.reduceEq, Int.reduceNe, Int.reduceBEq, Int.reduceBNe, Int.reduceMul, Int.reduceSub, reduceIte, reduceCtorEq, ha, hw])); repeat' ((first | refine at_guard (fun hb => ?_) (fun hb => ?_) | refine ⟨fun hb => ?_, fun hb => ?_⟩ | refine at_call (hc) rfl rfl ?_ | fail) <;> (try (simp -implicitDefEqProofs only [go_sem, Nat.reduceAdd, Nat.reduceSub, Nat.reduceMul, Nat.reduceLT, Nat.reduceLeDiff, Nat.reduceEqDiff, Nat.reduceBEq, Int.reduceNeg, Int.reduceAdd, Int.reduceLT, Int.reduceLE, Int.reduceToNat, Int.reduceEq, Int.reduceNe, Int.reduceBEq, Int.reduceBNe, Int.reduceMul, Int.reduceSub, reduceIte, reduceCtorEq, ha, hw])))
      exact at_again (n - 1) (by omega) (hI _ _ ⟨i + 1, by omega, rfl, fun j y hj hy => by
        by_cases e2 : j = i
        · subst e2; rw [hx1] at hy; cases hy; exact e
        · exact hno j y (by omega) hy⟩)
  · (try (simp -implicitDefEqProofs only [go_sem, Nat.reduceAdd, Nat.reduceSub, Nat.reduceMul, Nat.reduceLT, Nat.reduceLeDiff, Nat.reduceEqDiff, Nat.reduceBEq, Int.reduceNeg, Int.reduceAdd, Int.reduceLT, Int.reduceLE, Int.reduceToNat, Int.reduceEq, Int.reduceNe, Int.reduceBEq, Int.reduceBNe, Int.reduceMul, Int.reduceSub, reduceIte, reduceCtorEq])); repeat' ((first | refine at_guard (fun hb => ?_) (fun hb => ?_) | refine ⟨fun hb => ?_, fun hb => ?_⟩ | fail) <;> (try (simp -implicitDefEqProofs only [go_sem, Nat.reduceAdd, Nat.reduceSub, Nat.reduceMul, Nat.reduceLT, Nat.reduceLeDiff, Nat.reduceEqDiff, Nat.reduceBEq, Int.reduceNeg, Int.reduceAdd, Int.reduceLT, Int.reduceLE, Int.reduceToNat, Int.reduceEq, Int.reduceNe, Int.reduceBEq, Int.reduceBNe, Int.reduceMul, Int.reduceSub, reduceIte, reduceCtorEq])))
    refine fin _ _ ?_
    symm
    rw [decide_eq_false_iff_not]
    intro hm
    obtain ⟨j, hj⟩ := List.getElem?_of_mem hm
    exact hno j b (by have := (List.getElem?_eq_some_iff.1 hj).1; omega) hj rfl
/-- Where a binding is put, looked for from the end. -/
def goPut (b : List SlotT) (l : List (List SlotT)) : Nat → Nat
  | 0 => 0
  | n + 1 => match l[n]? with | some x => if lessB b x then goPut b l n else n + 1 | none => n + 1
theorem goPut_le (b : List SlotT) (l : List (List SlotT)) : ∀ n, goPut b l n ≤ n
  | 0 => Nat.le_refl _
  | n + 1 => by
    rw [goPut]
    split
    · split
      · exact Nat.le_succ_of_le (goPut_le b l n)
      · exact Nat.le_refl _
    · exact Nat.le_refl _
def insP (l : List (List SlotT)) (b : List SlotT) : List (List SlotT) := l.take (goPut b l l.length) ++ b :: l.drop (goPut b l l.length)
def putB (l : List (List SlotT)) (b : List SlotT) : List (List SlotT) := if b ∈ l then l else insP l b
theorem ref05_Put_pc (l : List (List SlotT)) (b : List SlotT) (hl : l.length ≤ 1000) (hx : ∀ x ∈ l, x.length ≤ 1000) (hb : b.length ≤ 1000) (hs : ∀ s ∈ b, s.value.str.length < 9223372036854775807) : PureC Try.prog G n_proctorref05_Put [llV l, slotsV b] (llV (putB l b)) := by
  have c1 := ref05_Has_pc (G := G) l b (by omega) (fun x h => by have := hx x h; omega) (by omega)
  refine pc_proctorref05_Put (Runs.of fun Φ h => ?_)
  unfold c_proctorref05_Put
  unfold putB at h
  by_cases hm : b ∈ l
  · rw [decide_eq_true hm] at c1
    rw [if_pos hm] at h
    simp only [llV, slotsV] at c1
    (try (simp -implicitDefEqProofs only [go_sem, Nat.reduceAdd, Nat.reduceSub, Nat.reduceMul, Nat.reduceLT, Nat.reduceLeDiff, Nat.reduceEqDiff, Nat.reduceBEq, Int.reduceNeg, Int.reduceAdd, Int.reduceLT, Int.reduceLE, Int.reduceToNat, Int.reduceEq, Int.reduceNe, Int.reduceBEq, Int.reduceBNe, Int.reduceMul, Int.reduceSub, reduceIte, reduceCtorEq, llV, slotsV])); repeat' ((first | refine at_guard (fun hb => ?_) (fun hb => ?_) | refine ⟨fun hb => ?_, fun hb => ?_⟩ | refine at_call (c1) rfl rfl ?_ | fail) <;> (try (simp -implicitDefEqProofs only [go_sem, Nat.reduceAdd, Nat.reduceSub, Nat.reduceMul, Nat.reduceLT, Nat.reduceLeDiff, Nat.reduceEqDiff, Nat.reduceBEq, Int.reduceNeg, Int.reduceAdd, Int.reduceLT, Int.reduceLE, Int.reduceToNat, Int.reduceEq, Int.reduceNe, Int.reduceBEq, Int.reduceBNe, Int.reduceMul, Int.reduceSub, reduceIte, reduceCtorEq, llV, slotsV])))
    exact h _ ⟨_, _, rfl, rfl, .refl _⟩
  · rw [decide_eq_false hm] at c1
    rw [if_neg hm] at h
    simp only [llV, slotsV] at c1
    (try (simp -implicitDefEqProofs only [go_sem, Nat.reduceAdd, Nat.reduceSub, Nat.reduceMul, Nat.reduceLT, Nat.reduceLeDiff, Nat.reduceEqDiff, Nat.reduceBEq, Int.reduceNeg, Int.reduceAdd, Int.reduceLT, Int.reduceLE, Int.reduceToNat, Int.reduceEq, Int.reduceNe, Int.reduceBEq, Int.reduceBNe, Int.reduceMul, Int.reduceSub, reduceIte, reduceCtorEq, llV, slotsV, List.length_map])); repeat' ((first | refine at_guard (fun hb => ?_) (fun hb => ?_) | refine ⟨fun hb => ?_, fun hb => ?_⟩ | refine at_call (c1) rfl rfl ?_ | fail) <;> (try (simp -implicitDefEqProofs only [go_sem, Nat.reduceAdd, Nat.reduceSub, Nat.reduceMul, Nat.reduceLT, Nat.reduceLeDiff, Nat.reduceEqDiff, Nat.reduceBEq, Int.reduceNeg, Int.reduceAdd, Int.reduceLT, Int.reduceLE, Int.reduceToNat, Int.reduceEq, Int.reduceNe, Int.reduceBEq, Int.reduceBNe, Int.reduceMul, Int.reduceSub, reduceIte, reduceCtorEq, llV, slotsV, List.length_map])))
    refine at_loop (fun n st => n ≤ l.length ∧ st = ⟨40, [(0, .seq 1 (l.map slotsV)), (1, .seq 5 (b.map slotV)), (5, iv n)], [(4, ⟨true, t_Sapi_Slot, 1, []⟩)]⟩ ∧ goPut b l n = goPut b l l.length) l.length ⟨Nat.le_refl _, rfl, rfl⟩ ?_
    rintro I hI n st ⟨hn, rfl, hno⟩
    have hs1 : aslc 1 (.seq 1 (l.map slotsV)) none (some (.int .i64 (n : Int))) = some (.seq 1 ((l.take n).map slotsV)) := by
      simp [aslc, hn, List.map_take]
    have hs2 : aslc 1 (.seq 1 (l.map slotsV)) (some (.int .i64 (n : Int))) none = some (.seq 1 ((l.drop n).map slotsV)) := by
      simp [aslc, hn, List.map_drop]
      exact List.take_of_length_le (by simp)
    have hb0 : min n l.length = n := by omega
    have hb1 : n * 24 ≤ 140737488355328 := by omega
    have hb2 : (n + 1) * 24 ≤ 140737488355328 := by omega
    have hb3 : (n + 1 + (l.length - n)) * 24 ≤ 140737488355328 := by omega
    have last : goPut b l l.length = n → ∀ (m : Nat) (heap : List (Nat × Box)), m = (insP l b).length → hget heap 26 = some ⟨true, t_Sapi_Slot, 1, (l.take n).map slotsV ++ (.seq 5 (b.map slotV)) :: (l.drop n).map slotsV⟩ → Φ ⟨40, [(4, .arr 26 0 m)], heap⟩ := fun e m heap hm hh => by
      subst hm
      refine h _ ⟨_, _, rfl, view_row (e := slotsV) (l := insP l b) (ty := t_Sapi_Slot) (by decide) ?_ rfl, .refl _⟩
      rw [hh]
      simp [insP, e, slotsV]
    have il : goPut b l l.length = n → (insP l b).length = n + 1 + (l.length - n) := fun e => by
      simp only [insP, e, List.length_append, List.length_cons, List.length_take, List.length_drop]
      omega
    by_cases h0 : n = 0
    · have hp : ((0 : Int) < (n : Int)) = False := by simp; omega
      have he : goPut b l l.length = n := by rw [← hno, h0]; rfl
      clear hno
      (try (simp -implicitDefEqProofs only [go_sem, Nat.reduceAdd, Nat.reduceSub, Nat.reduceMul, Nat.reduceLT, Nat.reduceLeDiff, Nat.reduceEqDiff, Nat.reduceBEq, Int.reduceNeg, Int.reduceAdd, Int.reduceLT, Int.reduceLE, Int.reduceToNat, Int.reduceEq, Int.reduceNe, Int.reduceBEq, Int.reduceBNe, Int.reduceMul, Int.reduceSub, reduceIte, reduceCtorEq, hp, hs1, hs2, List.length_map, List.length_append, List.length_take, List.length_drop, hb0, hb1, hb2, hb3])); repeat' ((first | refine at_guard (fun hb => ?_) (fun hb => ?_) | refine ⟨fun hb => ?_, fun hb => ?_⟩ | fail) <;> (try (simp -implicitDefEqProofs only [go_sem, Nat.reduceAdd, Nat.reduceSub, Nat.reduceMul, Nat.reduceLT, Nat.reduceLeDiff, Nat.reduceEqDiff, Nat.reduceBEq, Int.reduceNeg, Int.reduceAdd, Int.reduceLT, Int.reduceLE, Int.reduceToNat, Int.reduceEq, Int.reduceNe, Int.reduceBEq, Int.reduceBNe, Int.reduceMul, Int.reduceSub, reduceIte, reduceCtorEq, hp, hs1, hs2, List.length_map, List.length_append, List.length_take, List.length_drop, hb0, hb1, hb2, hb3])))
      refine last he _ _ (il he).symm ?_
      simp [hget]
    · obtain ⟨x, hx1, hxm⟩ := at_some (l := l) (i := n - 1) (by omega)
      have ha := aiaddr_ll (H := [(4, ⟨true, t_Sapi_Slot, 1, []⟩)]) hx1
      have hc := ref05_Less_pc (G := G) b x hb (hx x hxm) hs
      have hw1 : IntKind.i64.wrap ((n : Int) - 1) = ((n - 1 : Nat) : Int) := by rw [wrap_i64 (by omega) (by omega)]; omega
      have hp : ((0 : Int) < (n : Int)) = True := by simp; omega
      have hgo : goPut b l n = if lessB b x then goPut b l (n - 1) else n := by
        obtain ⟨j, rfl⟩ : ∃ j, n = j + 1 := ⟨n - 1, by omega⟩
        rw [goPut]
        simp only [Nat.add_sub_cancel] at hx1 ⊢
        rw [hx1]
      rw [hno] at hgo
      simp only [slotsV] at hc
      cases hlb : lessB b x with
      | true =>
        rw [hlb] at hc
        rw [hlb, if_pos rfl] at hgo
        (try (simp -implicitDefEqProofs only [go_sem, Nat.reduceAdd, Nat.reduceSub, Nat.reduceMul, Nat.reduceLT, Nat.reduceLeDiff, Nat.reduceEqDiff, Nat.reduceBEq, Int.reduceNeg, Int.reduceAdd, Int.reduceLT, Int.reduceLE, Int.reduceToNat, Int.reduceEq, Int.reduceNe, Int.reduceBEq, Int.reduceBNe, Int.reduceMul, Int.reduceSub, reduceIte, reduceCtorEq, ha, hw1, hp])); repeat' ((first | refine at_guard (fun hb => ?_) (fun hb => ?_) | refine ⟨fun hb => ?_, fun hb => ?_⟩ | refine at_call (hc) rfl rfl ?_ | fail) <;> (try (simp -implicitDefEqProofs only [go_sem, Nat.reduceAdd, Nat.reduceSub, Nat.reduceMul, Nat.reduceLT, Nat.reduceLeDiff, Nat.reduceEqDiff, Nat.reduceBEq, Int.reduceNeg, Int.reduceAdd, Int.reduceLT, Int.reduceLE, Int.reduceToNat, Int.reduceEq, Int.reduceNe, Int.reduceBEq, Int.reduceBNe, Int.reduceMul, Int.reduceSub, reduceIte, reduceCtorEq, ha, hw1, hp])))
        exact at_again (n - 1) (by omega) (hI _ _ ⟨by omega, rfl, hgo.symm⟩)
      | false =>
        rw [hlb] at hc
        rw [hlb, if_neg (by simp)] at hgo
        (try (simp -implicitDefEqProofs only [go_sem, Nat.reduceAdd, Nat.reduceSub, Nat.reduceMul, Nat.reduceLT, Nat.reduceLeDiff, Nat.reduceEqDiff, Nat.reduceBEq, Int.reduceNeg, Int.reduceAdd, Int.reduceLT, Int.reduceLE, Int.reduceToNat, Int.reduceEq, Int.reduceNe, Int.reduceBEq, Int.reduceBNe, Int.reduceMul, Int.reduceSub, reduceIte, reduceCtorEq, ha, hw1, hp, hs1, hs2, List.length_map, List.length_append, List.length_take, List.length_drop, hb0, hb1, hb2, hb3])); repeat' ((first | refine at_guard (fun hb => ?_) (fun hb => ?_) | refine ⟨fun hb => ?_, fun hb => ?_⟩ | refine at_call (hc) rfl rfl ?_ | fail) <;> (try (simp -implicitDefEqProofs only [go_sem, Nat.reduceAdd, Nat.reduceSub, Nat.reduceMul, Nat.reduceLT, Nat.reduceLeDiff, Nat.reduceEqDiff, Nat.reduceBEq, Int.reduceNeg, Int.reduceAdd, Int.reduceLT, Int.reduceLE, Int.reduceToNat, Int.reduceEq, Int.reduceNe, Int.reduceBEq, Int.reduceBNe, Int.reduceMul, Int.reduceSub, reduceIte, reduceCtorEq, ha, hw1, hp, hs1, hs2, List.length_map, List.length_append, List.length_take, List.length_drop, hb0, hb1, hb2, hb3])))
        refine last hgo _ _ (il hgo).symm ?_
        simp [hget]
end Go.Proofs.Ytjkdpahaingjjaa.Ab
namespace Go.Proofs.Ytjkdpahaingjjaa.Ab
open Go Go.RowKit
set_option linter.unusedSimpArgs false
set_option maxHeartbeats 4000000
set_option maxRecDepth 100000
variable {G : Nat → Option AV}
theorem law05_same_pc (l : List (List SlotT)) (hl : l.length ≤ 1000) (hx : ∀ x ∈ l, x.length ≤ 1000) : PureC Try.prog G n_proctorlaw05_same [llV l, llV l] (.bool true) := by
  refine pc_proctorlaw05_same (Runs.of fun Φ h => ?_)
  unfold c_proctorlaw05_same
  simp -implicitDefEqProofs only [go_sem, Nat.reduceAdd, Nat.reduceSub, Nat.reduceMul, Nat.reduceLT, Nat.reduceLeDiff, Nat.reduceEqDiff, Nat.reduceBEq, Int.reduceNeg, Int.reduceAdd, Int.reduceLT, Int.reduceLE, Int.reduceToNat, Int.reduceEq, Int.reduceNe, Int.reduceBEq, Int.reduceBNe, Int.reduceMul, Int.reduceSub, reduceIte, reduceCtorEq, llV, List.length_map]
  refine at_loop (fun n st => ∃ i : Nat, i + n = l.length ∧ st = ⟨27, [(0, .seq 1 (l.map slotsV)), (1, .seq 1 (l.map slotsV)), (5, iv i)], []⟩) l.length ⟨0, by simp, rfl⟩ ?_
  rintro I hI n st ⟨i, hi, rfl⟩
  simp -implicitDefEqProofs only [go_sem, Nat.reduceAdd, Nat.reduceSub, Nat.reduceMul, Nat.reduceLT, Nat.reduceLeDiff, Nat.reduceEqDiff, Nat.reduceBEq, Int.reduceNeg, Int.reduceAdd, Int.reduceLT, Int.reduceLE, Int.reduceToNat, Int.reduceEq, Int.reduceNe, Int.reduceBEq, Int.reduceBNe, Int.reduceMul, Int.reduceSub, reduceIte, reduceCtorEq, List.length_map]
  refine ⟨fun hlt => ?_, fun hge => ?_⟩
  · have hlt' : i < l.length := by omega
    obtain ⟨x, hx1, hxm⟩ := at_some hlt'
    have hw := wrap_succ hlt' (by omega)
    have ha := aiaddr_ll (H := []) hx1
    have hc := ref05_Same_pc (G := G) x x (by have := hx x hxm; omega) (by have := hx x hxm; omega)
    rw [decide_eq_true rfl] at hc
    simp only [slotsV] at hc
    (try (simp -implicitDefEqProofs only [go_sem, Nat.reduceAdd, Nat.reduceSub, Nat.reduceMul, Nat.reduceLT, Nat.reduceLeDiff, Nat.reduceEqDiff, Nat.reduceBEq, Int.reduceNeg, Int.reduceAdd, Int.reduceLT, Int.reduceLE, Int.reduceToNat, Int.reduceEq, Int.reduceNe, Int.reduceBEq, Int.reduceBNe, Int.reduceMul, Int.reduceSub, reduceIte, reduceCtorEq, ha, hw])); repeat' ((first | refine at_guard (fun hb => ?_) (fun hb => ?_) | refine ⟨fun hb => ?_, fun hb => ?_⟩ | refine at_call (hc) rfl rfl ?_ | fail) <;> (try (simp -implicitDefEqProofs only [go_sem, Nat.reduceAdd, Nat.reduceSub, Nat.reduceMul, Nat.reduceLT, Nat.reduceLeDiff, Nat.reduceEqDiff, Nat.reduceBEq, Int.reduceNeg, Int.reduceAdd, Int.reduceLT, Int.reduceLE, Int.reduceToNat, Int.reduceEq, Int.reduceNe, Int.reduceBEq, Int.reduceBNe, Int.reduceMul, Int.reduceSub, reduceIte, reduceCtorEq, ha, hw])))
    exact at_again (n - 1) (by omega) (hI _ _ ⟨i + 1, by omega, rfl⟩)
  · (try (simp -implicitDefEqProofs only [go_sem, Nat.reduceAdd, Nat.reduceSub, Nat.reduceMul, Nat.reduceLT, Nat.reduceLeDiff, Nat.reduceEqDiff, Nat.reduceBEq, Int.reduceNeg, Int.reduceAdd, Int.reduceLT, Int.reduceLE, Int.reduceToNat, Int.reduceEq, Int.reduceNe, Int.reduceBEq, Int.reduceBNe, Int.reduceMul, Int.reduceSub, reduceIte, reduceCtorEq])); repeat' ((first | refine at_guard (fun hb => ?_) (fun hb => ?_) | refine ⟨fun hb => ?_, fun hb => ?_⟩ | fail) <;> (try (simp -implicitDefEqProofs only [go_sem, Nat.reduceAdd, Nat.reduceSub, Nat.reduceMul, Nat.reduceLT, Nat.reduceLeDiff, Nat.reduceEqDiff, Nat.reduceBEq, Int.reduceNeg, Int.reduceAdd, Int.reduceLT, Int.reduceLE, Int.reduceToNat, Int.reduceEq, Int.reduceNe, Int.reduceBEq, Int.reduceBNe, Int.reduceMul, Int.reduceSub, reduceIte, reduceCtorEq])))
    exact h _ ⟨_, _, rfl, rfl, .refl _⟩
end Go.Proofs.Ytjkdpahaingjjaa.Ab
