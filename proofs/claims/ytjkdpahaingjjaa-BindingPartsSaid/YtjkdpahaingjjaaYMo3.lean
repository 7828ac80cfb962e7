/-
  slices.CompactFunc at bindings. binding.Most. No claim is proved here.
-/
import Derived.Test.YtjkdpahaingjjaaYBq2
import Derived.Test.YtjkdpahaingjjaaYMo2
namespace Go.Proofs.Ytjkdpahaingjjaa.Ab
open Go Go.RowKit
set_option linter.unusedSimpArgs false
set_option maxHeartbeats 4000000
set_option maxRecDepth 100000
variable {G : Nat → Option AV}
/-- Each once, of neighbours that are the same. -/
def compT {α : Type} [DecidableEq α] : α → List α → List α
  | _, [] => []
  | p, y :: r => if p = y then compT p r else y :: compT y r
def compA {α : Type} [DecidableEq α] : List α → List α
  | [] => []
  | x :: r => x :: compT x r
section
variable {α : Type} [DecidableEq α]
theorem compT_snoc : ∀ (m : List α) (p x : α), compT p (m ++ [x]) = if (p :: m).getLast? = some x then compT p m else compT p m ++ [x]
  | [], p, x => by simp [compT]
  | y :: r, p, x => by
    have h := compT_snoc r y x
    rw [List.cons_append, compT, List.getLast?_cons_cons, compT]
    by_cases e : p = y
    · subst e
      rw [if_pos rfl, if_pos rfl, h]
    · rw [if_neg e, if_neg e, h]
      split <;> rfl
theorem compA_snoc : ∀ (m : List α) (x : α), compA (m ++ [x]) = if m.getLast? = some x then compA m else compA m ++ [x]
  | [], x => by simp [compA, compT]
  | y :: r, x => by
    have h := compT_snoc r y x
    rw [List.cons_append, compA, compA, h]
    split <;> rfl
omit [DecidableEq α] in
theorem takeC {l : List α} {i : Nat} {x : α} (h : l[i]? = some x) : l.take (i + 1) = l.take i ++ [x] := by
  rw [List.take_add_one, h]; rfl
theorem comp_step {l : List α} {k : Nat} {x y : α} (h0 : 0 < k) (hx : l[k]? = some x) (hy : l[k - 1]? = some y) : compA (l.take (k + 1)) = if y = x then compA (l.take k) else compA (l.take k) ++ [x] := by
  rw [takeC hx, compA_snoc]
  have e : (l.take k).getLast? = some y := by
    have := takeC hy
    rw [Nat.sub_add_cancel h0] at this
    rw [this]
    simp
  rw [e]
  simp
end
theorem aiaddr_own (H : List (Nat × Box)) (sz i k m : Nat) (kd : IntKind) (n : Int) : aiaddr H sz (.arr i k m) (.int kd n) = match hget H i with
    | some b => if b.sz = sz ∧ 0 ≤ n ∧ n < m then some (.ref i (k + n.toNat) 0) else none
    | none => none := rfl
theorem map_at {α : Type} {f : α → AV} {l : List α} {i : Nat} {x : α} (h : l[i]? = some x) : (l.map f)[i]? = some (f x) := by rw [List.getElem?_map, h]; rfl
theorem compact_hc (l : List (List SlotT)) (hl : l.length ≤ 1000000) (hll : ∀ x ∈ l, x.length < 9223372036854775807) :
    HeapC Try.prog G n_slices_CompactFunc_api_Slot_api_Slot [.arr 1000 0 l.length, .fn n_binding_Same []] [(1000, ⟨true, t_Sapi_Slot, 1, l.map slotsV⟩)] (.arr 1000 0 (compA l).length)
      [(1000, ⟨true, t_Sapi_Slot, 1, (compA l).map slotsV ++ List.replicate (l.length - (compA l).length) .nils⟩)] := by
  refine hc_slices_CompactFunc_api_Slot_api_Slot (RunsH.of fun Φ h => ?_)
  unfold c_slices_CompactFunc_api_Slot_api_Slot
  have fin : ∀ (n : Nat) (heap : List (Nat × Box)), n = (compA l).length → hget heap 1000 = some ⟨true, t_Sapi_Slot, 1, (compA l).map slotsV ++ List.replicate (l.length - (compA l).length) .nils⟩ → Φ ⟨66, [(4, .arr 1000 0 n)], heap⟩ := fun n heap e hh => by
    subst e
    refine h _ ⟨_, _, Weak.refl _, rfl, .refl _, fun i b hi => ?_⟩
    simp only [hget] at hi
    split at hi
    · rename_i e; subst e; rw [hh]; exact hi
    · cases hi
  clear h
  have fin1 : compA l = l → ∀ heap, hget heap 1000 = some ⟨true, t_Sapi_Slot, 1, l.map slotsV⟩ → Φ ⟨66, [(4, .arr 1000 0 l.length)], heap⟩ := fun e heap hh => by
    refine fin _ _ (by rw [e]) ?_
    rw [e, Nat.sub_self]
    simpa using hh
  by_cases h2 : l.length < 2
  · have e0 : ((l.length : Int) < 2) = True := by simp; omega
    have : compA l = l := by
      match l, h2 with
      | [], _ => rfl
      | [x], _ => rfl
    (try (simp -implicitDefEqProofs only [go_sem, Nat.reduceAdd, Nat.reduceSub, Nat.reduceMul, Nat.reduceLT, Nat.reduceLeDiff, Nat.reduceEqDiff, Nat.reduceBEq, Int.reduceNeg, Int.reduceAdd, Int.reduceLT, Int.reduceLE, Int.reduceToNat, Int.reduceEq, Int.reduceNe, Int.reduceBEq, Int.reduceBNe, Int.reduceMul, Int.reduceSub, reduceIte, reduceCtorEq, e0])); repeat' ((first | refine at_guard (fun hb => ?_) (fun hb => ?_) | refine ⟨fun hb => ?_, fun hb => ?_⟩ | fail) <;> (try (simp -implicitDefEqProofs only [go_sem, Nat.reduceAdd, Nat.reduceSub, Nat.reduceMul, Nat.reduceLT, Nat.reduceLeDiff, Nat.reduceEqDiff, Nat.reduceBEq, Int.reduceNeg, Int.reduceAdd, Int.reduceLT, Int.reduceLE, Int.reduceToNat, Int.reduceEq, Int.reduceNe, Int.reduceBEq, Int.reduceBNe, Int.reduceMul, Int.reduceSub, reduceIte, reduceCtorEq, e0])))
    exact fin1 this _ rfl
  · have e0 : ((l.length : Int) < 2) = False := by simp; omega
    simp -implicitDefEqProofs only [go_sem, Nat.reduceAdd, Nat.reduceSub, Nat.reduceMul, Nat.reduceLT, Nat.reduceLeDiff, Nat.reduceEqDiff, Nat.reduceBEq, Int.reduceNeg, Int.reduceAdd, Int.reduceLT, Int.reduceLE, Int.reduceToNat, Int.reduceEq, Int.reduceNe, Int.reduceBEq, Int.reduceBNe, Int.reduceMul, Int.reduceSub, reduceIte, reduceCtorEq, e0]
    refine at_loop (fun n st => ∃ k : Nat, k + n = l.length ∧ 0 < k ∧ st = ⟨66, [(0, .arr 1000 0 l.length), (1, .fn n_binding_Same []), (5, iv k)], [(4, ⟨true, t_Sapi_Slot, 1, []⟩), (1000, ⟨true, t_Sapi_Slot, 1, l.map slotsV⟩)]⟩ ∧ compA (l.take k) = l.take k) (l.length - 1) ⟨1, by omega, by decide, rfl, ?_⟩ ?_
    · match l, h2 with
      | x :: r, _ => rfl
    rintro I hI n st ⟨k, hk, hk0, rfl, hno⟩
    simp -implicitDefEqProofs only [go_sem, Nat.reduceAdd, Nat.reduceSub, Nat.reduceMul, Nat.reduceLT, Nat.reduceLeDiff, Nat.reduceEqDiff, Nat.reduceBEq, Int.reduceNeg, Int.reduceAdd, Int.reduceLT, Int.reduceLE, Int.reduceToNat, Int.reduceEq, Int.reduceNe, Int.reduceBEq, Int.reduceBNe, Int.reduceMul, Int.reduceSub, reduceIte, reduceCtorEq]
    refine ⟨fun hlt => ?_, fun hge => ?_⟩
    · have hlt' : k < l.length := by omega
      obtain ⟨x, hx, hxm⟩ := at_some hlt'
      obtain ⟨y, hy, hym⟩ := at_some (l := l) (i := k - 1) (by omega)
      have hw := wrap_succ hlt' (by omega)
      have hw1 : IntKind.i64.wrap ((k : Int) - 1) = ((k - 1 : Nat) : Int) := by rw [wrap_i64 (by omega) (by omega)]; omega
      have hb1 : ((k : Int) < (l.length : Int)) = True := by simp; omega
      have hb2 : (((k - 1 : Nat) : Int) < (l.length : Int)) = True := by simp; omega
      have hc := binding_Same_pc (G := G) x y (hll x hxm) (hll y hym)
      have hst := comp_step hk0 hx hy
      have mx := map_at (f := slotsV) hx
      have my := map_at (f := slotsV) hy
      rw [hno] at hst
      by_cases exy : x = y
      · rw [if_pos exy.symm] at hst
        rw [decide_eq_true exy] at hc
        simp only [slotsV] at hc mx my
        have hcl : (compA (l.take (k + 1))).length = k := by rw [hst, List.length_take]; omega
        have hb3 : ((k : Int) ≤ (l.length : Int)) = True := by simp; omega
        have hb4 : ((l.length : Int) ≤ (l.length : Int)) = True := by simp
        (try (simp -implicitDefEqProofs only [go_sem, Nat.reduceAdd, Nat.reduceSub, Nat.reduceMul, Nat.reduceLT, Nat.reduceLeDiff, Nat.reduceEqDiff, Nat.reduceBEq, Int.reduceNeg, Int.reduceAdd, Int.reduceLT, Int.reduceLE, Int.reduceToNat, Int.reduceEq, Int.reduceNe, Int.reduceBEq, Int.reduceBNe, Int.reduceMul, Int.reduceSub, reduceIte, reduceCtorEq, aiaddr_own, hb1, hb2, hb3, hb4, hw1, mx, my])); repeat' ((first | refine at_guard (fun hb => ?_) (fun hb => ?_) | refine ⟨fun hb => ?_, fun hb => ?_⟩ | (refine ⟨by kernel_rfl, at_call hc rfl rfl ?_⟩) | fail) <;> (try (simp -implicitDefEqProofs only [go_sem, Nat.reduceAdd, Nat.reduceSub, Nat.reduceMul, Nat.reduceLT, Nat.reduceLeDiff, Nat.reduceEqDiff, Nat.reduceBEq, Int.reduceNeg, Int.reduceAdd, Int.reduceLT, Int.reduceLE, Int.reduceToNat, Int.reduceEq, Int.reduceNe, Int.reduceBEq, Int.reduceBNe, Int.reduceMul, Int.reduceSub, reduceIte, reduceCtorEq, aiaddr_own, hb1, hb2, hb3, hb4, hw1, mx, my])))
        refine at_loop (fun n2 st => ∃ (k2 c : Nat) (m : List (List SlotT)), k + k2 + n2 = l.length ∧ 0 < k2 ∧ st = ⟨66, [(0, .arr 1000 0 l.length), (1, .fn n_binding_Same []), (5, iv c), (6, .arr 1000 k (l.length - k)), (7, iv k2)], [(4, ⟨true, t_Sapi_Slot, 1, []⟩), (1000, ⟨true, t_Sapi_Slot, 1, m.map slotsV⟩)]⟩ ∧
          m.length = l.length ∧ c = (compA (l.take (k + k2))).length ∧ m.take c = compA (l.take (k + k2)) ∧ c ≤ k + k2 - 1 ∧ ∀ j, k + k2 - 1 ≤ j → m[j]? = l[j]?) (l.length - k - 1) ⟨1, k, l, by omega, by decide, rfl, rfl, hcl.symm, hst.symm, by omega, fun _ _ => rfl⟩ ?_
        clear hc mx my hst hcl hb1 hb2 hb3 hb4 hw1 hw hI
        clear hx hy hxm hym exy x y
        rintro I2 hI2 n2 st ⟨k2, c, m, hk2, hk20, rfl, hml, hcl, hmt, hck, hmd⟩
        simp -implicitDefEqProofs only [go_sem, Nat.reduceAdd, Nat.reduceSub, Nat.reduceMul, Nat.reduceLT, Nat.reduceLeDiff, Nat.reduceEqDiff, Nat.reduceBEq, Int.reduceNeg, Int.reduceAdd, Int.reduceLT, Int.reduceLE, Int.reduceToNat, Int.reduceEq, Int.reduceNe, Int.reduceBEq, Int.reduceBNe, Int.reduceMul, Int.reduceSub, reduceIte, reduceCtorEq]
        refine ⟨fun hlt2 => ?_, fun hge2 => ?_⟩
        · have hlt3 : k + k2 < l.length := by omega
          obtain ⟨x, hx, hxm⟩ := at_some hlt3
          obtain ⟨y, hy, hym⟩ := at_some (l := l) (i := k + k2 - 1) (by omega)
          have hw := wrap_succ (show k2 < l.length by omega) (by omega)
          have hwc := wrap_succ (show c < l.length by omega) (by omega)
          have hw1 : IntKind.i64.wrap ((k2 : Int) - 1) = ((k2 - 1 : Nat) : Int) := by rw [wrap_i64 (by omega) (by omega)]; omega
          have hb1 : ((k2 : Int) < ((l.length - k : Nat) : Int)) = True := by simp; omega
          have hb2 : (((k2 - 1 : Nat) : Int) < ((l.length - k : Nat) : Int)) = True := by simp; omega
          have hc := binding_Same_pc (G := G) x y (hll x hxm) (hll y hym)
          have hst := comp_step (l := l) (show 0 < k + k2 by omega) hx hy
          have mx := map_at (f := slotsV) ((hmd (k + k2) (by omega)).trans hx)
          have my := map_at (f := slotsV) ((hmd (k + k2 - 1) (by omega)).trans hy)
          rw [show k + k2 - 1 = k + (k2 - 1) by omega] at my
          by_cases exy : x = y
          · rw [if_pos exy.symm] at hst
            rw [decide_eq_true exy] at hc
            simp only [slotsV] at hc mx my
            (try (simp -implicitDefEqProofs only [go_sem, Nat.reduceAdd, Nat.reduceSub, Nat.reduceMul, Nat.reduceLT, Nat.reduceLeDiff, Nat.reduceEqDiff, Nat.reduceBEq, Int.reduceNeg, Int.reduceAdd, Int.reduceLT, Int.reduceLE, Int.reduceToNat, Int.reduceEq, Int.reduceNe, Int.reduceBEq, Int.reduceBNe, Int.reduceMul, Int.reduceSub, reduceIte, reduceCtorEq, aiaddr_own, hb1, hb2, hw, hw1, mx, my])); repeat' ((first | refine at_guard (fun hb => ?_) (fun hb => ?_) | refine ⟨fun hb => ?_, fun hb => ?_⟩ | (refine ⟨by kernel_rfl, at_call hc rfl rfl ?_⟩) | fail) <;> (try (simp -implicitDefEqProofs only [go_sem, Nat.reduceAdd, Nat.reduceSub, Nat.reduceMul, Nat.reduceLT, Nat.reduceLeDiff, Nat.reduceEqDiff, Nat.reduceBEq, Int.reduceNeg, Int.reduceAdd, Int.reduceLT, Int.reduceLE, Int.reduceToNat, Int.reduceEq, Int.reduceNe, Int.reduceBEq, Int.reduceBNe, Int.reduceMul, Int.reduceSub, reduceIte, reduceCtorEq, aiaddr_own, hb1, hb2, hw, hw1, mx, my])))
            exact at_again (n2 - 1) (by omega) (hI2 _ _ ⟨k2 + 1, c, m, by omega, by omega, rfl, hml, by rw [← Nat.add_assoc, hst]; exact hcl, by rw [← Nat.add_assoc, hst]; exact hmt, by omega, fun j hj => hmd j (by omega)⟩)
          · rw [if_neg fun e => exy e.symm] at hst
            rw [decide_eq_false exy] at hc
            obtain ⟨z, hz, _⟩ := at_some (l := m) (i := c) (by omega)
            have mz := map_at (f := slotsV) hz
            have hset : (m.map slotsV).set c (slotsV x) = (m.set c x).map slotsV := by rw [List.map_set]
            have hb3 : ((c : Int) < (l.length : Int)) = True := by simp; omega
            simp only [slotsV] at hc mx my mz
            (try (simp -implicitDefEqProofs only [go_sem, Nat.reduceAdd, Nat.reduceSub, Nat.reduceMul, Nat.reduceLT, Nat.reduceLeDiff, Nat.reduceEqDiff, Nat.reduceBEq, Int.reduceNeg, Int.reduceAdd, Int.reduceLT, Int.reduceLE, Int.reduceToNat, Int.reduceEq, Int.reduceNe, Int.reduceBEq, Int.reduceBNe, Int.reduceMul, Int.reduceSub, reduceIte, reduceCtorEq, aiaddr_own, hb1, hb2, hb3, hw, hwc, hw1, mx, my, mz])); repeat' ((first | refine at_guard (fun hb => ?_) (fun hb => ?_) | refine ⟨fun hb => ?_, fun hb => ?_⟩ | (refine ⟨by kernel_rfl, at_call hc rfl rfl ?_⟩) | fail) <;> (try (simp -implicitDefEqProofs only [go_sem, Nat.reduceAdd, Nat.reduceSub, Nat.reduceMul, Nat.reduceLT, Nat.reduceLeDiff, Nat.reduceEqDiff, Nat.reduceBEq, Int.reduceNeg, Int.reduceAdd, Int.reduceLT, Int.reduceLE, Int.reduceToNat, Int.reduceEq, Int.reduceNe, Int.reduceBEq, Int.reduceBNe, Int.reduceMul, Int.reduceSub, reduceIte, reduceCtorEq, aiaddr_own, hb1, hb2, hb3, hw, hwc, hw1, mx, my, mz])))
            rw [show AV.seq 5 (List.map slotV x) = slotsV x from rfl, hset]
            have hmc : (m.set c x)[c]? = some x := by rw [List.getElem?_set]; simp; omega
            refine at_again (n2 - 1) (by omega) (hI2 _ _ ⟨k2 + 1, c + 1, m.set c x, by omega, by omega, rfl, by rw [List.length_set]; exact hml, ?_, ?_, by omega, fun j hj => ?_⟩)
            · rw [← Nat.add_assoc, hst, List.length_append, ← hcl]
              rfl
            · rw [takeC hmc, ← Nat.add_assoc, hst, ← hmt, List.take_set_of_le (Nat.le_refl _)]
            · rw [List.getElem?_set_ne (by omega)]
              exact hmd j (by omega)
        · have hk3 : k + k2 = l.length := by omega
          rw [hk3, List.take_of_length_le (Nat.le_refl _)] at hcl hmt
          have hb1 : ((c : Int) ≤ (l.length : Int)) = True := by simp; omega
          have hb2 : ((l.length : Int) ≤ (l.length : Int)) = True := by simp
          have hb3 : (0 < l.length - c) = True := by simp; omega
          have hb4 : (c + (l.length - c) ≤ l.length) = True := by simp; omega
          (try (simp -implicitDefEqProofs only [go_sem, Nat.reduceAdd, Nat.reduceSub, Nat.reduceMul, Nat.reduceLT, Nat.reduceLeDiff, Nat.reduceEqDiff, Nat.reduceBEq, Int.reduceNeg, Int.reduceAdd, Int.reduceLT, Int.reduceLE, Int.reduceToNat, Int.reduceEq, Int.reduceNe, Int.reduceBEq, Int.reduceBNe, Int.reduceMul, Int.reduceSub, reduceIte, reduceCtorEq, hb1, hb2, hb3, hb4, List.length_map, hml])); repeat' ((first | refine at_guard (fun hb => ?_) (fun hb => ?_) | refine ⟨fun hb => ?_, fun hb => ?_⟩ | fail) <;> (try (simp -implicitDefEqProofs only [go_sem, Nat.reduceAdd, Nat.reduceSub, Nat.reduceMul, Nat.reduceLT, Nat.reduceLeDiff, Nat.reduceEqDiff, Nat.reduceBEq, Int.reduceNeg, Int.reduceAdd, Int.reduceLT, Int.reduceLE, Int.reduceToNat, Int.reduceEq, Int.reduceNe, Int.reduceBEq, Int.reduceBNe, Int.reduceMul, Int.reduceSub, reduceIte, reduceCtorEq, hb1, hb2, hb3, hb4, List.length_map, hml])))
          refine fin _ _ hcl ?_
          have hd : (m.map slotsV).drop (c + (l.length - c)) = [] := List.drop_of_length_le (by rw [List.length_map]; omega)
          simp only [hget, hd, ← List.map_take, hmt, List.append_nil, ← hcl]
          rfl
      · rw [if_neg fun e => exy e.symm, ← takeC hx] at hst
        rw [decide_eq_false exy] at hc
        simp only [slotsV] at hc mx my
        (try (simp -implicitDefEqProofs only [go_sem, Nat.reduceAdd, Nat.reduceSub, Nat.reduceMul, Nat.reduceLT, Nat.reduceLeDiff, Nat.reduceEqDiff, Nat.reduceBEq, Int.reduceNeg, Int.reduceAdd, Int.reduceLT, Int.reduceLE, Int.reduceToNat, Int.reduceEq, Int.reduceNe, Int.reduceBEq, Int.reduceBNe, Int.reduceMul, Int.reduceSub, reduceIte, reduceCtorEq, aiaddr_own, hb1, hb2, hw, hw1, mx, my])); repeat' ((first | refine at_guard (fun hb => ?_) (fun hb => ?_) | refine ⟨fun hb => ?_, fun hb => ?_⟩ | (refine ⟨by kernel_rfl, at_call hc rfl rfl ?_⟩) | fail) <;> (try (simp -implicitDefEqProofs only [go_sem, Nat.reduceAdd, Nat.reduceSub, Nat.reduceMul, Nat.reduceLT, Nat.reduceLeDiff, Nat.reduceEqDiff, Nat.reduceBEq, Int.reduceNeg, Int.reduceAdd, Int.reduceLT, Int.reduceLE, Int.reduceToNat, Int.reduceEq, Int.reduceNe, Int.reduceBEq, Int.reduceBNe, Int.reduceMul, Int.reduceSub, reduceIte, reduceCtorEq, aiaddr_own, hb1, hb2, hw, hw1, mx, my])))
        exact at_again (n - 1) (by omega) (hI _ _ ⟨k + 1, by omega, by omega, rfl, hst⟩)
    · rw [List.take_of_length_le (by omega)] at hno
      (try (simp -implicitDefEqProofs only [go_sem, Nat.reduceAdd, Nat.reduceSub, Nat.reduceMul, Nat.reduceLT, Nat.reduceLeDiff, Nat.reduceEqDiff, Nat.reduceBEq, Int.reduceNeg, Int.reduceAdd, Int.reduceLT, Int.reduceLE, Int.reduceToNat, Int.reduceEq, Int.reduceNe, Int.reduceBEq, Int.reduceBNe, Int.reduceMul, Int.reduceSub, reduceIte, reduceCtorEq])); repeat' ((first | refine at_guard (fun hb => ?_) (fun hb => ?_) | refine ⟨fun hb => ?_, fun hb => ?_⟩ | fail) <;> (try (simp -implicitDefEqProofs only [go_sem, Nat.reduceAdd, Nat.reduceSub, Nat.reduceMul, Nat.reduceLT, Nat.reduceLeDiff, Nat.reduceEqDiff, Nat.reduceBEq, Int.reduceNeg, Int.reduceAdd, Int.reduceLT, Int.reduceLE, Int.reduceToNat, Int.reduceEq, Int.reduceNe, Int.reduceBEq, Int.reduceBNe, Int.reduceMul, Int.reduceSub, reduceIte, reduceCtorEq])))
      exact fin1 hno _ rfl
end Go.Proofs.Ytjkdpahaingjjaa.Ab
namespace Go.Proofs.Ytjkdpahaingjjaa.Ab
open Go Go.RowKit
set_option linter.unusedSimpArgs false
set_option maxHeartbeats 4000000
set_option maxRecDepth 100000
variable {G : Nat → Option AV}
def orderB (l : List (List SlotT)) : List (List SlotT) := compA (sortB l)
/-- What is asked of binding.order. -/
def OrderC (P : Program) (G : Nat → Option AV) (f : Nat) : Prop := ∀ l : List (List SlotT), l.length ≤ 1000 → (∀ x ∈ l, okL x ∧ x.length ≤ 1000) →
  HeapC P G f [.arr 1000 0 l.length] [(1000, ⟨true, t_Sapi_Slot, 1, l.map slotsV⟩)] (.arr 1000 0 (orderB l).length) [(1000, ⟨true, t_Sapi_Slot, 1, (orderB l).map slotsV ++ List.replicate (l.length - (orderB l).length) .nils⟩)]
theorem filter_takeC {α : Type} {p : α → Bool} {l : List α} {i : Nat} {x : α} (h : l[i]? = some x) : (l.take (i + 1)).filter p = (l.take i).filter p ++ if p x then [x] else [] := by
  rw [takeC h, List.filter_append, List.filter_cons, List.filter_nil]
theorem view_row2 {α : Type} {e : α → AV} {sz : Nat} {H : List (Nat × Box)} {i : Nat} {ty : Nat} {l : List α} {rest : List AV} (h0 : 0 < sz) (hH : hget H i = some ⟨true, ty, sz, l.map e ++ rest⟩) : view H (.arr i 0 l.length) = some (.seq sz (l.map e)) := by
  simp only [view, hH, List.drop_zero, List.length_append, List.length_map]
  rw [if_pos ⟨trivial, h0, by omega⟩, List.take_append_of_le_length (by simp), List.take_of_length_le (by simp)]
end Go.Proofs.Ytjkdpahaingjjaa.Ab
