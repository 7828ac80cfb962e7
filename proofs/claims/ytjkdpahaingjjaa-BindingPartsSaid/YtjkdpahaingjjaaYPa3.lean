/-
  The law BindingParts. No claim is proved here.
-/
import Derived.Test.YtjkdpahaingjjaaYPa1
import Derived.Test.YtjkdpahaingjjaaYPa2
import Derived.Test.YtjkdpahaingjjaaYMo5
namespace Go.Proofs.Ytjkdpahaingjjaa.Ab
open Go Go.RowKit
set_option linter.unusedSimpArgs false
set_option linter.unusedVariables false
set_option maxHeartbeats 4000000
set_option maxRecDepth 100000
variable {G : Nat → Option AV}
/-- A binding without the slot at a place. -/
def cutAt (b : List SlotT) (i : Nat) : List SlotT := b.take i ++ b.drop (i + 1)
theorem cut_less {b : List SlotT} (h : Can b) {i : Nat} {s : SlotT} (hs : b[i]? = some s) : lessOne b s = cutAt b i := by
  have hb : b = b.take i ++ s :: b.drop (i + 1) := by
    have := drop_at hs
    rw [← this, List.take_append_drop]
  unfold lessOne cutAt
  conv => lhs; rw [hb]
  rw [List.filter_append, List.filter_cons]
  have hsv : (s.var != s.var) = false := by simp
  rw [hsv, if_neg (by simp)]
  have hl := (List.getElem?_eq_some_iff.1 hs).1
  have key : ∀ j x, b[j]? = some x → j ≠ i → (x.var != s.var) = true := fun j x hx hj => by
    simp only [bne_iff_ne, ne_eq]
    intro e
    obtain ⟨a1, a2⟩ := List.getElem?_eq_some_iff.1 hx
    obtain ⟨b1, b2⟩ := List.getElem?_eq_some_iff.1 hs
    rcases Nat.lt_or_gt_of_ne hj with h1 | h1
    · have := (List.pairwise_iff_getElem.1 h.srt) j i a1 b1 h1
      rw [a2, b2] at this
      omega
    · have := (List.pairwise_iff_getElem.1 h.srt) i j b1 a1 h1
      rw [a2, b2] at this
      omega
  rw [List.filter_eq_self.2, List.filter_eq_self.2]
  · intro x hx
    obtain ⟨j, hj⟩ := List.getElem?_of_mem hx
    rw [List.getElem?_drop] at hj
    exact key _ x hj (by omega)
  · intro x hx
    obtain ⟨j, hj⟩ := List.getElem?_of_mem hx
    rw [List.getElem?_take] at hj
    split at hj
    · exact key j x hj (by omega)
    · cases hj
theorem law05_BindingParts_pc (ho : OrderC Try.prog G n_binding_order) (b : List SlotT) (vs : List Int) (hb64 : ∀ s ∈ b, i64 s.value.int) : PureC Try.prog G n_proctorlaw05_BindingParts [slotsV b, .seq 1 (vs.map iv)] (.bool true) := by
  have s1 := law05_small_pc (G := G) b
  have aw := law05_awake_pc (G := G)
  refine pc_proctorlaw05_BindingParts (Runs.of fun Φ h => ?_)
  unfold c_proctorlaw05_BindingParts
  have fin : ∀ heap, Φ ⟨101, [(4, .bool true)], heap⟩ := fun heap => h _ ⟨_, _, rfl, rfl, .refl _⟩
  clear h
  cases e1 : smallB b with
  | false =>
    rw [e1] at s1
    simp only [slotsV] at s1
    (try (simp -implicitDefEqProofs only [go_sem, Nat.reduceAdd, Nat.reduceSub, Nat.reduceMul, Nat.reduceLT, Nat.reduceLeDiff, Nat.reduceEqDiff, Nat.reduceBEq, Int.reduceNeg, Int.reduceAdd, Int.reduceLT, Int.reduceLE, Int.reduceToNat, Int.reduceEq, Int.reduceNe, Int.reduceBEq, Int.reduceBNe, Int.reduceMul, Int.reduceSub, reduceIte, reduceCtorEq, slotsV])); repeat' ((first | refine at_guard (fun hb => ?_) (fun hb => ?_) | refine ⟨fun hb => ?_, fun hb => ?_⟩ | refine at_call (s1) rfl rfl ?_ | refine at_call (aw) rfl rfl ?_ | fail) <;> (try (simp -implicitDefEqProofs only [go_sem, Nat.reduceAdd, Nat.reduceSub, Nat.reduceMul, Nat.reduceLT, Nat.reduceLeDiff, Nat.reduceEqDiff, Nat.reduceBEq, Int.reduceNeg, Int.reduceAdd, Int.reduceLT, Int.reduceLE, Int.reduceToNat, Int.reduceEq, Int.reduceNe, Int.reduceBEq, Int.reduceBNe, Int.reduceMul, Int.reduceSub, reduceIte, reduceCtorEq, slotsV])))
    all_goals exact fin _
  | true =>
    rw [e1] at s1
    simp only [slotsV] at s1
    by_cases hv : vs.length ≤ 20
    · have e0 : decide ((20 : Int) < (vs.length : Int)) = false := by simp; omega
      obtain ⟨b8, bS, bC⟩ := small_of e1
      have kb := key_of e1 hb64
      have hok : okL b := fun s hs => (bC.good s hs).2.2
      have hU := Under1_pc ho b (by omega) hok
      have hK := Keep_pc (G := G) b vs (by omega) (by omega)
      have hY := binding_Key_pc (G := G) b (by omega) kb
      have hless : orderB (b.map (lessOne b)) = ((List.range b.length).map (cutAt b)).foldl putB [] := by
        have e : b.map (lessOne b) = (List.range b.length).map (cutAt b) := by
          apply List.ext_getElem?
          intro j
          rw [List.getElem?_map, List.getElem?_map]
          by_cases hj : j < b.length
          · obtain ⟨s, hs, _⟩ := at_some hj
            rw [hs, List.getElem?_range hj]
            simp [cut_less bC hs]
          · rw [List.getElem?_eq_none (by omega), List.getElem?_eq_none (by simp; omega)]
            rfl
        rw [e]
        refine order_puts fun x hx => ?_
        rw [← e] at hx
        obtain ⟨s, _, rfl⟩ := List.mem_map.1 hx
        exact fun y hy => hok y (List.mem_filter.1 hy).1
      rw [hless] at hU
      (try (simp -implicitDefEqProofs only [go_sem, Nat.reduceAdd, Nat.reduceSub, Nat.reduceMul, Nat.reduceLT, Nat.reduceLeDiff, Nat.reduceEqDiff, Nat.reduceBEq, Int.reduceNeg, Int.reduceAdd, Int.reduceLT, Int.reduceLE, Int.reduceToNat, Int.reduceEq, Int.reduceNe, Int.reduceBEq, Int.reduceBNe, Int.reduceMul, Int.reduceSub, reduceIte, reduceCtorEq, slotsV, List.length_map, e0])); repeat' ((first | refine at_guard (fun hb => ?_) (fun hb => ?_) | refine ⟨fun hb => ?_, fun hb => ?_⟩ | refine at_call (s1) rfl rfl ?_ | fail) <;> (try (simp -implicitDefEqProofs only [go_sem, Nat.reduceAdd, Nat.reduceSub, Nat.reduceMul, Nat.reduceLT, Nat.reduceLeDiff, Nat.reduceEqDiff, Nat.reduceBEq, Int.reduceNeg, Int.reduceAdd, Int.reduceLT, Int.reduceLE, Int.reduceToNat, Int.reduceEq, Int.reduceNe, Int.reduceBEq, Int.reduceBNe, Int.reduceMul, Int.reduceSub, reduceIte, reduceCtorEq, slotsV, List.length_map, e0])))
      refine at_loop (fun n st => ∃ (i : Nat) (K : List SlotT) (m : List (List SlotT)) (M : Str) (X : AV) (H : List (Nat × Box)), i + n = b.length ∧ st = ⟨101, [(0, .seq 5 (b.map slotV)), (1, .seq 1 (vs.map iv)), (5, .arr 5 0 K.length), (6, X), (7, .arr 7 0 M.length), (8, iv i)], H⟩ ∧
        ((X = .arr 6 0 0 ∧ m = [] ∧ H = [(5, ⟨true, t_api_Slot, 5, K.map slotV⟩), (6, ⟨true, t_Sapi_Slot, 1, []⟩), (7, ⟨true, t_uint8, 1, M.map byV⟩)]) ∨ (X = .seq 1 (m.map slotsV) ∧ H = [(5, ⟨true, t_api_Slot, 5, K.map slotV⟩), (7, ⟨true, t_uint8, 1, M.map byV⟩)])) ∧
        K = keepL (b.take i) vs ∧ m = ((List.range i).map (cutAt b)).foldl putB [] ∧ M = keyB (b.take i)) b.length ⟨0, [], [], [], _, _, by simp, rfl, .inl ⟨rfl, rfl, rfl⟩, rfl, rfl, rfl⟩ ?_
      rintro I hI n st ⟨i, K, m, M, X, H, hi, rfl, hX, hKe, hme, hMe⟩
      have hml : m.length ≤ 8 := by
        have := puts_len ((List.range i).map (cutAt b)) []
        rw [hme]
        simp only [List.length_nil, List.length_map, List.length_range] at this
        omega
      have hm8 : ∀ z ∈ m, z.length ≤ 1000 := fun z hz => by
        rw [hme] at hz
        rcases puts_mem _ _ _ hz with h | h
        · cases h
        · obtain ⟨j, _, rfl⟩ := List.mem_map.1 h
          unfold cutAt
          simp only [List.length_append, List.length_take, List.length_drop]
          omega
      have hKl : K.length ≤ 8 := by
        have := List.length_filter_le (fun x => vs.any fun y => x.var == y) (b.take i)
        rw [List.length_take] at this
        rw [hKe]
        unfold keepL
        omega
      have hMl : M.length ≤ 16080 := by
        have := keyB_len (b.take i) fun v hv => (kb v (List.mem_of_mem_take hv)).len
        rw [hMe]
        simp only [List.length_take] at this
        omega
      clear s1
      simp -implicitDefEqProofs only [go_sem, Nat.reduceAdd, Nat.reduceSub, Nat.reduceMul, Nat.reduceLT, Nat.reduceLeDiff, Nat.reduceEqDiff, Nat.reduceBEq, Int.reduceNeg, Int.reduceAdd, Int.reduceLT, Int.reduceLE, Int.reduceToNat, Int.reduceEq, Int.reduceNe, Int.reduceBEq, Int.reduceBNe, Int.reduceMul, Int.reduceSub, reduceIte, reduceCtorEq, List.length_map]
      refine ⟨fun hlt => ?_, fun hge => ?_⟩
      · have hlt' : i < b.length := by omega
        obtain ⟨s, hs, hsm⟩ := at_some hlt'
        have hw := wrap_succ hlt' (by omega)
        have hKn : keepL (b.take (i + 1)) vs = if (vs.any fun y => s.var == y) = true then K ++ [s] else K := by
          have := filter_takeC (p := fun x : SlotT => vs.any fun y => x.var == y) hs
          unfold keepL at hKe ⊢
          rw [this, ← hKe]
          split <;> simp
        have hln : ((List.range (i + 1)).map (cutAt b)).foldl putB [] = putB m (b.take i ++ b.drop (i + 1)) := by
          rw [List.range_succ, List.map_append, List.foldl_append, ← hme]
          rfl
        have hk := kb s hsm
        have c2 := ref04_Key_pc (G := G) s.value hk.ok hk.n64 hk.len
        have hMn : keyB (b.take (i + 1)) = M ++ (UInt8.ofNat (s.var + 16).toNat :: keyOne s.value) := by rw [keyB_succ hs, ← hMe]; rfl
        have h0 := hk.v0
        have h7 := hk.v7
        have hw16 : IntKind.i64.wrap (s.var + 16) = s.var + 16 := wrap_i64 (by omega) (by omega)
        have hby : IntKind.u8.wrap (s.var + 16) = ((UInt8.ofNat (s.var + 16).toNat).toNat : Int) := by
          simp [IntKind.wrap, IntKind.bits, IntKind.signed]
          omega
        have hyl : (keyOne s.value).length ≤ 2009 := by have := keyOne_len s.value; have := hk.len; omega
        have hstr : ∀ t ∈ b.take i ++ b.drop (i + 1), t.value.str.length < 9223372036854775807 := fun t ht => by
          have : t ∈ b := by
            rcases List.mem_append.1 ht with h | h
            · exact List.mem_of_mem_take h
            · exact List.mem_of_mem_drop h
          have := bS t this
          omega
        have hs1 : aslc 5 (.seq 5 (b.map slotV)) none (some (.int .i64 (i : Int))) = some (.seq 5 ((b.take i).map slotV)) := by
          simp [aslc, Nat.le_of_lt hlt', List.map_take]
        have hs2 : aslc 5 (.seq 5 (b.map slotV)) (some (.int .i64 ((i + 1 : Nat) : Int))) none = some (.seq 5 ((b.drop (i + 1)).map slotV)) := by
          have : ((i + 1 : Nat) : Int) ≤ (b.length : Int) := by omega
          simp only [aslc, Option.getD_some, Option.getD_none, List.length_map, Int.toNat_natCast]
          rw [if_pos ⟨trivial, by decide⟩, if_pos ⟨by omega, this, Int.le_refl _⟩, ← List.map_drop, List.take_of_length_le (by simp)]
        have hb0 : min i b.length = i := by omega
        have hb3 : i * 48 ≤ 140737488355328 := by omega
        have hb4 : (i + (b.length - (i + 1))) * 48 ≤ 140737488355328 := by omega
        have hb5 : M.length + 1 ≤ 140737488355328 := by omega
        have hb6 : M.length + 1 + (keyOne s.value).length ≤ 140737488355328 := by omega
        have hbk : (K.length + 1) * 48 ≤ 140737488355328 := by omega
        have ht1 : List.take (i + (b.length - (i + 1))) (List.take i (b.map slotV) ++ List.drop (i + 1) (b.map slotV)) = List.take i (b.map slotV) ++ List.drop (i + 1) (b.map slotV) := List.take_of_length_le (by simp; omega)
        clear h0 h7 hyl hk hme hMe hKe
        generalize keyOne s.value = y at *
        generalize UInt8.ofNat (s.var + 16).toNat = z at *
        simp only [bytesV] at c2
        rcases hX with ⟨rfl, rfl, rfl⟩ | ⟨rfl, rfl⟩
        · skip
          refine at_loop (fun n2 st => ∃ k : Nat, k + n2 = vs.length ∧ st = ⟨101, [(0, .seq 5 (b.map slotV)), (1, .seq 1 (vs.map iv)), (5, .arr 5 0 K.length), (6, .arr 6 0 0), (7, .arr 7 0 M.length), (8, iv i), (9, iv k)], [(5, ⟨true, t_api_Slot, 5, K.map slotV⟩), (6, ⟨true, t_Sapi_Slot, 1, []⟩), (7, ⟨true, t_uint8, 1, M.map byV⟩)]⟩ ∧ ∀ j x, j < k → vs[j]? = some x → x ≠ s.var) vs.length ⟨0, by simp, rfl, fun j x hj => by omega⟩ ?_
          rintro I2 hI2 n2 st ⟨k, hk, rfl, hno⟩
          have c1 := ref05_Put_pc (G := G) [] (b.take i ++ b.drop (i + 1)) (by simp) (by simp) (by simp; omega) (fun s hs => hstr s hs)
          simp -implicitDefEqProofs only [go_sem, Nat.reduceAdd, Nat.reduceSub, Nat.reduceMul, Nat.reduceLT, Nat.reduceLeDiff, Nat.reduceEqDiff, Nat.reduceBEq, Int.reduceNeg, Int.reduceAdd, Int.reduceLT, Int.reduceLE, Int.reduceToNat, Int.reduceEq, Int.reduceNe, Int.reduceBEq, Int.reduceBNe, Int.reduceMul, Int.reduceSub, reduceIte, reduceCtorEq, List.length_map]
          refine ⟨fun hlt2 => ?_, fun hge2 => ?_⟩
          · have hlt3 : k < vs.length := by omega
            obtain ⟨x, hx, hxm⟩ := at_some hlt3
            have hw2 := wrap_succ hlt3 (by omega)
            have ha2 := aiaddr_map (e := iv) (sz := 1) (H := [(5, ⟨true, t_api_Slot, 5, K.map slotV⟩), (6, ⟨true, t_Sapi_Slot, 1, []⟩), (7, ⟨true, t_uint8, 1, M.map byV⟩)]) hx
            by_cases e : x = s.var
            · have e1 : (x == s.var) = true := by simpa using e
              have hKs := hKn.trans (if_pos (List.any_eq_true.2 ⟨x, hxm, by rw [e]; simp⟩))
              (try (simp -implicitDefEqProofs only [go_sem, Nat.reduceAdd, Nat.reduceSub, Nat.reduceMul, Nat.reduceLT, Nat.reduceLeDiff, Nat.reduceEqDiff, Nat.reduceBEq, Int.reduceNeg, Int.reduceAdd, Int.reduceLT, Int.reduceLE, Int.reduceToNat, Int.reduceEq, Int.reduceNe, Int.reduceBEq, Int.reduceBNe, Int.reduceMul, Int.reduceSub, reduceIte, reduceCtorEq, ha2, hw2, aiaddr_map hs, slotV, valV, e1, List.length_map, hbk])); repeat' ((first | refine at_guard (fun hb => ?_) (fun hb => ?_) | refine ⟨fun hb => ?_, fun hb => ?_⟩ | fail) <;> (try (simp -implicitDefEqProofs only [go_sem, Nat.reduceAdd, Nat.reduceSub, Nat.reduceMul, Nat.reduceLT, Nat.reduceLeDiff, Nat.reduceEqDiff, Nat.reduceBEq, Int.reduceNeg, Int.reduceAdd, Int.reduceLT, Int.reduceLE, Int.reduceToNat, Int.reduceEq, Int.reduceNe, Int.reduceBEq, Int.reduceBNe, Int.reduceMul, Int.reduceSub, reduceIte, reduceCtorEq, ha2, hw2, aiaddr_map hs, slotV, valV, e1, List.length_map, hbk])))
              (try (simp -implicitDefEqProofs only [go_sem, Nat.reduceAdd, Nat.reduceSub, Nat.reduceMul, Nat.reduceLT, Nat.reduceLeDiff, Nat.reduceEqDiff, Nat.reduceBEq, Int.reduceNeg, Int.reduceAdd, Int.reduceLT, Int.reduceLE, Int.reduceToNat, Int.reduceEq, Int.reduceNe, Int.reduceBEq, Int.reduceBNe, Int.reduceMul, Int.reduceSub, reduceIte, reduceCtorEq, llV, hs1, hs2, hw, aiaddr_map hs, hb0, hb3, hb4, hb5, hb6, hw16, hby, slotV, valV, bytesV, List.length_map, List.length_append, List.length_take, List.length_drop, Nat.mul_one])); repeat' ((first | refine at_guard (fun hb => ?_) (fun hb => ?_) | refine ⟨fun hb => ?_, fun hb => ?_⟩ | (refine at_call c1 (by simp [viewC, flat, flat.go, viewAll, view, view.go, hget, hb0, ht1, llV, slotsV]) rfl ?_) | refine at_call (c2) rfl rfl ?_ | fail) <;> (try (simp -implicitDefEqProofs only [go_sem, Nat.reduceAdd, Nat.reduceSub, Nat.reduceMul, Nat.reduceLT, Nat.reduceLeDiff, Nat.reduceEqDiff, Nat.reduceBEq, Int.reduceNeg, Int.reduceAdd, Int.reduceLT, Int.reduceLE, Int.reduceToNat, Int.reduceEq, Int.reduceNe, Int.reduceBEq, Int.reduceBNe, Int.reduceMul, Int.reduceSub, reduceIte, reduceCtorEq, llV, hs1, hs2, hw, aiaddr_map hs, hb0, hb3, hb4, hb5, hb6, hw16, hby, slotV, valV, bytesV, List.length_map, List.length_append, List.length_take, List.length_drop, Nat.mul_one])))
              refine at_again (n - 1) (by omega) (hI _ _ ⟨i + 1, K ++ [s], putB [] (b.take i ++ b.drop (i + 1)), M ++ z :: y, .seq 1 ((putB [] (b.take i ++ b.drop (i + 1))).map slotsV), [(5, ⟨true, t_api_Slot, 5, (K ++ [s]).map slotV⟩), (7, ⟨true, t_uint8, 1, (M ++ z :: y).map byV⟩)], by omega, ?_, .inr ⟨rfl, rfl⟩, hKs.symm, hln.symm, hMn.symm⟩)
              simp [byV, slotV]
              try omega
            · have e1 : (x == s.var) = false := by simpa using e
              (try (simp -implicitDefEqProofs only [go_sem, Nat.reduceAdd, Nat.reduceSub, Nat.reduceMul, Nat.reduceLT, Nat.reduceLeDiff, Nat.reduceEqDiff, Nat.reduceBEq, Int.reduceNeg, Int.reduceAdd, Int.reduceLT, Int.reduceLE, Int.reduceToNat, Int.reduceEq, Int.reduceNe, Int.reduceBEq, Int.reduceBNe, Int.reduceMul, Int.reduceSub, reduceIte, reduceCtorEq, ha2, hw2, aiaddr_map hs, slotV, valV, e1])); repeat' ((first | refine at_guard (fun hb => ?_) (fun hb => ?_) | refine ⟨fun hb => ?_, fun hb => ?_⟩ | fail) <;> (try (simp -implicitDefEqProofs only [go_sem, Nat.reduceAdd, Nat.reduceSub, Nat.reduceMul, Nat.reduceLT, Nat.reduceLeDiff, Nat.reduceEqDiff, Nat.reduceBEq, Int.reduceNeg, Int.reduceAdd, Int.reduceLT, Int.reduceLE, Int.reduceToNat, Int.reduceEq, Int.reduceNe, Int.reduceBEq, Int.reduceBNe, Int.reduceMul, Int.reduceSub, reduceIte, reduceCtorEq, ha2, hw2, aiaddr_map hs, slotV, valV, e1])))
              exact at_again (n2 - 1) (by omega) (hI2 _ _ ⟨k + 1, by omega, rfl, fun j y hj hy => by
                by_cases e2 : j = k
                · subst e2; rw [hx] at hy; cases hy; exact e
                · exact hno j y (by omega) hy⟩)
          · have hKs := hKn.trans (if_neg (fun h => by
              obtain ⟨x, hx, e⟩ := List.any_eq_true.1 h
              obtain ⟨j, hj⟩ := List.getElem?_of_mem hx
              exact hno j x (by have := (List.getElem?_eq_some_iff.1 hj).1; omega) hj (by simpa using (beq_iff_eq.1 e).symm)))
            clear hno
            (try (simp -implicitDefEqProofs only [go_sem, Nat.reduceAdd, Nat.reduceSub, Nat.reduceMul, Nat.reduceLT, Nat.reduceLeDiff, Nat.reduceEqDiff, Nat.reduceBEq, Int.reduceNeg, Int.reduceAdd, Int.reduceLT, Int.reduceLE, Int.reduceToNat, Int.reduceEq, Int.reduceNe, Int.reduceBEq, Int.reduceBNe, Int.reduceMul, Int.reduceSub, reduceIte, reduceCtorEq, llV, hs1, hs2, hw, aiaddr_map hs, hb0, hb3, hb4, hb5, hb6, hw16, hby, slotV, valV, bytesV, List.length_map, List.length_append, List.length_take, List.length_drop, Nat.mul_one])); repeat' ((first | refine at_guard (fun hb => ?_) (fun hb => ?_) | refine ⟨fun hb => ?_, fun hb => ?_⟩ | (refine at_call c1 (by simp [viewC, flat, flat.go, viewAll, view, view.go, hget, hb0, ht1, llV, slotsV]) rfl ?_) | refine at_call (c2) rfl rfl ?_ | fail) <;> (try (simp -implicitDefEqProofs only [go_sem, Nat.reduceAdd, Nat.reduceSub, Nat.reduceMul, Nat.reduceLT, Nat.reduceLeDiff, Nat.reduceEqDiff, Nat.reduceBEq, Int.reduceNeg, Int.reduceAdd, Int.reduceLT, Int.reduceLE, Int.reduceToNat, Int.reduceEq, Int.reduceNe, Int.reduceBEq, Int.reduceBNe, Int.reduceMul, Int.reduceSub, reduceIte, reduceCtorEq, llV, hs1, hs2, hw, aiaddr_map hs, hb0, hb3, hb4, hb5, hb6, hw16, hby, slotV, valV, bytesV, List.length_map, List.length_append, List.length_take, List.length_drop, Nat.mul_one])))
            refine at_again (n - 1) (by omega) (hI _ _ ⟨i + 1, K, putB [] (b.take i ++ b.drop (i + 1)), M ++ z :: y, .seq 1 ((putB [] (b.take i ++ b.drop (i + 1))).map slotsV), [(5, ⟨true, t_api_Slot, 5, (K).map slotV⟩), (7, ⟨true, t_uint8, 1, (M ++ z :: y).map byV⟩)], by omega, ?_, .inr ⟨rfl, rfl⟩, hKs.symm, hln.symm, hMn.symm⟩)
            simp [byV, slotV]
            try omega
        · skip
          refine at_loop (fun n2 st => ∃ k : Nat, k + n2 = vs.length ∧ st = ⟨101, [(0, .seq 5 (b.map slotV)), (1, .seq 1 (vs.map iv)), (5, .arr 5 0 K.length), (6, .seq 1 (m.map slotsV)), (7, .arr 7 0 M.length), (8, iv i), (9, iv k)], [(5, ⟨true, t_api_Slot, 5, K.map slotV⟩), (7, ⟨true, t_uint8, 1, M.map byV⟩)]⟩ ∧ ∀ j x, j < k → vs[j]? = some x → x ≠ s.var) vs.length ⟨0, by simp, rfl, fun j x hj => by omega⟩ ?_
          rintro I2 hI2 n2 st ⟨k, hk, rfl, hno⟩
          have c1 := ref05_Put_pc (G := G) m (b.take i ++ b.drop (i + 1)) (by omega) hm8 (by simp; omega) (fun s hs => hstr s hs)
          simp -implicitDefEqProofs only [go_sem, Nat.reduceAdd, Nat.reduceSub, Nat.reduceMul, Nat.reduceLT, Nat.reduceLeDiff, Nat.reduceEqDiff, Nat.reduceBEq, Int.reduceNeg, Int.reduceAdd, Int.reduceLT, Int.reduceLE, Int.reduceToNat, Int.reduceEq, Int.reduceNe, Int.reduceBEq, Int.reduceBNe, Int.reduceMul, Int.reduceSub, reduceIte, reduceCtorEq, List.length_map]
          refine ⟨fun hlt2 => ?_, fun hge2 => ?_⟩
          · have hlt3 : k < vs.length := by omega
            obtain ⟨x, hx, hxm⟩ := at_some hlt3
            have hw2 := wrap_succ hlt3 (by omega)
            have ha2 := aiaddr_map (e := iv) (sz := 1) (H := [(5, ⟨true, t_api_Slot, 5, K.map slotV⟩), (7, ⟨true, t_uint8, 1, M.map byV⟩)]) hx
            by_cases e : x = s.var
            · have e1 : (x == s.var) = true := by simpa using e
              have hKs := hKn.trans (if_pos (List.any_eq_true.2 ⟨x, hxm, by rw [e]; simp⟩))
              (try (simp -implicitDefEqProofs only [go_sem, Nat.reduceAdd, Nat.reduceSub, Nat.reduceMul, Nat.reduceLT, Nat.reduceLeDiff, Nat.reduceEqDiff, Nat.reduceBEq, Int.reduceNeg, Int.reduceAdd, Int.reduceLT, Int.reduceLE, Int.reduceToNat, Int.reduceEq, Int.reduceNe, Int.reduceBEq, Int.reduceBNe, Int.reduceMul, Int.reduceSub, reduceIte, reduceCtorEq, ha2, hw2, aiaddr_map hs, slotV, valV, e1, List.length_map, hbk])); repeat' ((first | refine at_guard (fun hb => ?_) (fun hb => ?_) | refine ⟨fun hb => ?_, fun hb => ?_⟩ | fail) <;> (try (simp -implicitDefEqProofs only [go_sem, Nat.reduceAdd, Nat.reduceSub, Nat.reduceMul, Nat.reduceLT, Nat.reduceLeDiff, Nat.reduceEqDiff, Nat.reduceBEq, Int.reduceNeg, Int.reduceAdd, Int.reduceLT, Int.reduceLE, Int.reduceToNat, Int.reduceEq, Int.reduceNe, Int.reduceBEq, Int.reduceBNe, Int.reduceMul, Int.reduceSub, reduceIte, reduceCtorEq, ha2, hw2, aiaddr_map hs, slotV, valV, e1, List.length_map, hbk])))
              (try (simp -implicitDefEqProofs only [go_sem, Nat.reduceAdd, Nat.reduceSub, Nat.reduceMul, Nat.reduceLT, Nat.reduceLeDiff, Nat.reduceEqDiff, Nat.reduceBEq, Int.reduceNeg, Int.reduceAdd, Int.reduceLT, Int.reduceLE, Int.reduceToNat, Int.reduceEq, Int.reduceNe, Int.reduceBEq, Int.reduceBNe, Int.reduceMul, Int.reduceSub, reduceIte, reduceCtorEq, llV, hs1, hs2, hw, aiaddr_map hs, hb0, hb3, hb4, hb5, hb6, hw16, hby, slotV, valV, bytesV, List.length_map, List.length_append, List.length_take, List.length_drop, Nat.mul_one])); repeat' ((first | refine at_guard (fun hb => ?_) (fun hb => ?_) | refine ⟨fun hb => ?_, fun hb => ?_⟩ | (refine at_call c1 (by simp [viewC, flat, flat.go, viewAll, view, view.go, hget, hb0, ht1, llV, slotsV]) rfl ?_) | refine at_call (c2) rfl rfl ?_ | fail) <;> (try (simp -implicitDefEqProofs only [go_sem, Nat.reduceAdd, Nat.reduceSub, Nat.reduceMul, Nat.reduceLT, Nat.reduceLeDiff, Nat.reduceEqDiff, Nat.reduceBEq, Int.reduceNeg, Int.reduceAdd, Int.reduceLT, Int.reduceLE, Int.reduceToNat, Int.reduceEq, Int.reduceNe, Int.reduceBEq, Int.reduceBNe, Int.reduceMul, Int.reduceSub, reduceIte, reduceCtorEq, llV, hs1, hs2, hw, aiaddr_map hs, hb0, hb3, hb4, hb5, hb6, hw16, hby, slotV, valV, bytesV, List.length_map, List.length_append, List.length_take, List.length_drop, Nat.mul_one])))
              refine at_again (n - 1) (by omega) (hI _ _ ⟨i + 1, K ++ [s], putB m (b.take i ++ b.drop (i + 1)), M ++ z :: y, .seq 1 ((putB m (b.take i ++ b.drop (i + 1))).map slotsV), [(5, ⟨true, t_api_Slot, 5, (K ++ [s]).map slotV⟩), (7, ⟨true, t_uint8, 1, (M ++ z :: y).map byV⟩)], by omega, ?_, .inr ⟨rfl, rfl⟩, hKs.symm, hln.symm, hMn.symm⟩)
              simp [byV, slotV]
              try omega
            · have e1 : (x == s.var) = false := by simpa using e
              (try (simp -implicitDefEqProofs only [go_sem, Nat.reduceAdd, Nat.reduceSub, Nat.reduceMul, Nat.reduceLT, Nat.reduceLeDiff, Nat.reduceEqDiff, Nat.reduceBEq, Int.reduceNeg, Int.reduceAdd, Int.reduceLT, Int.reduceLE, Int.reduceToNat, Int.reduceEq, Int.reduceNe, Int.reduceBEq, Int.reduceBNe, Int.reduceMul, Int.reduceSub, reduceIte, reduceCtorEq, ha2, hw2, aiaddr_map hs, slotV, valV, e1])); repeat' ((first | refine at_guard (fun hb => ?_) (fun hb => ?_) | refine ⟨fun hb => ?_, fun hb => ?_⟩ | fail) <;> (try (simp -implicitDefEqProofs only [go_sem, Nat.reduceAdd, Nat.reduceSub, Nat.reduceMul, Nat.reduceLT, Nat.reduceLeDiff, Nat.reduceEqDiff, Nat.reduceBEq, Int.reduceNeg, Int.reduceAdd, Int.reduceLT, Int.reduceLE, Int.reduceToNat, Int.reduceEq, Int.reduceNe, Int.reduceBEq, Int.reduceBNe, Int.reduceMul, Int.reduceSub, reduceIte, reduceCtorEq, ha2, hw2, aiaddr_map hs, slotV, valV, e1])))
              exact at_again (n2 - 1) (by omega) (hI2 _ _ ⟨k + 1, by omega, rfl, fun j y hj hy => by
                by_cases e2 : j = k
                · subst e2; rw [hx] at hy; cases hy; exact e
                · exact hno j y (by omega) hy⟩)
          · have hKs := hKn.trans (if_neg (fun h => by
              obtain ⟨x, hx, e⟩ := List.any_eq_true.1 h
              obtain ⟨j, hj⟩ := List.getElem?_of_mem hx
              exact hno j x (by have := (List.getElem?_eq_some_iff.1 hj).1; omega) hj (by simpa using (beq_iff_eq.1 e).symm)))
            clear hno
            (try (simp -implicitDefEqProofs only [go_sem, Nat.reduceAdd, Nat.reduceSub, Nat.reduceMul, Nat.reduceLT, Nat.reduceLeDiff, Nat.reduceEqDiff, Nat.reduceBEq, Int.reduceNeg, Int.reduceAdd, Int.reduceLT, Int.reduceLE, Int.reduceToNat, Int.reduceEq, Int.reduceNe, Int.reduceBEq, Int.reduceBNe, Int.reduceMul, Int.reduceSub, reduceIte, reduceCtorEq, llV, hs1, hs2, hw, aiaddr_map hs, hb0, hb3, hb4, hb5, hb6, hw16, hby, slotV, valV, bytesV, List.length_map, List.length_append, List.length_take, List.length_drop, Nat.mul_one])); repeat' ((first | refine at_guard (fun hb => ?_) (fun hb => ?_) | refine ⟨fun hb => ?_, fun hb => ?_⟩ | (refine at_call c1 (by simp [viewC, flat, flat.go, viewAll, view, view.go, hget, hb0, ht1, llV, slotsV]) rfl ?_) | refine at_call (c2) rfl rfl ?_ | fail) <;> (try (simp -implicitDefEqProofs only [go_sem, Nat.reduceAdd, Nat.reduceSub, Nat.reduceMul, Nat.reduceLT, Nat.reduceLeDiff, Nat.reduceEqDiff, Nat.reduceBEq, Int.reduceNeg, Int.reduceAdd, Int.reduceLT, Int.reduceLE, Int.reduceToNat, Int.reduceEq, Int.reduceNe, Int.reduceBEq, Int.reduceBNe, Int.reduceMul, Int.reduceSub, reduceIte, reduceCtorEq, llV, hs1, hs2, hw, aiaddr_map hs, hb0, hb3, hb4, hb5, hb6, hw16, hby, slotV, valV, bytesV, List.length_map, List.length_append, List.length_take, List.length_drop, Nat.mul_one])))
            refine at_again (n - 1) (by omega) (hI _ _ ⟨i + 1, K, putB m (b.take i ++ b.drop (i + 1)), M ++ z :: y, .seq 1 ((putB m (b.take i ++ b.drop (i + 1))).map slotsV), [(5, ⟨true, t_api_Slot, 5, (K).map slotV⟩), (7, ⟨true, t_uint8, 1, (M ++ z :: y).map byV⟩)], by omega, ?_, .inr ⟨rfl, rfl⟩, hKs.symm, hln.symm, hMn.symm⟩)
            simp [byV, slotV]
            try omega
      · have hil : i = b.length := by omega
        subst hil
        rw [List.take_of_length_le (Nat.le_refl _)] at hKe hMe
        rw [← hme] at hU
        rw [← hKe] at hK
        rw [← hMe] at hY
        have c1 := ref05_Same_pc (G := G) K K (by omega) (by omega)
        rw [decide_eq_true rfl] at c1
        have c2 := law05_same_pc (G := G) m (by omega) hm8
        have ht1 : List.take K.length (K.map slotV) = K.map slotV := List.take_of_length_le (by simp)
        have ht2 : List.take M.length (M.map byV) = M.map byV := List.take_of_length_le (by simp)
        simp only [slotsV, llV] at hU hK hY c1 c2
        rcases hX with ⟨rfl, rfl, rfl⟩ | ⟨rfl, rfl⟩
        · simp only [List.map_nil] at hU c2
          (try (simp -implicitDefEqProofs only [go_sem, Nat.reduceAdd, Nat.reduceSub, Nat.reduceMul, Nat.reduceLT, Nat.reduceLeDiff, Nat.reduceEqDiff, Nat.reduceBEq, Int.reduceNeg, Int.reduceAdd, Int.reduceLT, Int.reduceLE, Int.reduceToNat, Int.reduceEq, Int.reduceNe, Int.reduceBEq, Int.reduceBNe, Int.reduceMul, Int.reduceSub, reduceIte, reduceCtorEq, ht2, asBytes_map, List.length_map, Nat.le_refl])); repeat' ((first | refine at_guard (fun hb => ?_) (fun hb => ?_) | refine ⟨fun hb => ?_, fun hb => ?_⟩ | refine at_call (hK) rfl rfl ?_ | (refine at_call c1 (by simp [viewC, flat, viewBs, viewB, viewK, hget, ht1]) rfl ?_) | refine at_call (hY) rfl rfl ?_ | refine at_call (hU) rfl rfl ?_ | refine at_call (c2) rfl rfl ?_ | refine at_call (aw) rfl rfl ?_ | fail) <;> (try (simp -implicitDefEqProofs only [go_sem, Nat.reduceAdd, Nat.reduceSub, Nat.reduceMul, Nat.reduceLT, Nat.reduceLeDiff, Nat.reduceEqDiff, Nat.reduceBEq, Int.reduceNeg, Int.reduceAdd, Int.reduceLT, Int.reduceLE, Int.reduceToNat, Int.reduceEq, Int.reduceNe, Int.reduceBEq, Int.reduceBNe, Int.reduceMul, Int.reduceSub, reduceIte, reduceCtorEq, ht2, asBytes_map, List.length_map, Nat.le_refl])))
          all_goals exact fin _
        · (try (simp -implicitDefEqProofs only [go_sem, Nat.reduceAdd, Nat.reduceSub, Nat.reduceMul, Nat.reduceLT, Nat.reduceLeDiff, Nat.reduceEqDiff, Nat.reduceBEq, Int.reduceNeg, Int.reduceAdd, Int.reduceLT, Int.reduceLE, Int.reduceToNat, Int.reduceEq, Int.reduceNe, Int.reduceBEq, Int.reduceBNe, Int.reduceMul, Int.reduceSub, reduceIte, reduceCtorEq, ht2, asBytes_map, List.length_map, Nat.le_refl])); repeat' ((first | refine at_guard (fun hb => ?_) (fun hb => ?_) | refine ⟨fun hb => ?_, fun hb => ?_⟩ | refine at_call (hK) rfl rfl ?_ | (refine at_call c1 (by simp [viewC, flat, viewBs, viewB, viewK, hget, ht1]) rfl ?_) | refine at_call (hY) rfl rfl ?_ | refine at_call (hU) rfl rfl ?_ | refine at_call (c2) rfl rfl ?_ | refine at_call (aw) rfl rfl ?_ | fail) <;> (try (simp -implicitDefEqProofs only [go_sem, Nat.reduceAdd, Nat.reduceSub, Nat.reduceMul, Nat.reduceLT, Nat.reduceLeDiff, Nat.reduceEqDiff, Nat.reduceBEq, Int.reduceNeg, Int.reduceAdd, Int.reduceLT, Int.reduceLE, Int.reduceToNat, Int.reduceEq, Int.reduceNe, Int.reduceBEq, Int.reduceBNe, Int.reduceMul, Int.reduceSub, reduceIte, reduceCtorEq, ht2, asBytes_map, List.length_map, Nat.le_refl])))
          all_goals exact fin _
    · have e0 : decide ((20 : Int) < (vs.length : Int)) = true := by simp; omega
      (try (simp -implicitDefEqProofs only [go_sem, Nat.reduceAdd, Nat.reduceSub, Nat.reduceMul, Nat.reduceLT, Nat.reduceLeDiff, Nat.reduceEqDiff, Nat.reduceBEq, Int.reduceNeg, Int.reduceAdd, Int.reduceLT, Int.reduceLE, Int.reduceToNat, Int.reduceEq, Int.reduceNe, Int.reduceBEq, Int.reduceBNe, Int.reduceMul, Int.reduceSub, reduceIte, reduceCtorEq, slotsV, List.length_map, e0])); repeat' ((first | refine at_guard (fun hb => ?_) (fun hb => ?_) | refine ⟨fun hb => ?_, fun hb => ?_⟩ | refine at_call (s1) rfl rfl ?_ | refine at_call (aw) rfl rfl ?_ | fail) <;> (try (simp -implicitDefEqProofs only [go_sem, Nat.reduceAdd, Nat.reduceSub, Nat.reduceMul, Nat.reduceLT, Nat.reduceLeDiff, Nat.reduceEqDiff, Nat.reduceBEq, Int.reduceNeg, Int.reduceAdd, Int.reduceLT, Int.reduceLE, Int.reduceToNat, Int.reduceEq, Int.reduceNe, Int.reduceBEq, Int.reduceBNe, Int.reduceMul, Int.reduceSub, reduceIte, reduceCtorEq, slotsV, List.length_map, e0])))
      all_goals exact fin _
end Go.Proofs.Ytjkdpahaingjjaa.Ab
