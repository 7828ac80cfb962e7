/-
  slices.Grow of nothing, slices.Concat of two, at slots; binding.Union. No claim is proved here.
-/
import Derived.Test.YtjkdpahaingjjaaYBd3
namespace Go.Proofs.Ytjkdpahaingjjaa.Ab
open Go Go.RowKit Go.Lib
set_option linter.unusedSimpArgs false
set_option maxHeartbeats 4000000
set_option maxRecDepth 100000
variable {G : Nat → Option AV}
theorem grow_none (w : World) : Calls Try.prog 48 #[.slice none 0 0, .int .i64 0] w fun e w' => e = .returned (.slice none 0 0) ∧ w' = w := by
  go_enter Try.func48, Try.ntmps48
  go_wp2
  go_ret
  exact ⟨rfl, rfl⟩
theorem grow_some (n : Nat) (w : World) (hn : 0 < n) (hbig : n ≤ 1000000) : Calls Try.prog 48 #[.slice none 0 0, .int .i64 n] w fun e w' =>
    e = .returned (.slice (some ⟨w.heap.size, 0, none⟩) 0 (grownCap w n 0 t_api_Slot)) ∧ w' = w.drew.alloc (.cells (Builtin.zeroCells zSlot.cells n ++ Builtin.zeroCells zSlot.cells (grownCap w n 0 t_api_Slot - n)) t_api_Slot) := by
  have mixed : Try.prog.follows Departure.mixedOrders = true := by kernel_rfl
  obtain ⟨i0, hi0, hz0, hzs, hzb⟩ := info_parts slot_info
  obtain ⟨ROW, hROW⟩ : ∃ ROW : Array Value, Builtin.zeroCells zSlot.cells n ++ Builtin.zeroCells zSlot.cells (grownCap w n 0 t_api_Slot - n) = ROW := ⟨_, rfl⟩
  rw [hROW]
  obtain ⟨C, hC⟩ : ∃ C, grownCap w n 0 t_api_Slot = C := ⟨_, rfl⟩
  have hrun : ∀ ty, (Builtin.append_ #[22, 3] ty #[.slice none 0 0, .int .i64 (n : Int)]).run Try.prog w = .ok (.slice (some ⟨w.heap.size, 0, none⟩) n C) (w.drew.alloc (.cells ROW t_api_Slot)) := fun ty => by
    rw [← hROW, ← hC]
    exact run_append_nil_zeros w 22 3 ty t_api_Slot i0 zSlot .i64 .i64 Try.underlying22 Try.underlying3 hi0 hz0 n hn (by omega) (by omega) (by rw [hzb]; omega)
  rw [hC]
  have hw1 : IntKind.i64.wrap (n : Int) = n := by rw [IntKind.wrap_i64]; omega
  have h1 : ¬ ((n : Int) < 0) := by omega
  have h2 : (0 : Int) < (n : Int) := by omega
  clear hROW hC
  go_enter Try.func48, Try.ntmps48
  go_wp2_with (at_builtin; refine Lib.wpList_append_run _ rfl _ _ _ _ rfl _ _ rfl rfl _ _ (hrun _) ?_)
  go_ret
  exact ⟨rfl, rfl⟩
theorem grow_hc (n : Nat) (hbig : n ≤ 1000000) : HeapC Try.prog G n_slices_Grow_api_Slot_api_Slot [.nils, iv n] [] (.arr 1000 0 0) [(1000, ⟨true, t_api_Slot, 5, []⟩)] := by
  intro w F nm vs hg ha hB
  obtain ⟨hs, hr⟩ := ha
  obtain ⟨vl⟩ := vs
  match vl, hs with
  | [v0, v1], _ =>
    have h0 := hr 0 _ v0 rfl rfl
    have h1 := hr 1 _ v1 rfl rfl
    clear hr
    cases h0
    cases h1
    have hget1 : ∀ i b, hget [(1000, (⟨true, t_api_Slot, 5, []⟩ : Box))] i = some b → i = 1000 ∧ b = ⟨true, t_api_Slot, 5, []⟩ := fun i b hi => by
      simp only [hget] at hi
      split at hi
      · rename_i e
        cases hi
        exact ⟨e.symm, rfl⟩
      · cases hi
    by_cases h0 : n = 0
    · subst h0
      refine (grow_none w).mono ?_
      rintro e w' ⟨rfl, rfl⟩
      refine ⟨_, F, fun _ => none, rfl, fun _ h => h, fun _ h => .inl h, hg.1, .arrN _ _, ⟨fun i b hi => ?_, fun i j b c m m' _ _ h1 => (by cases h1), fun i b m _ h1 => (by cases h1)⟩, fun i b hi => (by simp [hget] at hi), fun k hk => ?_, ⟨rfl, rfl, rfl, Nat.le_refl _⟩, fun _ _ _ => rfl⟩
      · obtain ⟨rfl, rfl⟩ := hget1 i b hi
        exact .inl ⟨rfl, rfl, rfl, by show 0 < 5; decide⟩
      · obtain ⟨i, b, m, _, h1, _⟩ := hk
        cases h1
    · refine (grow_some n w (by omega) hbig).mono ?_
      rintro e w' ⟨rfl, rfl⟩
      have hG := grownCap_ge w n 0 t_api_Slot
      have hGm := grownCap_le_maxLen w n 0 t_api_Slot (by unfold maxLen; omega)
      generalize grownCap w n 0 t_api_Slot = C at *
      refine ⟨_, F, fun i => if i = 1000 then some ⟨w.heap.size, 5, C, t_api_Slot⟩ else none, rfl, fun _ h => h, fun _ h => .inl h, fun b hb => Nat.lt_of_lt_of_le (hg.1 b hb) (by simp), ?_, ⟨fun i b hi => ?_, fun i j b c m m' hi hj _ _ _ => ?_, fun i b m hi hm => ?_⟩, fun i b hi => (by simp [hget] at hi), fun k hk => ?_, ⟨rfl, rfl, rfl, by simp⟩, fun k hk _ => Below.heap_alloc w _ k hk⟩
      · have key := Rd.arr (w := w.drew.alloc (.cells (Builtin.zeroCells zSlot.cells n ++ Builtin.zeroCells zSlot.cells (C - n)) t_api_Slot)) (F := F) (fun i => if i = 1000 then some (⟨w.heap.size, 5, C, t_api_Slot⟩ : Nm) else none) 1000 0 0 ⟨w.heap.size, 5, C, t_api_Slot⟩ (by simp) (by simp) (.inr rfl)
        simpa using key
      · obtain ⟨rfl, rfl⟩ := hget1 i b hi
        refine .inr ⟨_, by simp; rfl, .inl ⟨rfl, rfl, by show 0 < 5; decide, Builtin.zeroCells zSlot.cells n ++ Builtin.zeroCells zSlot.cells (C - n), ?_, ?_, by simp, hGm, fun e he => (by cases he), fun k e j c he hc => (by simp at he)⟩⟩
        · show (w.heap.push _)[w.heap.size]? = _
          simp
        · simp [Builtin.zeroCells, zSlot, Value.cells]
          omega
      · rw [(hget1 i b hi).1, (hget1 j c hj).1]
      · obtain ⟨rfl, rfl⟩ := hget1 i b hi
        simp only [if_true, Option.some.injEq] at hm
        subst hm
        exact fun h => absurd (hg.1 _ h) (by simp)
      · obtain ⟨i, b, m, hi, hm, rfl⟩ := hk
        obtain ⟨rfl, rfl⟩ := hget1 i b hi
        simp only [if_true, Option.some.injEq] at hm
        subst hm
        exact .inl (Nat.le_refl _)
theorem concat_pc (a b : List SlotT) (ha : a.length ≤ 1000) (hb : b.length ≤ 1000) : PureC Try.prog G n_slices_Concat_api_Slot_api_Slot [.seq 1 [slotsV a, slotsV b]] (slotsV (a ++ b)) := by
  have w1 : IntKind.i64.wrap (0 + 1) = 1 := by decide
  have w2 : IntKind.i64.wrap (1 + 1) = 2 := by decide
  have w5 : IntKind.i64.wrap 1 = 1 := by decide
  have w6 : IntKind.i64.wrap 2 = 2 := by decide
  have w3 : IntKind.i64.wrap (0 + (a.length : Int)) = a.length := by rw [wrap_i64 (by omega) (by omega)]; omega
  have w4 : IntKind.i64.wrap ((a.length : Int) + b.length) = ((a.length + b.length : Nat) : Int) := by rw [wrap_i64 (by omega) (by omega)]; omega
  have n1 : ((a.length : Int) < 0) = False := by simp
  have n2 : (((a.length + b.length : Nat) : Int) < 0) = False := by simp; omega
  have hgr := grow_hc (G := G) (a.length + b.length) (by omega)
  refine pc_slices_Concat_api_Slot_api_Slot (Runs.of fun Φ h => ?_)
  unfold c_slices_Concat_api_Slot_api_Slot
  simp -implicitDefEqProofs only [go_sem, Nat.reduceAdd, Nat.reduceSub, Nat.reduceMul, Nat.reduceLT, Nat.reduceLeDiff, Nat.reduceEqDiff, Nat.reduceBEq, Int.reduceNeg, Int.reduceAdd, Int.reduceLT, Int.reduceLE, Int.reduceToNat, Int.reduceEq, Int.reduceNe, Int.reduceBEq, Int.reduceBNe, Int.reduceMul, Int.reduceSub, reduceIte, reduceCtorEq, slotsV]
  refine at_loop (fun n st => (n = 2 ∧ st = ⟨36, [(0, .seq 1 [slotsV a, slotsV b]), (3, iv 0), (9, .seq 1 [slotsV a, slotsV b]), (10, iv 2), (11, iv 0)], [(2, ⟨true, t_api_Slot, 5, []⟩)]⟩) ∨ (n = 1 ∧ st = ⟨36, [(0, .seq 1 [slotsV a, slotsV b]), (3, iv a.length), (9, .seq 1 [slotsV a, slotsV b]), (10, iv 2), (11, iv 1)], [(2, ⟨true, t_api_Slot, 5, []⟩)]⟩) ∨
    (n = 0 ∧ st = ⟨36, [(0, .seq 1 [slotsV a, slotsV b]), (3, iv (a.length + b.length : Nat)), (9, .seq 1 [slotsV a, slotsV b]), (10, iv 2), (11, iv 2)], [(2, ⟨true, t_api_Slot, 5, []⟩)]⟩)) 2 (.inl ⟨rfl, rfl⟩) ?_
  rintro I hI n st (⟨rfl, rfl⟩ | ⟨rfl, rfl⟩ | ⟨rfl, rfl⟩)
  · (try (simp -implicitDefEqProofs only [go_sem, Nat.reduceAdd, Nat.reduceSub, Nat.reduceMul, Nat.reduceLT, Nat.reduceLeDiff, Nat.reduceEqDiff, Nat.reduceBEq, Int.reduceNeg, Int.reduceAdd, Int.reduceLT, Int.reduceLE, Int.reduceToNat, Int.reduceEq, Int.reduceNe, Int.reduceBEq, Int.reduceBNe, Int.reduceMul, Int.reduceSub, reduceIte, reduceCtorEq, slotsV, List.length_map, w1, w3, n1, decide_false])); repeat' ((first | refine at_guard (fun hb => ?_) (fun hb => ?_) | refine ⟨fun hb => ?_, fun hb => ?_⟩ | fail) <;> (try (simp -implicitDefEqProofs only [go_sem, Nat.reduceAdd, Nat.reduceSub, Nat.reduceMul, Nat.reduceLT, Nat.reduceLeDiff, Nat.reduceEqDiff, Nat.reduceBEq, Int.reduceNeg, Int.reduceAdd, Int.reduceLT, Int.reduceLE, Int.reduceToNat, Int.reduceEq, Int.reduceNe, Int.reduceBEq, Int.reduceBNe, Int.reduceMul, Int.reduceSub, reduceIte, reduceCtorEq, slotsV, List.length_map, w1, w3, n1, decide_false])))
    exact at_again 1 (by omega) (hI _ _ (.inr (.inl ⟨rfl, rfl⟩)))
  · (try (simp -implicitDefEqProofs only [go_sem, Nat.reduceAdd, Nat.reduceSub, Nat.reduceMul, Nat.reduceLT, Nat.reduceLeDiff, Nat.reduceEqDiff, Nat.reduceBEq, Int.reduceNeg, Int.reduceAdd, Int.reduceLT, Int.reduceLE, Int.reduceToNat, Int.reduceEq, Int.reduceNe, Int.reduceBEq, Int.reduceBNe, Int.reduceMul, Int.reduceSub, reduceIte, reduceCtorEq, slotsV, List.length_map, w2, w4, n2, decide_false])); repeat' ((first | refine at_guard (fun hb => ?_) (fun hb => ?_) | refine ⟨fun hb => ?_, fun hb => ?_⟩ | fail) <;> (try (simp -implicitDefEqProofs only [go_sem, Nat.reduceAdd, Nat.reduceSub, Nat.reduceMul, Nat.reduceLT, Nat.reduceLeDiff, Nat.reduceEqDiff, Nat.reduceBEq, Int.reduceNeg, Int.reduceAdd, Int.reduceLT, Int.reduceLE, Int.reduceToNat, Int.reduceEq, Int.reduceNe, Int.reduceBEq, Int.reduceBNe, Int.reduceMul, Int.reduceSub, reduceIte, reduceCtorEq, slotsV, List.length_map, w2, w4, n2, decide_false])))
    exact at_again 0 (by omega) (hI _ _ (.inr (.inr ⟨rfl, rfl⟩)))
  · (try (simp -implicitDefEqProofs only [go_sem, Nat.reduceAdd, Nat.reduceSub, Nat.reduceMul, Nat.reduceLT, Nat.reduceLeDiff, Nat.reduceEqDiff, Nat.reduceBEq, Int.reduceNeg, Int.reduceAdd, Int.reduceLT, Int.reduceLE, Int.reduceToNat, Int.reduceEq, Int.reduceNe, Int.reduceBEq, Int.reduceBNe, Int.reduceMul, Int.reduceSub, reduceIte, reduceCtorEq, slotsV, List.length_map])); repeat' ((first | refine at_guard (fun hb => ?_) (fun hb => ?_) | refine ⟨fun hb => ?_, fun hb => ?_⟩ | (refine at_callH [(1000, 24)] hgr rfl trivial rfl rfl rfl ?_) | fail) <;> (try (simp -implicitDefEqProofs only [go_sem, Nat.reduceAdd, Nat.reduceSub, Nat.reduceMul, Nat.reduceLT, Nat.reduceLeDiff, Nat.reduceEqDiff, Nat.reduceBEq, Int.reduceNeg, Int.reduceAdd, Int.reduceLT, Int.reduceLE, Int.reduceToNat, Int.reduceEq, Int.reduceNe, Int.reduceBEq, Int.reduceBNe, Int.reduceMul, Int.reduceSub, reduceIte, reduceCtorEq, slotsV, List.length_map])))
    clear hI
    have hb1 : a.length * 48 ≤ 140737488355328 := by omega
    have hb2 : (a.length + b.length) * 48 ≤ 140737488355328 := by omega
    refine at_loop (fun n st => (n = 2 ∧ st = ⟨36, [(6, .arr 24 0 0), (25, .seq 1 [slotsV a, slotsV b]), (26, iv 2), (27, iv 0)], [(2, ⟨true, t_api_Slot, 5, []⟩), (24, ⟨true, t_api_Slot, 5, []⟩)]⟩) ∨ (n = 1 ∧ st = ⟨36, [(6, .arr 24 0 a.length), (25, .seq 1 [slotsV a, slotsV b]), (26, iv 2), (27, iv 1)], [(2, ⟨true, t_api_Slot, 5, []⟩), (24, ⟨true, t_api_Slot, 5, a.map slotV⟩)]⟩) ∨
      (n = 0 ∧ st = ⟨36, [(6, .arr 24 0 (a.length + b.length)), (25, .seq 1 [slotsV a, slotsV b]), (26, iv 2), (27, iv 2)], [(2, ⟨true, t_api_Slot, 5, []⟩), (24, ⟨true, t_api_Slot, 5, a.map slotV ++ b.map slotV⟩)]⟩)) 2 (.inl ⟨rfl, rfl⟩) ?_
    rintro I hI n st (⟨rfl, rfl⟩ | ⟨rfl, rfl⟩ | ⟨rfl, rfl⟩)
    · (try (simp -implicitDefEqProofs only [go_sem, Nat.reduceAdd, Nat.reduceSub, Nat.reduceMul, Nat.reduceLT, Nat.reduceLeDiff, Nat.reduceEqDiff, Nat.reduceBEq, Int.reduceNeg, Int.reduceAdd, Int.reduceLT, Int.reduceLE, Int.reduceToNat, Int.reduceEq, Int.reduceNe, Int.reduceBEq, Int.reduceBNe, Int.reduceMul, Int.reduceSub, reduceIte, reduceCtorEq, slotsV, List.length_map, List.length_append, w1, w5, hb1])); repeat' ((first | refine at_guard (fun hb => ?_) (fun hb => ?_) | refine ⟨fun hb => ?_, fun hb => ?_⟩ | fail) <;> (try (simp -implicitDefEqProofs only [go_sem, Nat.reduceAdd, Nat.reduceSub, Nat.reduceMul, Nat.reduceLT, Nat.reduceLeDiff, Nat.reduceEqDiff, Nat.reduceBEq, Int.reduceNeg, Int.reduceAdd, Int.reduceLT, Int.reduceLE, Int.reduceToNat, Int.reduceEq, Int.reduceNe, Int.reduceBEq, Int.reduceBNe, Int.reduceMul, Int.reduceSub, reduceIte, reduceCtorEq, slotsV, List.length_map, List.length_append, w1, w5, hb1])))
      exact at_again 1 (by omega) (hI _ _ (.inr (.inl ⟨rfl, rfl⟩)))
    · (try (simp -implicitDefEqProofs only [go_sem, Nat.reduceAdd, Nat.reduceSub, Nat.reduceMul, Nat.reduceLT, Nat.reduceLeDiff, Nat.reduceEqDiff, Nat.reduceBEq, Int.reduceNeg, Int.reduceAdd, Int.reduceLT, Int.reduceLE, Int.reduceToNat, Int.reduceEq, Int.reduceNe, Int.reduceBEq, Int.reduceBNe, Int.reduceMul, Int.reduceSub, reduceIte, reduceCtorEq, slotsV, List.length_map, List.length_append, w2, w6, hb2])); repeat' ((first | refine at_guard (fun hb => ?_) (fun hb => ?_) | refine ⟨fun hb => ?_, fun hb => ?_⟩ | fail) <;> (try (simp -implicitDefEqProofs only [go_sem, Nat.reduceAdd, Nat.reduceSub, Nat.reduceMul, Nat.reduceLT, Nat.reduceLeDiff, Nat.reduceEqDiff, Nat.reduceBEq, Int.reduceNeg, Int.reduceAdd, Int.reduceLT, Int.reduceLE, Int.reduceToNat, Int.reduceEq, Int.reduceNe, Int.reduceBEq, Int.reduceBNe, Int.reduceMul, Int.reduceSub, reduceIte, reduceCtorEq, slotsV, List.length_map, List.length_append, w2, w6, hb2])))
      exact at_again 0 (by omega) (hI _ _ (.inr (.inr ⟨rfl, rfl⟩)))
    · (try (simp -implicitDefEqProofs only [go_sem, Nat.reduceAdd, Nat.reduceSub, Nat.reduceMul, Nat.reduceLT, Nat.reduceLeDiff, Nat.reduceEqDiff, Nat.reduceBEq, Int.reduceNeg, Int.reduceAdd, Int.reduceLT, Int.reduceLE, Int.reduceToNat, Int.reduceEq, Int.reduceNe, Int.reduceBEq, Int.reduceBNe, Int.reduceMul, Int.reduceSub, reduceIte, reduceCtorEq])); repeat' ((first | refine at_guard (fun hb => ?_) (fun hb => ?_) | refine ⟨fun hb => ?_, fun hb => ?_⟩ | fail) <;> (try (simp -implicitDefEqProofs only [go_sem, Nat.reduceAdd, Nat.reduceSub, Nat.reduceMul, Nat.reduceLT, Nat.reduceLeDiff, Nat.reduceEqDiff, Nat.reduceBEq, Int.reduceNeg, Int.reduceAdd, Int.reduceLT, Int.reduceLE, Int.reduceToNat, Int.reduceEq, Int.reduceNe, Int.reduceBEq, Int.reduceBNe, Int.reduceMul, Int.reduceSub, reduceIte, reduceCtorEq])))
      have e : (a ++ b).map slotV = a.map slotV ++ b.map slotV := List.map_append
      rw [← e]
      refine h _ ⟨_, _, rfl, view_row (ty := t_api_Slot) (e := slotV) (l := a ++ b) (by decide) (by simp [hget]) (by simp), .refl _⟩
end Go.Proofs.Ytjkdpahaingjjaa.Ab
