/-
  core.Right, proctorref13.Right; the law CoreRight, awake. Of an automaton that may be: which expressions may be. What is said of values may be said more weakly, in lists too. No claim is proved here.
-/
import Derived.Test.YtdfdiglnpekcpabDoorQD24
import Derived.Test.YtdfdiglnpekcpabDoorQD23
import Derived.Test.YtdfdiglnpekcpabDoorQD25
import Derived.Test.YtdfdiglnpekcpabDoorQV10
namespace Go.Proofs.YtdfdiglnpekcpabDoor.Ab
open Go
set_option linter.unusedSimpArgs false
set_option maxHeartbeats 4000000
variable {G : Nat → Option AV}
theorem ref13_Right_pc (q : QeaT) (hq : q.Few) : PureC Tryd.prog G n_proctorref13_Right [qeaV q] (.bool (rightR q)) := by
  have hck := ref07_Check_pc (G := G) q.decls (by have := hq.decls; omega) (fun d hd => by have := hq.types d hd; omega)
  have hnm := ref13_names_pc (G := G) q hq
  have htl := hq.trans
  refine pc_proctorref13_Right (Runs.of fun Φ h => ?_)
  unfold c_proctorref13_Right
  have fin : ∀ b heap, rightR q = b → Φ ⟨101, [(2, .bool b)], heap⟩ := fun b heap e => h _ ⟨_, _, rfl, rfl, fitB e.symm⟩
  clear h
  simp only [qeaV, declsV, quantsV, freesV, statesV, symsV, nodesV, transsV] at hck hnm
  cases hT : topR q with
  | false =>
    have hR : rightR q = false := by rw [rightR, hT, Bool.false_and]
    unfold topR fewS at hT
    generalize declCheck q.decls = dc at *
    generalize headR q = hd at *
    simp only [Bool.and_eq_false_imp, decide_eq_true_eq, decide_eq_false_iff_not, Bool.and_eq_true, beq_iff_eq] at hT
    (try (simp -implicitDefEqProofs only [go_sem, Nat.reduceAdd, Nat.reduceSub, Nat.reduceMul, Nat.reduceLT, Nat.reduceLeDiff, Nat.reduceEqDiff, Nat.reduceBEq, Int.reduceNeg, Int.reduceAdd, Int.reduceLT, Int.reduceLE, Int.reduceToNat, Int.reduceEq, Int.reduceNe, Int.reduceBEq, Int.reduceBNe, Int.reduceMul, Int.reduceSub, reduceIte, reduceCtorEq, qeaV, declsV, quantsV, freesV, statesV, symsV, nodesV, transsV, List.length_map])); repeat' ((first | refine at_guard (fun hb => ?_) (fun hb => ?_) | refine ⟨fun hb => ?_, fun hb => ?_⟩ | refine at_call (hck) rfl rfl ?_ | refine at_call (hnm) rfl rfl ?_ | fail) <;> (try (simp -implicitDefEqProofs only [go_sem, Nat.reduceAdd, Nat.reduceSub, Nat.reduceMul, Nat.reduceLT, Nat.reduceLeDiff, Nat.reduceEqDiff, Nat.reduceBEq, Int.reduceNeg, Int.reduceAdd, Int.reduceLT, Int.reduceLE, Int.reduceToNat, Int.reduceEq, Int.reduceNe, Int.reduceBEq, Int.reduceBNe, Int.reduceMul, Int.reduceSub, reduceIte, reduceCtorEq, qeaV, declsV, quantsV, freesV, statesV, symsV, nodesV, transsV, List.length_map])))
    all_goals first | exact fin _ _ hR | (exfalso; clear fin hck hnm; simp_all; omega) | (exfalso; clear fin hck hnm; simp_all; done)
  | true =>
    have hR : rightR q = (transAll q && symbolsR q) := by rw [rightR, hT, Bool.true_and]
    have hk : q.Kinds := by
      unfold topR at hT
      simp only [Bool.and_eq_true] at hT
      exact top_kinds hT.2.2.2.2
    unfold topR fewS at hT
    generalize declCheck q.decls = dc at *
    generalize headR q = hd at *
    simp only [decide_eq_true_eq, Bool.and_eq_true, beq_iff_eq] at hT
    obtain ⟨t1, ⟨t2, t3, t4, t5, t6, t7⟩, t8, t9, t10⟩ := hT
    subst t10
    (try (simp -implicitDefEqProofs only [go_sem, Nat.reduceAdd, Nat.reduceSub, Nat.reduceMul, Nat.reduceLT, Nat.reduceLeDiff, Nat.reduceEqDiff, Nat.reduceBEq, Int.reduceNeg, Int.reduceAdd, Int.reduceLT, Int.reduceLE, Int.reduceToNat, Int.reduceEq, Int.reduceNe, Int.reduceBEq, Int.reduceBNe, Int.reduceMul, Int.reduceSub, reduceIte, reduceCtorEq, qeaV, declsV, quantsV, freesV, statesV, symsV, nodesV, transsV, List.length_map, t1])); repeat' ((first | refine at_guard (fun hb => ?_) (fun hb => ?_) | refine ⟨fun hb => ?_, fun hb => ?_⟩ | refine at_call (hck) rfl rfl ?_ | refine at_call (hnm) rfl rfl ?_ | fail) <;> (try (simp -implicitDefEqProofs only [go_sem, Nat.reduceAdd, Nat.reduceSub, Nat.reduceMul, Nat.reduceLT, Nat.reduceLeDiff, Nat.reduceEqDiff, Nat.reduceBEq, Int.reduceNeg, Int.reduceAdd, Int.reduceLT, Int.reduceLE, Int.reduceToNat, Int.reduceEq, Int.reduceNe, Int.reduceBEq, Int.reduceBNe, Int.reduceMul, Int.reduceSub, reduceIte, reduceCtorEq, qeaV, declsV, quantsV, freesV, statesV, symsV, nodesV, transsV, List.length_map, t1])))
    all_goals first | (exfalso; clear fin hck hnm; simp at *; omega) | (exfalso; clear fin hck hnm; simp at *; done) | skip
    refine at_loop (fun n st => ∃ (i : Nat) (a : Int), i + n = q.trans.length ∧ st = ⟨101, [(1, .ref 1 0 0), (5, iv a), (6, iv i)], [(1, ⟨false, t_api_Qea, 9, [qeaV q]⟩)]⟩ ∧ 0 ≤ a ∧ a ≤ q.nodes.length ∧ (∀ j t, j < i → q.trans[j]? = some t → inR t.symbol q.symbols.length = true) ∧ allS (stepR q) q.trans 0 0 = allS (stepR q) (q.trans.drop i) i a) q.trans.length ⟨0, 0, by simp, rfl, by omega, by omega, fun j x hj => by omega, rfl⟩ ?_
    rintro I hI n st ⟨i, a, hi, rfl, h0, hl, hin, hno⟩
    simp -implicitDefEqProofs only [go_sem, Nat.reduceAdd, Nat.reduceSub, Nat.reduceMul, Nat.reduceLT, Nat.reduceLeDiff, Nat.reduceEqDiff, Nat.reduceBEq, Int.reduceNeg, Int.reduceAdd, Int.reduceLT, Int.reduceLE, Int.reduceToNat, Int.reduceEq, Int.reduceNe, Int.reduceBEq, Int.reduceBNe, Int.reduceMul, Int.reduceSub, reduceIte, reduceCtorEq, qeaV, declsV, quantsV, freesV, statesV, symsV, nodesV, transsV, List.length_map]
    refine ⟨fun hlt => ?_, fun hge => ?_⟩
    · have hlt' : i < q.trans.length := by omega
      obtain ⟨t, ht, hm⟩ := at_some hlt'
      have hw := wrap_succ hlt' (by omega)
      have hc := ref13_trans_pc (G := G) q hq hk t (by have := hq.sets t hm; omega) a h0 hl
      have hle := transR_le (t := t) h0 hl
      rw [allS_step ht] at hno
      unfold stepR at hno
      have hno' : (if (transR q t a).2 = true then allS (stepR q) (q.trans.drop (i + 1)) (i + 1) (transR q t a).1 else (false, (transR q t a).1)) = allS (stepR q) q.trans 0 0 := hno.symm
      clear hno
      generalize transR q t a = r at *
      obtain ⟨A, b⟩ := r
      dsimp only at hle hno'
      simp only [transV, setsV, qeaV, declsV, quantsV, freesV, statesV, symsV, nodesV, transsV, tupR] at hc
      cases b with
      | false =>
        have hbad : rightR q = false := by rw [hR, transAll, ← hno']; rfl
        (try (simp -implicitDefEqProofs only [go_sem, Nat.reduceAdd, Nat.reduceSub, Nat.reduceMul, Nat.reduceLT, Nat.reduceLeDiff, Nat.reduceEqDiff, Nat.reduceBEq, Int.reduceNeg, Int.reduceAdd, Int.reduceLT, Int.reduceLE, Int.reduceToNat, Int.reduceEq, Int.reduceNe, Int.reduceBEq, Int.reduceBNe, Int.reduceMul, Int.reduceSub, reduceIte, reduceCtorEq, aiaddr_map ht, transV, setsV, qeaV, declsV, quantsV, freesV, statesV, symsV, nodesV, transsV, List.length_map, hw])); repeat' ((first | refine at_guard (fun hb => ?_) (fun hb => ?_) | refine ⟨fun hb => ?_, fun hb => ?_⟩ | refine at_call (hc) rfl rfl ?_ | fail) <;> (try (simp -implicitDefEqProofs only [go_sem, Nat.reduceAdd, Nat.reduceSub, Nat.reduceMul, Nat.reduceLT, Nat.reduceLeDiff, Nat.reduceEqDiff, Nat.reduceBEq, Int.reduceNeg, Int.reduceAdd, Int.reduceLT, Int.reduceLE, Int.reduceToNat, Int.reduceEq, Int.reduceNe, Int.reduceBEq, Int.reduceBNe, Int.reduceMul, Int.reduceSub, reduceIte, reduceCtorEq, aiaddr_map ht, transV, setsV, qeaV, declsV, quantsV, freesV, statesV, symsV, nodesV, transsV, List.length_map, hw])))
        exact fin _ _ hbad
      | true =>
        obtain ⟨l1, l2, l3⟩ := hle rfl
        have hnext : again I n ⟨101, [(1, .ref 1 0 0), (5, iv A), (6, iv (i + 1 : Nat))], [(1, ⟨false, t_api_Qea, 9, [qeaV q]⟩)]⟩ := at_again (n - 1) (by omega) (hI _ _ ⟨i + 1, A, by omega, rfl, l1, l2, allI_step (p := fun _ (t : TransT) => inR t.symbol q.symbols.length) ht l3 hin, by rw [← hno', if_pos rfl]⟩)
        (try (simp -implicitDefEqProofs only [go_sem, Nat.reduceAdd, Nat.reduceSub, Nat.reduceMul, Nat.reduceLT, Nat.reduceLeDiff, Nat.reduceEqDiff, Nat.reduceBEq, Int.reduceNeg, Int.reduceAdd, Int.reduceLT, Int.reduceLE, Int.reduceToNat, Int.reduceEq, Int.reduceNe, Int.reduceBEq, Int.reduceBNe, Int.reduceMul, Int.reduceSub, reduceIte, reduceCtorEq, aiaddr_map ht, transV, setsV, qeaV, declsV, quantsV, freesV, statesV, symsV, nodesV, transsV, List.length_map, hw])); repeat' ((first | refine at_guard (fun hb => ?_) (fun hb => ?_) | refine ⟨fun hb => ?_, fun hb => ?_⟩ | refine at_call (hc) rfl rfl ?_ | fail) <;> (try (simp -implicitDefEqProofs only [go_sem, Nat.reduceAdd, Nat.reduceSub, Nat.reduceMul, Nat.reduceLT, Nat.reduceLeDiff, Nat.reduceEqDiff, Nat.reduceBEq, Int.reduceNeg, Int.reduceAdd, Int.reduceLT, Int.reduceLE, Int.reduceToNat, Int.reduceEq, Int.reduceNe, Int.reduceBEq, Int.reduceBNe, Int.reduceMul, Int.reduceSub, reduceIte, reduceCtorEq, aiaddr_map ht, transV, setsV, qeaV, declsV, quantsV, freesV, statesV, symsV, nodesV, transsV, List.length_map, hw])))
        exact hnext
    · have hs : ∀ t ∈ q.trans, inR t.symbol q.symbols.length = true := fun t ht => by
        obtain ⟨j, hj⟩ := List.getElem?_of_mem ht
        exact hin j t (by have := (List.getElem?_eq_some_iff.1 hj).1; omega) hj
      have hsy := ref13_symbols_pc (G := G) q hq hs
      rw [allS_end (by omega)] at hno
      have hA : transAll q = (a == (q.nodes.length : Int)) := by rw [transAll, hno]; rfl
      rw [hA] at hR
      simp only [qeaV, declsV, quantsV, freesV, statesV, symsV, nodesV, transsV] at hsy
      generalize symbolsR q = sy at *
      clear hI hin hno hA
      (try (simp -implicitDefEqProofs only [go_sem, Nat.reduceAdd, Nat.reduceSub, Nat.reduceMul, Nat.reduceLT, Nat.reduceLeDiff, Nat.reduceEqDiff, Nat.reduceBEq, Int.reduceNeg, Int.reduceAdd, Int.reduceLT, Int.reduceLE, Int.reduceToNat, Int.reduceEq, Int.reduceNe, Int.reduceBEq, Int.reduceBNe, Int.reduceMul, Int.reduceSub, reduceIte, reduceCtorEq, qeaV, declsV, quantsV, freesV, statesV, symsV, nodesV, transsV, List.length_map])); repeat' ((first | refine at_guard (fun hb => ?_) (fun hb => ?_) | refine ⟨fun hb => ?_, fun hb => ?_⟩ | refine at_call (hsy) rfl rfl ?_ | fail) <;> (try (simp -implicitDefEqProofs only [go_sem, Nat.reduceAdd, Nat.reduceSub, Nat.reduceMul, Nat.reduceLT, Nat.reduceLeDiff, Nat.reduceEqDiff, Nat.reduceBEq, Int.reduceNeg, Int.reduceAdd, Int.reduceLT, Int.reduceLE, Int.reduceToNat, Int.reduceEq, Int.reduceNe, Int.reduceBEq, Int.reduceBNe, Int.reduceMul, Int.reduceSub, reduceIte, reduceCtorEq, qeaV, declsV, quantsV, freesV, statesV, symsV, nodesV, transsV, List.length_map])))
      all_goals
        refine fin _ _ ?_
        rw [hR]
        clear hR fin hsy hck hnm
        simp_all
theorem few_of (q : QeaT) (h : fewQ q = true) : q.Few := by
  unfold fewQ fewTop at h
  simp only [Bool.and_eq_true, decide_eq_true_eq] at h
  obtain ⟨⟨h1, h2, h3, h4, h5, h6, h7, h8⟩, h9, h10, h11, h12, h13⟩ := h
  refine ⟨by omega, fun d hd => ?_, by omega, by omega, by omega, by omega, fun s hs => ?_, by omega, by omega, fun t ht => ?_⟩
  · obtain ⟨i, hi⟩ := List.getElem?_of_mem hd
    have := allI_true.1 h9 i d hi
    unfold fewDecl at this
    simp only [Bool.and_eq_true, decide_eq_true_eq] at this
    omega
  · obtain ⟨i, hi⟩ := List.getElem?_of_mem hs
    have := allI_true.1 h10 i s hi
    unfold fewSym at this
    simp only [Bool.and_eq_true, decide_eq_true_eq] at this
    omega
  · obtain ⟨i, hi⟩ := List.getElem?_of_mem ht
    have := allI_true.1 h13 i t hi
    simp only [decide_eq_true_eq] at this
    omega
end Go.Proofs.YtdfdiglnpekcpabDoor.Ab
namespace Go.Proofs.YtdfdiglnpekcpabDoor.Ab
open Go
set_option linter.unusedSimpArgs false
/-- A place whose expression has a kind. -/
def KindAt (q : QeaT) (i : Nat) : Prop := ∃ e, (exprs q)[i]? = some e ∧ ¬ e.kind = 0
theorem exL_get {q : QeaT} {i : Nat} {x : NodeT} (hx : q.nodes[i]? = some x) : ∀ n, i < n → n ≤ q.nodes.length → (exL q n)[i]? = some (exStep q (exL q i) i x)
  | 0, h, _ => absurd h (by omega)
  | n + 1, h, hn => by
    obtain ⟨y, hy, _⟩ := at_some (l := q.nodes) (i := n) (by omega)
    have hl := exL_length q n (by omega)
    rw [exL_step hy]
    by_cases e : i = n
    · subst e
      rw [hx] at hy; cases hy
      rw [List.getElem?_append_right (by omega), hl]
      simp
    · rw [List.getElem?_append_left (by omega)]
      exact exL_get hx n (by omega) (by omega)
theorem exL_pre {q : QeaT} {i j : Nat} {e : ExT} (hi : i ≤ q.nodes.length) (h : (exL q i)[j]? = some e) : (exprs q)[j]? = some e := by
  have hl := exL_length q i hi
  have hj := (List.getElem?_eq_some_iff.1 h).1
  obtain ⟨x, hx, _⟩ := at_some (l := q.nodes) (i := j) (by omega)
  rw [exL_get hx i (by omega) hi] at h
  unfold exprs
  rw [exL_get hx _ (by omega) (Nat.le_refl _)]
  exact h
theorem safe_of (q : QeaT) (h64 : ∀ x ∈ q.nodes, i64 x.value.int) : Safe q (KindAt q) := by
  have key : ∀ i, KindAt q i → ∃ x, q.nodes[i]? = some x ∧ NodeW q i x ∧ (4 ≤ x.op → KindAt q x.a.toNat ∧ (6 ≤ x.op → KindAt q x.b.toNat)) := by
    rintro i ⟨e, he, hk⟩
    have hlen := exL_length q q.nodes.length (Nat.le_refl _)
    have hi : i < q.nodes.length := by
      have := (List.getElem?_eq_some_iff.1 he).1
      unfold exprs at this
      omega
    obtain ⟨x, hx, hm⟩ := at_some hi
    have hel := exL_length q i (by omega)
    unfold exprs at he
    rw [exL_get hx _ hi (Nat.le_refl _)] at he
    simp only [Option.some.injEq] at he
    subst he
    refine ⟨x, hx, ?_⟩
    unfold exStep at hk
    cases hleaf : leafOf q i x with
    | some e =>
      unfold leafOf at hleaf
      by_cases h1 : x.op = 1
      · rw [if_pos h1] at hleaf
        split at hleaf
        · rename_i hc
          exact ⟨.con h1 ⟨hc.2.2, h64 x hm⟩, fun h => by omega⟩
        · cases hleaf
      rw [if_neg h1] at hleaf
      by_cases h2 : x.op = 2
      · rw [if_pos h2] at hleaf
        split at hleaf
        · obtain ⟨y, hy, _⟩ := Option.map_eq_some_iff.1 hleaf
          obtain ⟨j, hj, hy⟩ := at?_some hy
          exact ⟨.quant h2 j hj y hy, fun h => by omega⟩
        · cases hleaf
      rw [if_neg h2] at hleaf
      by_cases h3 : x.op = 3
      · rw [if_pos h3] at hleaf
        split at hleaf
        · obtain ⟨y, hy, _⟩ := Option.map_eq_some_iff.1 hleaf
          obtain ⟨j, hj, hy⟩ := at?_some hy
          exact ⟨.free h3 j hj y hy, fun h => by omega⟩
        · cases hleaf
      rw [if_neg h3] at hleaf
      cases hleaf
    | none =>
      rw [hleaf] at hk
      dsimp only at hk
      split at hk
      · exact absurd rfl hk
      rename_i hop
      have hop4 : 4 ≤ x.op ∧ x.op ≤ 16 := by
        constructor
        · by_cases h : 4 ≤ x.op
          · exact h
          · exact absurd (.inl (by omega)) hop
        · by_cases h : x.op ≤ 16
          · exact h
          · exact absurd (.inr (.inl (by omega))) hop
      cases hb : at? (exL q i) ((i : Int) - 1) with
      | none => rw [hb] at hk; exact absurd rfl hk
      | some b =>
        rw [hb] at hk
        dsimp only at hk
        obtain ⟨j, hj, hbj⟩ := at?_some hb
        have hjl := (List.getElem?_eq_some_iff.1 hbj).1
        split at hk
        · exact absurd rfl hk
        rename_i hbk
        have hKj : KindAt q j := ⟨b, exL_pre (by omega) hbj, hbk⟩
        split at hk
        · rename_i h5
          split at hk
          · rename_i hc
            have hxa : x.a = j := by omega
            refine ⟨.una (by omega) j hxa (by omega), fun _ => ⟨by rw [hxa, Int.toNat_natCast]; exact hKj, fun h => by omega⟩⟩
          · exact absurd rfl hk
        · rename_i h5
          split at hk
          · rename_i hc
            cases ha : at? (exL q i) x.a with
            | none => rw [ha] at hk; exact absurd rfl hk
            | some a =>
              rw [ha] at hk
              dsimp only at hk
              split at hk
              · exact absurd rfl hk
              rename_i hak
              obtain ⟨k, hxk, hak'⟩ := at?_some ha
              have hkl := (List.getElem?_eq_some_iff.1 hak').1
              have hxb : x.b = j := by omega
              refine ⟨.bin (by omega) k j hxk hxb (by omega) (by omega), fun _ => ⟨?_, fun _ => ?_⟩⟩
              · rw [hxk, Int.toNat_natCast]
                exact ⟨a, exL_pre (by omega) hak', hak⟩
              · rw [hxb, Int.toNat_natCast]; exact hKj
          · exact absurd rfl hk
  refine ⟨fun i hi => ?_, fun i x hi hx h4 => ?_⟩
  · obtain ⟨x, hx, hw, _⟩ := key i hi
    exact ⟨x, hx, hw⟩
  · obtain ⟨y, hy, _, h⟩ := key i hi
    rw [hx] at hy; cases hy
    exact h h4
theorem env_of {q : QeaT} {b : List SlotT} {vals : List Val} (hb : bindOk b = true) (hb8 : b.length ≤ 8) (hv : vals.length ≤ 20) (hf : fitsR vals q.frees = true) (b64 : ∀ s ∈ b, i64 s.value.int) (v64 : ∀ v ∈ vals, i64 v.int) : Env q b vals := by
  obtain ⟨h1, h2⟩ := fitsR_at hf
  refine ⟨by omega, fun s hs => ?_, h1, fun v hm => ?_, by omega⟩
  · obtain ⟨i, hi⟩ := List.getElem?_of_mem hs
    have := allI_true.1 hb i s hi
    unfold slotOk at this
    simp only [Bool.and_eq_true] at this
    exact ⟨this.2.2.1, b64 s hs⟩
  · obtain ⟨i, hi⟩ := List.getElem?_of_mem hm
    obtain ⟨f, hff, _⟩ := at_some (l := q.frees) (i := i) (by have := (List.getElem?_eq_some_iff.1 hi).1; omega)
    exact ⟨(h2 i v f hi hff).1, v64 v hm⟩
end Go.Proofs.YtdfdiglnpekcpabDoor.Ab
namespace Go.Proofs.YtdfdiglnpekcpabDoor.Ab
open Go Go.RowKit
set_option linter.unusedSimpArgs false
set_option maxHeartbeats 4000000
set_option maxRecDepth 100000
variable {G : Nat → Option AV}
inductive Fit2 : AV → AV → Prop where
  | refl (c : AV) : Fit2 c c
  | nil (sz : Nat) : Fit2 .nils (.seq sz [])
  | agg (cs ds : List AV) (hl : cs.length = ds.length) (h : ∀ (j : Nat) c d, cs[j]? = some c → ds[j]? = some d → Fit2 c d) : Fit2 (.agg cs) (.agg ds)
  | seq (sz : Nat) (es fs : List AV) (hl : es.length = fs.length) (hs : ∀ f ∈ fs, f.cells.length = sz) (h : ∀ (k : Nat) e f, es[k]? = some e → fs[k]? = some f → Fit2 e f) : Fit2 (.seq sz es) (.seq sz fs)
theorem Rd.fit2 {w : World} {F : Nat → Prop} {c d : AV} (h : Fit2 c d) : ∀ {nm : Names} {v : Value}, Rd w F nm c v → Rd w F nm d v := by
  induction h with
  | refl c => exact fun h => h
  | nil sz => intro nm v h; cases h; exact .seq0 _ _ _ _
  | agg cs ds hl h ih =>
    intro nm v hr
    obtain ⟨us, rfl, hu, hr⟩ := rd_agg hr
    refine .agg _ _ _ (by omega) fun j c u hc hu' => ?_
    have hj : j < cs.length := by have := (List.getElem?_eq_some_iff.1 hc).1; omega
    exact ih j _ c (List.getElem?_eq_getElem hj) hc (hr j _ u (List.getElem?_eq_getElem hj) hu')
  | seq sz es fs hl hs h ih =>
    intro nm v hr
    generalize hz : AV.seq sz es = z at hr
    cases hr with
    | seq0 _ sz' a cap =>
      simp only [AV.seq.injEq] at hz
      obtain ⟨rfl, rfl⟩ := hz
      have : fs = [] := List.eq_nil_of_length_eq_zero (by simpa using hl.symm)
      subst this
      exact .seq0 _ _ _ _
    | seq _ sz' es' g o cap u h0 hF hc hm hss hw h1 hh =>
      simp only [AV.seq.injEq] at hz
      obtain ⟨rfl, rfl⟩ := hz
      rw [hl]
      refine Rd.seq nm _ fs g o cap u h0 hF (by omega) hm hs (fun p hp => hw p (by rw [hl]; exact hp)) (fun p hp => h1 p (by rw [hl]; exact hp)) fun k f j c hf hc' => ?_
      have hk : k < es.length := by have := (List.getElem?_eq_some_iff.1 hf).1; omega
      obtain ⟨e, he⟩ : ∃ e, es[k]? = some e := ⟨_, List.getElem?_eq_getElem hk⟩
      have ih := @ih k e f he hf
      have hfit := h k e f he hf
      cases hfit with
      | refl => exact hh k _ j c he hc'
      | nil sz2 =>
        match j, hc' with
        | 0, hc' => cases hc'; exact ih (hh k _ 0 _ he rfl)
      | seq sz2 a1 a2 _ _ _ =>
        match j, hc' with
        | 0, hc' => cases hc'; exact ih (hh k _ 0 _ he rfl)
      | agg cs ds hl2 hcd =>
        have hc2 : ds[j]? = some c := hc'
        have hj : j < cs.length := by have := (List.getElem?_eq_some_iff.1 hc2).1; omega
        have hrd : Rd w F noNames (.agg cs) (.agg ((List.range cs.length).map fun i => u (k * sz + i)).toArray) := .agg _ _ _ (by simp) fun i c1 x hc1 hx => by
          have hi : i < cs.length := (List.getElem?_eq_some_iff.1 hc1).1
          rw [List.getElem?_map, List.getElem?_range hi] at hx
          cases hx
          exact hh k _ i c1 he hc1
        obtain ⟨us, e1, e2, e3⟩ := rd_agg (ih hrd)
        have e4 : ((List.range cs.length).map fun i => u (k * sz + i)) = us := by simpa using e1
        exact e3 j c _ hc2 (by rw [← e4, List.getElem?_map, List.getElem?_range hj]; rfl)
    | _ => cases hz
theorem argsR_fit2 {w : World} {F : Nat → Prop} : ∀ {args args' : List AV} {vs : Array Value}, args.length = args'.length → (∀ (j : Nat) c d, args[j]? = some c → args'[j]? = some d → Fit2 c d) → ArgsR w F args vs → ArgsR w F args' vs := fun hl h ha =>
  ⟨by rw [ha.1, hl], fun j d u hd hu => by
    have hj : j < _ := (List.getElem?_eq_some_iff.1 hd).1
    rw [← hl] at hj
    exact (ha.2 j _ u (List.getElem?_eq_getElem hj) hu).fit2 (h j _ d (List.getElem?_eq_getElem hj) hd)⟩
theorem PureC.fit2 {P : Program} {f : Nat} {args args' : List AV} {r : AV} (hl : args.length = args'.length) (h : ∀ (j : Nat) c d, args[j]? = some c → args'[j]? = some d → Fit2 c d) (hc : PureC P G f args' r) : PureC P G f args r := fun w F vs hg ha => hc w F vs hg (argsR_fit2 hl h ha)
end Go.Proofs.YtdfdiglnpekcpabDoor.Ab
