/-
  core.symbols. No claim is proved here.
-/
import Derived.Test.YtdfdiglnpekcpabGreatDoorD15
namespace Go.Proofs.YtdfdiglnpekcpabGreatDoor.Ab
open Go
set_option linter.unusedSimpArgs false
set_option maxHeartbeats 4000000
variable {G : Nat → Option AV}
theorem okC_sym (s : SymT) : OkC [.eptr (symV s) 0] := ⟨fun _ => rfl, fun _ _ => rfl, fun _ => rfl, fun _ _ => rfl, fun _ => rfl, fun _ => rfl⟩
theorem okC_iv (n : Int) : OkC [.eptr (iv n) 0] := ⟨fun _ => rfl, fun _ _ => rfl, fun _ => rfl, fun _ _ => rfl, fun _ => rfl, fun _ => rfl⟩
theorem okC_qa (q : QeaT) (a : AV) : OkC [.eptr (qeaV q) 0, .eptr a 0] := ⟨fun _ => rfl, fun _ _ => rfl, fun _ => rfl, fun _ _ => rfl, fun _ => rfl, fun _ => rfl⟩
theorem core_symbols_1_1_pc (x s : SymT) (hx : x.args.length < 9223372036854775807) (hs : s.args.length < 9223372036854775807) : PureC Tryz.prog G n_core_symbols_1_1 [symV x, .eptr (symV s) 0] (.bool (decide (x = s))) := by
  refine pc_core_symbols_1_1 (Runs.of fun Φ h => ?_)
  unfold c_core_symbols_1_1
  have hc := core_sameSymbol_pc (G := G) x s hx hs
  simp only [symV, argsV] at hc
  (try (simp -implicitDefEqProofs only [go_sem, Nat.reduceAdd, Nat.reduceSub, Nat.reduceMul, Nat.reduceLT, Nat.reduceLeDiff, Nat.reduceEqDiff, Nat.reduceBEq, Int.reduceNeg, Int.reduceAdd, Int.reduceLT, Int.reduceLE, Int.reduceToNat, Int.reduceEq, Int.reduceNe, Int.reduceBEq, Int.reduceBNe, Int.reduceMul, Int.reduceSub, reduceIte, reduceCtorEq, symV, argsV])); repeat' ((first | refine at_guard (fun hb => ?_) (fun hb => ?_) | refine ⟨fun hb => ?_, fun hb => ?_⟩ | refine at_call (hc) rfl rfl ?_ | fail) <;> (try (simp -implicitDefEqProofs only [go_sem, Nat.reduceAdd, Nat.reduceSub, Nat.reduceMul, Nat.reduceLT, Nat.reduceLeDiff, Nat.reduceEqDiff, Nat.reduceBEq, Int.reduceNeg, Int.reduceAdd, Int.reduceLT, Int.reduceLE, Int.reduceToNat, Int.reduceEq, Int.reduceNe, Int.reduceBEq, Int.reduceBNe, Int.reduceMul, Int.reduceSub, reduceIte, reduceCtorEq, symV, argsV])))
  all_goals (refine h _ ⟨_, _, rfl, rfl, fit_eq ?_⟩; clear h; first | rfl | simp_all)
/-- A symbol may be, and it is the first such one. -/
def symOne (q : QeaT) (i : Nat) (s : SymT) : Bool := symS q s && idxF (fun x => decide (x = s)) q.symbols == (i : Int)
theorem core_symbols_1_pc (q : QeaT) (hq : q.Few) (i : Nat) (s : SymT) (hs : s ∈ q.symbols) : PureC Tryz.prog G n_core_symbols_1 [iv i, symV s, .eptr (qeaV q) 0] (.bool (symOne q i s)) := by
  have hb := hq.args s hs
  refine pc_core_symbols_1 (Runs.of fun Φ h => ?_)
  unfold c_core_symbols_1
  have h1 := core_symbol_pc (G := G) q s (by omega)
  have h2 := slices_IndexFunc_api_Symbol_api_Symbol_pc (G := G) n_core_symbols_1_1 [.eptr (symV s) 0] (by kernel_rfl) (okC_sym s) (fun x => decide (x = s)) q.symbols (fun x hx => core_symbols_1_1_pc x s (by have := hq.args x hx; omega) (by omega)) (by have := hq.symbols; omega)
  unfold symOne at h
  generalize idxF (fun x => decide (x = s)) q.symbols = k at *
  generalize symS q s = b at *
  obtain ⟨e, l⟩ := s
  simp only [symV, argsV, qeaV, declsV, quantsV, freesV, statesV, symsV, nodesV, transsV] at h1 h2
  (try (simp -implicitDefEqProofs only [go_sem, Nat.reduceAdd, Nat.reduceSub, Nat.reduceMul, Nat.reduceLT, Nat.reduceLeDiff, Nat.reduceEqDiff, Nat.reduceBEq, Int.reduceNeg, Int.reduceAdd, Int.reduceLT, Int.reduceLE, Int.reduceToNat, Int.reduceEq, Int.reduceNe, Int.reduceBEq, Int.reduceBNe, Int.reduceMul, Int.reduceSub, reduceIte, reduceCtorEq, symV, argsV, qeaV, declsV, quantsV, freesV, statesV, symsV, nodesV, transsV])); repeat' ((first | refine at_guard (fun hb => ?_) (fun hb => ?_) | refine ⟨fun hb => ?_, fun hb => ?_⟩ | refine at_call (h1) rfl rfl ?_ | refine at_call (h2) rfl rfl ?_ | fail) <;> (try (simp -implicitDefEqProofs only [go_sem, Nat.reduceAdd, Nat.reduceSub, Nat.reduceMul, Nat.reduceLT, Nat.reduceLeDiff, Nat.reduceEqDiff, Nat.reduceBEq, Int.reduceNeg, Int.reduceAdd, Int.reduceLT, Int.reduceLE, Int.reduceToNat, Int.reduceEq, Int.reduceNe, Int.reduceBEq, Int.reduceBNe, Int.reduceMul, Int.reduceSub, reduceIte, reduceCtorEq, symV, argsV, qeaV, declsV, quantsV, freesV, statesV, symsV, nodesV, transsV])))
  all_goals (refine h _ ⟨_, _, rfl, rfl, fit_eq ?_⟩; clear h; first | rfl | simp_all)
theorem core_symbols_2_pc (q : QeaT) (hq : q.Few) (o : List Int) (ho : o.length ≤ 1000000) (i : Nat) (hi : i ≤ 1000000) (s : Int) : PureC Tryz.prog G n_core_symbols_2 [iv i, iv s, .eptr (qeaV q) 0, .eptr (.seq 1 (o.map iv)) 0] (.bool (s == (q.symbols.length : Int) - o.length + i)) := by
  have hs := hq.symbols
  refine pc_core_symbols_2 (Runs.of fun Φ h => ?_)
  unfold c_core_symbols_2
  have w1 : IntKind.i64.wrap ((q.symbols.length : Int) - o.length) = (q.symbols.length : Int) - o.length := wrap_i64 (by omega) (by omega)
  have w2 : IntKind.i64.wrap ((q.symbols.length : Int) - o.length + i) = (q.symbols.length : Int) - o.length + i := wrap_i64 (by omega) (by omega)
  (try (simp -implicitDefEqProofs only [go_sem, Nat.reduceAdd, Nat.reduceSub, Nat.reduceMul, Nat.reduceLT, Nat.reduceLeDiff, Nat.reduceEqDiff, Nat.reduceBEq, Int.reduceNeg, Int.reduceAdd, Int.reduceLT, Int.reduceLE, Int.reduceToNat, Int.reduceEq, Int.reduceNe, Int.reduceBEq, Int.reduceBNe, Int.reduceMul, Int.reduceSub, reduceIte, reduceCtorEq, qeaV, declsV, quantsV, freesV, statesV, symsV, nodesV, transsV, List.length_map, w1, w2])); repeat' ((first | refine at_guard (fun hb => ?_) (fun hb => ?_) | refine ⟨fun hb => ?_, fun hb => ?_⟩ | fail) <;> (try (simp -implicitDefEqProofs only [go_sem, Nat.reduceAdd, Nat.reduceSub, Nat.reduceMul, Nat.reduceLT, Nat.reduceLeDiff, Nat.reduceEqDiff, Nat.reduceBEq, Int.reduceNeg, Int.reduceAdd, Int.reduceLT, Int.reduceLE, Int.reduceToNat, Int.reduceEq, Int.reduceNe, Int.reduceBEq, Int.reduceBNe, Int.reduceMul, Int.reduceSub, reduceIte, reduceCtorEq, qeaV, declsV, quantsV, freesV, statesV, symsV, nodesV, transsV, List.length_map, w1, w2])))
  all_goals (refine h _ ⟨_, _, rfl, rfl, fit_eq ?_⟩; clear h; first | rfl | simp_all)
theorem core_symbols_3_1_pc (s : SymT) (hs : s.args.length < 9223372036854775807) (v : Int) : PureC Tryz.prog G n_core_symbols_3_1 [symV s, .eptr (iv v) 0] (.bool (standsS s v)) := by
  refine pc_core_symbols_3_1 (Runs.of fun Φ h => ?_)
  unfold c_core_symbols_3_1
  have hc := core_Stands_pc (G := G) s hs v
  simp only [symV, argsV] at hc
  (try (simp -implicitDefEqProofs only [go_sem, Nat.reduceAdd, Nat.reduceSub, Nat.reduceMul, Nat.reduceLT, Nat.reduceLeDiff, Nat.reduceEqDiff, Nat.reduceBEq, Int.reduceNeg, Int.reduceAdd, Int.reduceLT, Int.reduceLE, Int.reduceToNat, Int.reduceEq, Int.reduceNe, Int.reduceBEq, Int.reduceBNe, Int.reduceMul, Int.reduceSub, reduceIte, reduceCtorEq, symV, argsV])); repeat' ((first | refine at_guard (fun hb => ?_) (fun hb => ?_) | refine ⟨fun hb => ?_, fun hb => ?_⟩ | refine at_call (hc) rfl rfl ?_ | fail) <;> (try (simp -implicitDefEqProofs only [go_sem, Nat.reduceAdd, Nat.reduceSub, Nat.reduceMul, Nat.reduceLT, Nat.reduceLeDiff, Nat.reduceEqDiff, Nat.reduceBEq, Int.reduceNeg, Int.reduceAdd, Int.reduceLT, Int.reduceLE, Int.reduceToNat, Int.reduceEq, Int.reduceNe, Int.reduceBEq, Int.reduceBNe, Int.reduceMul, Int.reduceSub, reduceIte, reduceCtorEq, symV, argsV])))
  all_goals (refine h _ ⟨_, _, rfl, rfl, fit_eq ?_⟩; clear h; first | rfl | simp_all)
theorem core_symbols_3_pc (q : QeaT) (hq : q.Few) (v : Int) (y : QuantT) : PureC Tryz.prog G n_core_symbols_3 [iv v, quantV y, .eptr (qeaV q) 0] (.bool (q.symbols.any fun s => standsS s v)) := by
  refine pc_core_symbols_3 (Runs.of fun Φ h => ?_)
  unfold c_core_symbols_3
  have h2 := slices_ContainsFunc_api_Symbol_api_Symbol_pc (G := G) n_core_symbols_3_1 [.eptr (iv v) 0] (by kernel_rfl) (okC_iv v) (fun s => standsS s v) q.symbols (fun x hx => core_symbols_3_1_pc x (by have := hq.args x hx; omega) v) (by have := hq.symbols; omega)
  (try (simp -implicitDefEqProofs only [go_sem, Nat.reduceAdd, Nat.reduceSub, Nat.reduceMul, Nat.reduceLT, Nat.reduceLeDiff, Nat.reduceEqDiff, Nat.reduceBEq, Int.reduceNeg, Int.reduceAdd, Int.reduceLT, Int.reduceLE, Int.reduceToNat, Int.reduceEq, Int.reduceNe, Int.reduceBEq, Int.reduceBNe, Int.reduceMul, Int.reduceSub, reduceIte, reduceCtorEq, quantV, qeaV, declsV, quantsV, freesV, statesV, symsV, nodesV, transsV])); repeat' ((first | refine at_guard (fun hb => ?_) (fun hb => ?_) | refine ⟨fun hb => ?_, fun hb => ?_⟩ | refine at_call (h2) rfl rfl ?_ | fail) <;> (try (simp -implicitDefEqProofs only [go_sem, Nat.reduceAdd, Nat.reduceSub, Nat.reduceMul, Nat.reduceLT, Nat.reduceLeDiff, Nat.reduceEqDiff, Nat.reduceBEq, Int.reduceNeg, Int.reduceAdd, Int.reduceLT, Int.reduceLE, Int.reduceToNat, Int.reduceEq, Int.reduceNe, Int.reduceBEq, Int.reduceBNe, Int.reduceMul, Int.reduceSub, reduceIte, reduceCtorEq, quantV, qeaV, declsV, quantsV, freesV, statesV, symsV, nodesV, transsV])))
  all_goals (refine h _ ⟨_, _, rfl, rfl, fit_eq ?_⟩; clear h; first | rfl | simp_all)
/-- The symbols of transitions, each once. -/
def ordStep (o : List Int) (s : Int) : List Int := if (o.any fun x => s == x) = true then o else o ++ [s]
def ordL (o : List Int) : List TransT → List Int
  | [] => o
  | t :: r => ordL (ordStep o t.symbol) r
theorem ordL_step {l : List TransT} {i : Nat} {t : TransT} (ht : l[i]? = some t) (o : List Int) : ordL o (l.drop i) = ordL (ordStep o t.symbol) (l.drop (i + 1)) := by
  obtain ⟨h1, rfl⟩ := List.getElem?_eq_some_iff.1 ht
  rw [List.drop_eq_getElem_cons h1, ordL]
theorem ordStep_len (o : List Int) (s : Int) : (ordStep o s).length ≤ o.length + 1 := by
  unfold ordStep
  split <;> simp
def symbolsC (q : QeaT) : Bool :=
  allI (fun i s => s == (q.symbols.length : Int) - (ordL [] q.trans).length + (i : Int)) (ordL [] q.trans) && (allI (symOne q) q.symbols && allI (fun v _ => q.symbols.any fun s => standsS s (v : Int)) q.quants)
/-- The variable that holds the order, and its row. -/
def ordH (q : QeaT) (o : List Int) : List (Nat × Box) :=
  if o = [] then [(1, ⟨false, t_api_Qea, 9, [qeaV q]⟩), (3, ⟨false, t_Sint, 1, [.nils]⟩)]
  else [(1, ⟨false, t_api_Qea, 9, [qeaV q]⟩), (3, ⟨false, t_Sint, 1, [.arr 23 0 o.length]⟩), (23, ⟨true, t_int, 1, o.map iv⟩)]
theorem core_symbols_pc (q : QeaT) (hq : q.Few) : PureC Tryz.prog G n_core_symbols [qeaV q] (.bool (symbolsC q)) := by
  have htl := hq.trans
  refine pc_core_symbols (Runs.of fun Φ h => ?_)
  unfold c_core_symbols
  simp -implicitDefEqProofs only [go_sem, Nat.reduceAdd, Nat.reduceSub, Nat.reduceMul, Nat.reduceLT, Nat.reduceLeDiff, Nat.reduceEqDiff, Nat.reduceBEq, Int.reduceNeg, Int.reduceAdd, Int.reduceLT, Int.reduceLE, Int.reduceToNat, Int.reduceEq, Int.reduceNe, Int.reduceBEq, Int.reduceBNe, Int.reduceMul, Int.reduceSub, reduceIte, reduceCtorEq, qeaV, declsV, quantsV, freesV, statesV, symsV, nodesV, transsV, List.length_map]
  refine at_loop (fun n st => ∃ (i : Nat) (o : List Int), i + n = q.trans.length ∧ st = ⟨41, [(1, .ref 1 0 0), (3, .ref 3 0 0), (8, transsV q.trans), (9, iv q.trans.length), (10, iv i)], ordH q o⟩ ∧ o.length ≤ i ∧ ordL [] q.trans = ordL o (q.trans.drop i)) q.trans.length ⟨0, [], by simp, rfl, by simp, rfl⟩ ?_
  rintro I hI n st ⟨i, o, hi, rfl, hol, hord⟩
  have hnext : ∀ t, q.trans[i]? = some t → again I n ⟨41, [(1, .ref 1 0 0), (3, .ref 3 0 0), (8, transsV q.trans), (9, iv q.trans.length), (10, iv (i + 1 : Nat))], ordH q (ordStep o t.symbol)⟩ := fun t ht => by
    have hlt := (List.getElem?_eq_some_iff.1 ht).1
    rw [ordL_step ht] at hord
    exact at_again (n - 1) (by omega) (hI _ _ ⟨i + 1, _, by omega, rfl, by have := ordStep_len o t.symbol; omega, hord⟩)
  have hend : q.trans.length ≤ i → ordL [] q.trans = o := fun h => by rw [hord, List.drop_of_length_le h, ordL]
  have hallS := core_all_api_Symbol_pc (G := G) n_core_symbols_1 [.eptr (qeaV q) 0] (by kernel_rfl) (okC_q q) (symOne q) q.symbols (fun i x hx => core_symbols_1_pc q hq i x (List.mem_of_getElem? hx)) (by have := hq.symbols; omega)
  have hallQ := core_all_api_Quant_pc (G := G) n_core_symbols_3 [.eptr (qeaV q) 0] (by kernel_rfl) (okC_q q) (fun v _ => q.symbols.any fun s => standsS s (v : Int)) q.quants (fun i x _ => core_symbols_3_pc q hq i x) (by have := hq.quants; omega)
  simp only [qeaV, declsV, quantsV, freesV, statesV, symsV, nodesV, transsV] at hallS hallQ
  by_cases ho : o = []
  · subst ho
    have e0 : ordH q [] = [(1, ⟨false, t_api_Qea, 9, [qeaV q]⟩), (3, ⟨false, t_Sint, 1, [.nils]⟩)] := rfl
    rw [e0]
    simp -implicitDefEqProofs only [go_sem, Nat.reduceAdd, Nat.reduceSub, Nat.reduceMul, Nat.reduceLT, Nat.reduceLeDiff, Nat.reduceEqDiff, Nat.reduceBEq, Int.reduceNeg, Int.reduceAdd, Int.reduceLT, Int.reduceLE, Int.reduceToNat, Int.reduceEq, Int.reduceNe, Int.reduceBEq, Int.reduceBNe, Int.reduceMul, Int.reduceSub, reduceIte, reduceCtorEq, qeaV, declsV, quantsV, freesV, statesV, symsV, nodesV, transsV, List.length_map]
    refine ⟨fun hlt => ?_, fun hge => ?_⟩
    · have hlt' : i < q.trans.length := by omega
      obtain ⟨t, ht, hm⟩ := at_some hlt'
      have hw := wrap_succ hlt' (by omega)
      have hnext := hnext t ht
      have e1 : ordH q (ordStep [] t.symbol) = [(1, ⟨false, t_api_Qea, 9, [qeaV q]⟩), (3, ⟨false, t_Sint, 1, [.arr 23 0 1]⟩), (23, ⟨true, t_int, 1, [iv t.symbol]⟩)] := rfl
      rw [e1] at hnext
      have hc := slices_Contains_int_int_pc (G := G) [] t.symbol (by simp)
      (try (simp -implicitDefEqProofs only [go_sem, Nat.reduceAdd, Nat.reduceSub, Nat.reduceMul, Nat.reduceLT, Nat.reduceLeDiff, Nat.reduceEqDiff, Nat.reduceBEq, Int.reduceNeg, Int.reduceAdd, Int.reduceLT, Int.reduceLE, Int.reduceToNat, Int.reduceEq, Int.reduceNe, Int.reduceBEq, Int.reduceBNe, Int.reduceMul, Int.reduceSub, reduceIte, reduceCtorEq, aiaddr_map ht, transV, setsV, hw])); repeat' ((first | refine at_guard (fun hb => ?_) (fun hb => ?_) | refine ⟨fun hb => ?_, fun hb => ?_⟩ | (refine at_call_fit hc rfl ⟨.nil _, .refl _, trivial⟩ rfl ?_) | fail) <;> (try (simp -implicitDefEqProofs only [go_sem, Nat.reduceAdd, Nat.reduceSub, Nat.reduceMul, Nat.reduceLT, Nat.reduceLeDiff, Nat.reduceEqDiff, Nat.reduceBEq, Int.reduceNeg, Int.reduceAdd, Int.reduceLT, Int.reduceLE, Int.reduceToNat, Int.reduceEq, Int.reduceNe, Int.reduceBEq, Int.reduceBNe, Int.reduceMul, Int.reduceSub, reduceIte, reduceCtorEq, aiaddr_map ht, transV, setsV, hw])))
      all_goals first | exact hnext | (exfalso; simp at hb; done)
    · have hord := hend (by omega)
      have hall0 := core_all_int_pc (G := G) n_core_symbols_2 [.eptr (qeaV q) 0, .eptr .nils 0] (by kernel_rfl) (okC_qa q .nils) (fun i s => s == (q.symbols.length : Int) - (0 : Nat) + (i : Int)) [] (fun i x hx => by simp at hx) (by simp)
      simp only [qeaV, declsV, quantsV, freesV, statesV, symsV, nodesV, transsV] at hall0
      (try (simp -implicitDefEqProofs only [go_sem, Nat.reduceAdd, Nat.reduceSub, Nat.reduceMul, Nat.reduceLT, Nat.reduceLeDiff, Nat.reduceEqDiff, Nat.reduceBEq, Int.reduceNeg, Int.reduceAdd, Int.reduceLT, Int.reduceLE, Int.reduceToNat, Int.reduceEq, Int.reduceNe, Int.reduceBEq, Int.reduceBNe, Int.reduceMul, Int.reduceSub, reduceIte, reduceCtorEq, qeaV, declsV, quantsV, freesV, statesV, symsV, nodesV, transsV, List.length_map])); repeat' ((first | refine at_guard (fun hb => ?_) (fun hb => ?_) | refine ⟨fun hb => ?_, fun hb => ?_⟩ | (refine at_call_fit hall0 rfl ⟨.nil _, .refl _, trivial⟩ rfl ?_) | refine at_call (hallS) rfl rfl ?_ | refine at_call (hallQ) rfl rfl ?_ | fail) <;> (try (simp -implicitDefEqProofs only [go_sem, Nat.reduceAdd, Nat.reduceSub, Nat.reduceMul, Nat.reduceLT, Nat.reduceLeDiff, Nat.reduceEqDiff, Nat.reduceBEq, Int.reduceNeg, Int.reduceAdd, Int.reduceLT, Int.reduceLE, Int.reduceToNat, Int.reduceEq, Int.reduceNe, Int.reduceBEq, Int.reduceBNe, Int.reduceMul, Int.reduceSub, reduceIte, reduceCtorEq, qeaV, declsV, quantsV, freesV, statesV, symsV, nodesV, transsV, List.length_map])))
      all_goals first | (exfalso; simp [allI] at hb; done) | skip
      all_goals
        refine h _ ⟨_, _, rfl, rfl, fitB ?_⟩
        rw [symbolsC, hord]
        clear h hallS hallQ hall0
        generalize allI (symOne q) q.symbols = a at *
        generalize allI (fun v _ => q.symbols.any fun s => standsS s (v : Int)) q.quants = b at *
        rw [show allI (fun i s => s == (q.symbols.length : Int) - (([] : List Int).length : Nat) + (i : Int)) [] = true from rfl] at *
        simp_all
  · have htk : List.take o.length (List.map iv o) = List.map iv o := List.take_of_length_le (by simp)
    have e0 : ordH q o = [(1, ⟨false, t_api_Qea, 9, [qeaV q]⟩), (3, ⟨false, t_Sint, 1, [.arr 23 0 o.length]⟩), (23, ⟨true, t_int, 1, o.map iv⟩)] := if_neg ho
    rw [e0]
    simp -implicitDefEqProofs only [go_sem, Nat.reduceAdd, Nat.reduceSub, Nat.reduceMul, Nat.reduceLT, Nat.reduceLeDiff, Nat.reduceEqDiff, Nat.reduceBEq, Int.reduceNeg, Int.reduceAdd, Int.reduceLT, Int.reduceLE, Int.reduceToNat, Int.reduceEq, Int.reduceNe, Int.reduceBEq, Int.reduceBNe, Int.reduceMul, Int.reduceSub, reduceIte, reduceCtorEq, qeaV, declsV, quantsV, freesV, statesV, symsV, nodesV, transsV, List.length_map]
    refine ⟨fun hlt => ?_, fun hge => ?_⟩
    · have hlt' : i < q.trans.length := by omega
      obtain ⟨t, ht, hm⟩ := at_some hlt'
      have hw := wrap_succ hlt' (by omega)
      have hnext := hnext t ht
      have hbd : (o.length + 1) * 8 ≤ 140737488355328 := by omega
      have hc := slices_Contains_int_int_pc (G := G) o t.symbol (by omega)
      (try (simp -implicitDefEqProofs only [go_sem, Nat.reduceAdd, Nat.reduceSub, Nat.reduceMul, Nat.reduceLT, Nat.reduceLeDiff, Nat.reduceEqDiff, Nat.reduceBEq, Int.reduceNeg, Int.reduceAdd, Int.reduceLT, Int.reduceLE, Int.reduceToNat, Int.reduceEq, Int.reduceNe, Int.reduceBEq, Int.reduceBNe, Int.reduceMul, Int.reduceSub, reduceIte, reduceCtorEq, aiaddr_map ht, transV, setsV, hw, hbd, List.length_map])); repeat' ((first | refine at_guard (fun hb => ?_) (fun hb => ?_) | refine ⟨fun hb => ?_, fun hb => ?_⟩ | (refine at_call hc (by simp [viewC, flat, viewBs, viewB, viewK, hget, htk]) rfl ?_) | fail) <;> (try (simp -implicitDefEqProofs only [go_sem, Nat.reduceAdd, Nat.reduceSub, Nat.reduceMul, Nat.reduceLT, Nat.reduceLeDiff, Nat.reduceEqDiff, Nat.reduceBEq, Int.reduceNeg, Int.reduceAdd, Int.reduceLT, Int.reduceLE, Int.reduceToNat, Int.reduceEq, Int.reduceNe, Int.reduceBEq, Int.reduceBNe, Int.reduceMul, Int.reduceSub, reduceIte, reduceCtorEq, aiaddr_map ht, transV, setsV, hw, hbd, List.length_map])))
      · have e1 : ordStep o t.symbol = o ++ [t.symbol] := if_neg (by simp only [Bool.not_eq_true'] at hb; rw [hb]; exact Bool.false_ne_true)
        have e2 : ordH q (ordStep o t.symbol) = [(1, ⟨false, t_api_Qea, 9, [qeaV q]⟩), (3, ⟨false, t_Sint, 1, [.arr 23 0 (o.length + 1)]⟩), (23, ⟨true, t_int, 1, o.map iv ++ [iv t.symbol]⟩)] := by
          rw [e1, ordH, if_neg (by simp)]
          simp
        rw [e2] at hnext
        exact hnext
      · have e1 : ordStep o t.symbol = o := if_pos (by simpa using hb)
        rw [e1, e0] at hnext
        exact hnext
    · have hord := hend (by omega)
      have hallO := core_all_int_pc (G := G) n_core_symbols_2 [.eptr (qeaV q) 0, .eptr (.seq 1 (o.map iv)) 0] (by kernel_rfl) (okC_qa q _) (fun i s => s == (q.symbols.length : Int) - o.length + (i : Int)) o (fun i x hx => core_symbols_2_pc q hq o (by omega) i (by have := (List.getElem?_eq_some_iff.1 hx).1; omega) x) (by omega)
      simp only [qeaV, declsV, quantsV, freesV, statesV, symsV, nodesV, transsV] at hallO
      (try (simp -implicitDefEqProofs only [go_sem, Nat.reduceAdd, Nat.reduceSub, Nat.reduceMul, Nat.reduceLT, Nat.reduceLeDiff, Nat.reduceEqDiff, Nat.reduceBEq, Int.reduceNeg, Int.reduceAdd, Int.reduceLT, Int.reduceLE, Int.reduceToNat, Int.reduceEq, Int.reduceNe, Int.reduceBEq, Int.reduceBNe, Int.reduceMul, Int.reduceSub, reduceIte, reduceCtorEq, qeaV, declsV, quantsV, freesV, statesV, symsV, nodesV, transsV, List.length_map])); repeat' ((first | refine at_guard (fun hb => ?_) (fun hb => ?_) | refine ⟨fun hb => ?_, fun hb => ?_⟩ | (refine at_call hallO (by simp [viewC, flat, viewBs, viewB, viewK, viewK.go, hget, htk]) rfl ?_) | refine at_call (hallS) rfl rfl ?_ | refine at_call (hallQ) rfl rfl ?_ | fail) <;> (try (simp -implicitDefEqProofs only [go_sem, Nat.reduceAdd, Nat.reduceSub, Nat.reduceMul, Nat.reduceLT, Nat.reduceLeDiff, Nat.reduceEqDiff, Nat.reduceBEq, Int.reduceNeg, Int.reduceAdd, Int.reduceLT, Int.reduceLE, Int.reduceToNat, Int.reduceEq, Int.reduceNe, Int.reduceBEq, Int.reduceBNe, Int.reduceMul, Int.reduceSub, reduceIte, reduceCtorEq, qeaV, declsV, quantsV, freesV, statesV, symsV, nodesV, transsV, List.length_map])))
      all_goals
        refine h _ ⟨_, _, rfl, rfl, fitB ?_⟩
        rw [symbolsC, hord]
        clear h hallS hallQ hallO htk e0 hend hnext hord hI hi hol ho
        generalize allI (symOne q) q.symbols = a at *
        generalize allI (fun v _ => q.symbols.any fun s => standsS s (v : Int)) q.quants = b at *
        generalize allI (fun i s => s == (q.symbols.length : Int) - o.length + (i : Int)) o = c at *
        simp_all
end Go.Proofs.YtdfdiglnpekcpabGreatDoor.Ab
