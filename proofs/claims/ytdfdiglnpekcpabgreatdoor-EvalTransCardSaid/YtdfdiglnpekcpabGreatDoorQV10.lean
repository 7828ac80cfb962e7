/-
  eval.Sets, proctorref16.Sets. No claim is proved here.
-/
import Derived.Test.YtdfdiglnpekcpabGreatDoorQK7
namespace Go.Proofs.YtdfdiglnpekcpabGreatDoor.Ab
open Go Go.RowKit
set_option linter.unusedSimpArgs false
set_option maxHeartbeats 4000000
set_option maxRecDepth 100000
variable {G : Nat → Option AV}
/-- The values behind assignments; or the first error. -/
def setsR (q : QeaT) (b : List SlotT) (vals : List Val) : List SetT → List Val → List Val × Int
  | [], out => (out, 0)
  | s :: r, out => if ¬ (ev q b vals s.expr.toNat).2 = 0 then ([], (ev q b vals s.expr.toNat).2) else setsR q b vals r (out.set s.free.toNat (ev q b vals s.expr.toNat).1)
theorem setsR_end {q : QeaT} {b : List SlotT} {vals : List Val} {l : List SetT} {i : Nat} {out : List Val} (h : l.length ≤ i) : setsR q b vals (l.drop i) out = (out, 0) := by rw [List.drop_of_length_le h, setsR]
theorem setsR_bad {q : QeaT} {b : List SlotT} {vals : List Val} {l : List SetT} {i e : Nat} {out : List Val} {s : SetT} (h : l[i]? = some s) (he : s.expr = e) (h0 : ¬ (ev q b vals e).2 = 0) : setsR q b vals (l.drop i) out = ([], (ev q b vals e).2) := by
  rw [drop_at h, setsR, he, Int.toNat_natCast, if_pos h0]
theorem setsR_go {q : QeaT} {b : List SlotT} {vals : List Val} {l : List SetT} {i e f : Nat} {out : List Val} {s : SetT} (h : l[i]? = some s) (he : s.expr = e) (hf : s.free = f) (h0 : (ev q b vals e).2 = 0) : setsR q b vals (l.drop i) out = setsR q b vals (l.drop (i + 1)) (out.set f (ev q b vals e).1) := by
  rw [drop_at h, setsR, he, hf, Int.toNat_natCast, Int.toNat_natCast, if_neg (by omega)]
def SetsOk (S : Nat → Prop) (n : Nat) (l : List SetT) : Prop := ∀ s ∈ l, ∃ e f : Nat, s.expr = e ∧ s.free = f ∧ S e ∧ f < n
theorem aiaddr_row {H : List (Nat × Box)} {i n f : Nat} {b : Box} (h : hget H i = some b) (hs : b.sz = 4) (hf : f < n) : aiaddr H 4 (.arr i 0 n) (.int .i64 (f : Int)) = some (.ref i f 0) := by
  rw [aiaddr_arr hf, h]
  simp [hs]
theorem eval_Sets_bad (q : QeaT) (b : List SlotT) (vals : List Val) (hk : vals.length < 9223372036854775807) (hl : q.frees.length < 9223372036854775807) (j : Int) (h : at? q.trans j = none ∨ fitsR vals q.frees = false) : PureC Tryz.prog G n_eval_Sets [qeaV q, iv j, slotsV b, valsV vals] (.tup [valsV [], iv 1]) := by
  have hf := eval_Fits_pc (G := G) q vals hk hl
  refine pc_eval_Sets (Runs.of fun Φ hh => ?_)
  unfold c_eval_Sets
  simp only [qeaV, declsV, quantsV, freesV, statesV, symsV, nodesV, transsV, valsV] at hf
  cases hj : at? q.trans j with
  | none =>
    rcases at?_none hj with h1 | h1
    · have e1 : (j < 0) = True := by simp; exact h1
      (try (simp -implicitDefEqProofs only [go_sem, Nat.reduceAdd, Nat.reduceSub, Nat.reduceMul, Nat.reduceLT, Nat.reduceLeDiff, Nat.reduceEqDiff, Nat.reduceBEq, Int.reduceNeg, Int.reduceAdd, Int.reduceLT, Int.reduceLE, Int.reduceToNat, Int.reduceEq, Int.reduceNe, Int.reduceBEq, Int.reduceBNe, Int.reduceMul, Int.reduceSub, reduceIte, reduceCtorEq, qeaV, declsV, quantsV, freesV, statesV, symsV, nodesV, transsV, valsV, slotsV, e1, decide_true])); repeat' ((first | refine at_guard (fun hb => ?_) (fun hb => ?_) | refine ⟨fun hb => ?_, fun hb => ?_⟩ | fail) <;> (try (simp -implicitDefEqProofs only [go_sem, Nat.reduceAdd, Nat.reduceSub, Nat.reduceMul, Nat.reduceLT, Nat.reduceLeDiff, Nat.reduceEqDiff, Nat.reduceBEq, Int.reduceNeg, Int.reduceAdd, Int.reduceLT, Int.reduceLE, Int.reduceToNat, Int.reduceEq, Int.reduceNe, Int.reduceBEq, Int.reduceBNe, Int.reduceMul, Int.reduceSub, reduceIte, reduceCtorEq, qeaV, declsV, quantsV, freesV, statesV, symsV, nodesV, transsV, valsV, slotsV, e1, decide_true])))
      exact hh _ ⟨_, _, rfl, rfl, .refl _⟩
    · have e1 : (j < 0) = False := by simp; omega
      have e2 : ((q.trans.length : Int) ≤ j) = True := by simp; exact h1
      (try (simp -implicitDefEqProofs only [go_sem, Nat.reduceAdd, Nat.reduceSub, Nat.reduceMul, Nat.reduceLT, Nat.reduceLeDiff, Nat.reduceEqDiff, Nat.reduceBEq, Int.reduceNeg, Int.reduceAdd, Int.reduceLT, Int.reduceLE, Int.reduceToNat, Int.reduceEq, Int.reduceNe, Int.reduceBEq, Int.reduceBNe, Int.reduceMul, Int.reduceSub, reduceIte, reduceCtorEq, qeaV, declsV, quantsV, freesV, statesV, symsV, nodesV, transsV, valsV, slotsV, List.length_map, e1, e2, decide_true, decide_false])); repeat' ((first | refine at_guard (fun hb => ?_) (fun hb => ?_) | refine ⟨fun hb => ?_, fun hb => ?_⟩ | fail) <;> (try (simp -implicitDefEqProofs only [go_sem, Nat.reduceAdd, Nat.reduceSub, Nat.reduceMul, Nat.reduceLT, Nat.reduceLeDiff, Nat.reduceEqDiff, Nat.reduceBEq, Int.reduceNeg, Int.reduceAdd, Int.reduceLT, Int.reduceLE, Int.reduceToNat, Int.reduceEq, Int.reduceNe, Int.reduceBEq, Int.reduceBNe, Int.reduceMul, Int.reduceSub, reduceIte, reduceCtorEq, qeaV, declsV, quantsV, freesV, statesV, symsV, nodesV, transsV, valsV, slotsV, List.length_map, e1, e2, decide_true, decide_false])))
      exact hh _ ⟨_, _, rfl, rfl, .refl _⟩
  | some t =>
    obtain ⟨i, rfl, hi⟩ := at?_some hj
    have hlt := (List.getElem?_eq_some_iff.1 hi).1
    have hff : fitsR vals q.frees = false := by
      rcases h with h | h
      · rw [hj] at h; cases h
      · exact h
    rw [hff] at hf
    have e1 : ((i : Int) < 0) = False := by simp
    have e2 : ((q.trans.length : Int) ≤ i) = False := by simp; omega
    (try (simp -implicitDefEqProofs only [go_sem, Nat.reduceAdd, Nat.reduceSub, Nat.reduceMul, Nat.reduceLT, Nat.reduceLeDiff, Nat.reduceEqDiff, Nat.reduceBEq, Int.reduceNeg, Int.reduceAdd, Int.reduceLT, Int.reduceLE, Int.reduceToNat, Int.reduceEq, Int.reduceNe, Int.reduceBEq, Int.reduceBNe, Int.reduceMul, Int.reduceSub, reduceIte, reduceCtorEq, qeaV, declsV, quantsV, freesV, statesV, symsV, nodesV, transsV, valsV, slotsV, List.length_map, e1, e2, decide_false])); repeat' ((first | refine at_guard (fun hb => ?_) (fun hb => ?_) | refine ⟨fun hb => ?_, fun hb => ?_⟩ | refine at_call (hf) rfl rfl ?_ | fail) <;> (try (simp -implicitDefEqProofs only [go_sem, Nat.reduceAdd, Nat.reduceSub, Nat.reduceMul, Nat.reduceLT, Nat.reduceLeDiff, Nat.reduceEqDiff, Nat.reduceBEq, Int.reduceNeg, Int.reduceAdd, Int.reduceLT, Int.reduceLE, Int.reduceToNat, Int.reduceEq, Int.reduceNe, Int.reduceBEq, Int.reduceBNe, Int.reduceMul, Int.reduceSub, reduceIte, reduceCtorEq, qeaV, declsV, quantsV, freesV, statesV, symsV, nodesV, transsV, valsV, slotsV, List.length_map, e1, e2, decide_false])))
    exact hh _ ⟨_, _, rfl, rfl, .refl _⟩
theorem eval_Sets_pc (hG : errG G) {q : QeaT} {b : List SlotT} {vals : List Val} {S : Nat → Prop} (hS : Safe q S) (hE : Env q b vals) (hf : fitsR vals q.frees = true) (hl : q.frees.length < 9223372036854775807) (j : Nat) (t : TransT) (ht : q.trans[j]? = some t) (hs : SetsOk S vals.length t.sets) (hsl : t.sets.length ≤ 1000000) :
    PureC Tryz.prog G n_eval_Sets [qeaV q, iv j, slotsV b, valsV vals] (.tup [valsV (setsR q b vals t.sets vals).1, iv (setsR q b vals t.sets vals).2]) := by
  have hfc := eval_Fits_pc (G := G) q vals (by have := hE.vl; omega) hl
  rw [hf] at hfc
  have hlt := (List.getElem?_eq_some_iff.1 ht).1
  have e1 : ((j : Int) < 0) = False := by simp
  have e2 : ((q.trans.length : Int) ≤ j) = False := by simp; omega
  have hcl := clone_hc (G := G) vals hE.vl
  simp only [qeaV, declsV, quantsV, freesV, statesV, symsV, nodesV, transsV, valsV] at hfc hcl
  obtain ⟨t1, t2, t3, g, sets⟩ := t
  dsimp only at hs hsl ⊢
  refine pc_eval_Sets (Runs.of fun Φ h => ?_)
  unfold c_eval_Sets
  (try (simp -implicitDefEqProofs only [go_sem, Nat.reduceAdd, Nat.reduceSub, Nat.reduceMul, Nat.reduceLT, Nat.reduceLeDiff, Nat.reduceEqDiff, Nat.reduceBEq, Int.reduceNeg, Int.reduceAdd, Int.reduceLT, Int.reduceLE, Int.reduceToNat, Int.reduceEq, Int.reduceNe, Int.reduceBEq, Int.reduceBNe, Int.reduceMul, Int.reduceSub, reduceIte, reduceCtorEq, qeaV, declsV, quantsV, freesV, statesV, symsV, nodesV, transsV, valsV, slotsV, List.length_map, e1, e2, decide_false, aiaddr_map ht, transV, setsV])); repeat' ((first | refine at_guard (fun hb => ?_) (fun hb => ?_) | refine ⟨fun hb => ?_, fun hb => ?_⟩ | refine at_call (hfc) rfl rfl ?_ | (refine at_callH [(1000, 31)] hcl rfl trivial rfl rfl rfl ?_) | fail) <;> (try (simp -implicitDefEqProofs only [go_sem, Nat.reduceAdd, Nat.reduceSub, Nat.reduceMul, Nat.reduceLT, Nat.reduceLeDiff, Nat.reduceEqDiff, Nat.reduceBEq, Int.reduceNeg, Int.reduceAdd, Int.reduceLT, Int.reduceLE, Int.reduceToNat, Int.reduceEq, Int.reduceNe, Int.reduceBEq, Int.reduceBNe, Int.reduceMul, Int.reduceSub, reduceIte, reduceCtorEq, qeaV, declsV, quantsV, freesV, statesV, symsV, nodesV, transsV, valsV, slotsV, List.length_map, e1, e2, decide_false, aiaddr_map ht, transV, setsV])))
  refine at_loop (fun n st => ∃ (i : Nat) (out : List Val), i + n = sets.length ∧ st = ⟨64, [(2, .seq 5 (b.map slotV)), (3, .seq 4 (vals.map valV)), (4, .ref 4 0 0), (10, .arr 31 0 vals.length), (37, .seq 2 (sets.map setV)), (38, iv sets.length), (39, iv i)], [(4, ⟨false, t_api_Qea, 9, [qeaV q]⟩), (8, ⟨true, t_api_Value, 4, []⟩), (31, ⟨true, t_api_Value, 4, out.map valV⟩)]⟩ ∧ out.length = vals.length ∧ setsR q b vals (sets.drop i) out = setsR q b vals sets vals) sets.length ⟨0, vals, by simp, rfl, rfl, rfl⟩ ?_
  rintro I hI n st ⟨i, out, hi, rfl, hol, hno⟩
  rw [← hno] at h
  simp -implicitDefEqProofs only [go_sem, Nat.reduceAdd, Nat.reduceSub, Nat.reduceMul, Nat.reduceLT, Nat.reduceLeDiff, Nat.reduceEqDiff, Nat.reduceBEq, Int.reduceNeg, Int.reduceAdd, Int.reduceLT, Int.reduceLE, Int.reduceToNat, Int.reduceEq, Int.reduceNe, Int.reduceBEq, Int.reduceBNe, Int.reduceMul, Int.reduceSub, reduceIte, reduceCtorEq]
  refine ⟨fun hlt => ?_, fun hge => ?_⟩
  · have hlt' : i < sets.length := by omega
    obtain ⟨s, hx, hm⟩ := at_some hlt'
    have hw := wrap_succ hlt' (by omega)
    obtain ⟨e, f, he, hfr, hse, hfn⟩ := hs s hm
    have hr := run_pc (node_pc hS hE e hse (G := G))
    have hok := ev_ok hS hE e hse
    have her := errno_ev hG hok
    have hbad := setsR_bad (q := q) (b := b) (vals := vals) (out := out) hx he
    have hgo := setsR_go (q := q) (b := b) (vals := vals) (out := out) hx he hfr
    obtain ⟨sf, se⟩ := s
    dsimp only at he hfr
    subst he
    subst hfr
    generalize ev q b vals e = r at *
    obtain ⟨⟨k, m, str, bt⟩, er⟩ := r
    dsimp only at hr her hbad hgo
    by_cases h0 : er = 0
    · subst h0
      have hr2 := hr.1 rfl
      have hgo := hgo rfl
      clear hr her hbad
      obtain ⟨old, hold, _⟩ := at_some (l := out) (i := f) (by omega)
      obtain ⟨o1, o2, o3, o4⟩ := old
      have hes : (List.map valV out)[f]? = some (.agg [iv o1, iv o2, .str o3, .bool o4]) := by rw [List.getElem?_map, hold]; rfl
      have hset : (List.map valV out).set f (.agg [iv k, iv m, .str str, .bool bt]) = List.map valV (out.set f ⟨k, m, str, bt⟩) := by rw [List.map_set]; rfl
      have hai : ∀ H : List (Nat × Box), hget H 31 = some ⟨true, t_api_Value, 4, out.map valV⟩ → aiaddr H 4 (.arr 31 0 vals.length) (iv f) = some (.ref 31 f 0) := fun H hH => aiaddr_row hH rfl hfn
      simp only [valV, frameV, qeaV, declsV, quantsV, freesV, statesV, symsV, nodesV, transsV, slotsV, valsV] at hr2
      (try (simp -implicitDefEqProofs only [go_sem, Nat.reduceAdd, Nat.reduceSub, Nat.reduceMul, Nat.reduceLT, Nat.reduceLeDiff, Nat.reduceEqDiff, Nat.reduceBEq, Int.reduceNeg, Int.reduceAdd, Int.reduceLT, Int.reduceLE, Int.reduceToNat, Int.reduceEq, Int.reduceNe, Int.reduceBEq, Int.reduceBNe, Int.reduceMul, Int.reduceSub, reduceIte, reduceCtorEq, aiaddr_map hx, setV, qeaV, declsV, quantsV, freesV, statesV, symsV, nodesV, transsV, hw, hes, hset, hai])); repeat' ((first | refine at_guard (fun hb => ?_) (fun hb => ?_) | refine ⟨fun hb => ?_, fun hb => ?_⟩ | refine at_call (hr2) rfl rfl ?_ | fail) <;> (try (simp -implicitDefEqProofs only [go_sem, Nat.reduceAdd, Nat.reduceSub, Nat.reduceMul, Nat.reduceLT, Nat.reduceLeDiff, Nat.reduceEqDiff, Nat.reduceBEq, Int.reduceNeg, Int.reduceAdd, Int.reduceLT, Int.reduceLE, Int.reduceToNat, Int.reduceEq, Int.reduceNe, Int.reduceBEq, Int.reduceBNe, Int.reduceMul, Int.reduceSub, reduceIte, reduceCtorEq, aiaddr_map hx, setV, qeaV, declsV, quantsV, freesV, statesV, symsV, nodesV, transsV, hw, hes, hset, hai])))
      exact at_again (n - 1) (by omega) (hI _ _ ⟨i + 1, _, by omega, rfl, by simp [hol], by rw [← hgo, hno]⟩)
    · obtain ⟨a, hr2⟩ := hr.2 h0
      have her2 := her h0 a
      have hbad2 := hbad h0
      rw [hbad2] at h
      clear hr her hbad hgo hbad2
      simp only [valV, frameV, qeaV, declsV, quantsV, freesV, statesV, symsV, nodesV, transsV, slotsV, valsV, wrongV] at hr2 her2
      (try (simp -implicitDefEqProofs only [go_sem, Nat.reduceAdd, Nat.reduceSub, Nat.reduceMul, Nat.reduceLT, Nat.reduceLeDiff, Nat.reduceEqDiff, Nat.reduceBEq, Int.reduceNeg, Int.reduceAdd, Int.reduceLT, Int.reduceLE, Int.reduceToNat, Int.reduceEq, Int.reduceNe, Int.reduceBEq, Int.reduceBNe, Int.reduceMul, Int.reduceSub, reduceIte, reduceCtorEq, aiaddr_map hx, setV, qeaV, declsV, quantsV, freesV, statesV, symsV, nodesV, transsV])); repeat' ((first | refine at_guard (fun hb => ?_) (fun hb => ?_) | refine ⟨fun hb => ?_, fun hb => ?_⟩ | refine at_call (hr2) rfl rfl ?_ | refine at_call (her2) rfl rfl ?_ | fail) <;> (try (simp -implicitDefEqProofs only [go_sem, Nat.reduceAdd, Nat.reduceSub, Nat.reduceMul, Nat.reduceLT, Nat.reduceLeDiff, Nat.reduceEqDiff, Nat.reduceBEq, Int.reduceNeg, Int.reduceAdd, Int.reduceLT, Int.reduceLE, Int.reduceToNat, Int.reduceEq, Int.reduceNe, Int.reduceBEq, Int.reduceBNe, Int.reduceMul, Int.reduceSub, reduceIte, reduceCtorEq, aiaddr_map hx, setV, qeaV, declsV, quantsV, freesV, statesV, symsV, nodesV, transsV])))
      exact h _ ⟨_, _, rfl, rfl, .refl _⟩
  · rw [setsR_end (by omega)] at h
    have hview : ∀ H : List (Nat × Box), hget H 31 = some ⟨true, t_api_Value, 4, out.map valV⟩ → view H (.tup [.arr 31 0 vals.length, iv 0]) = some (.tup [valsV out, iv 0]) := fun H hH => by
      simp only [view, view.go, hH, List.drop_zero, List.length_map, hol]
      simp [valsV, ← hol]
      exact List.take_of_length_le (by simp)
    (try (simp -implicitDefEqProofs only [go_sem, Nat.reduceAdd, Nat.reduceSub, Nat.reduceMul, Nat.reduceLT, Nat.reduceLeDiff, Nat.reduceEqDiff, Nat.reduceBEq, Int.reduceNeg, Int.reduceAdd, Int.reduceLT, Int.reduceLE, Int.reduceToNat, Int.reduceEq, Int.reduceNe, Int.reduceBEq, Int.reduceBNe, Int.reduceMul, Int.reduceSub, reduceIte, reduceCtorEq])); repeat' ((first | refine at_guard (fun hb => ?_) (fun hb => ?_) | refine ⟨fun hb => ?_, fun hb => ?_⟩ | fail) <;> (try (simp -implicitDefEqProofs only [go_sem, Nat.reduceAdd, Nat.reduceSub, Nat.reduceMul, Nat.reduceLT, Nat.reduceLeDiff, Nat.reduceEqDiff, Nat.reduceBEq, Int.reduceNeg, Int.reduceAdd, Int.reduceLT, Int.reduceLE, Int.reduceToNat, Int.reduceEq, Int.reduceNe, Int.reduceBEq, Int.reduceBNe, Int.reduceMul, Int.reduceSub, reduceIte, reduceCtorEq])))
    exact h _ ⟨_, _, rfl, hview _ rfl, .refl _⟩
theorem ref16_Sets_pc {q : QeaT} {b : List SlotT} {vals : List Val} {S : Nat → Prop} (hS : Safe q S) (hE : Env q b vals) (j : Nat) (t : TransT) (ht : q.trans[j]? = some t) (hs : SetsOk S vals.length t.sets) (hsl : t.sets.length ≤ 1000000) :
    PureC Tryz.prog G n_proctorref16_Sets [qeaV q, iv j, slotsV b, valsV vals] (.tup [valsV (setsR q b vals t.sets vals).1, iv (setsR q b vals t.sets vals).2]) := by
  obtain ⟨t1, t2, t3, g, sets⟩ := t
  dsimp only at hs hsl ⊢
  have hb : vals.length * 40 ≤ 140737488355328 := by have := hE.vl; omega
  refine pc_proctorref16_Sets (Runs.of fun Φ h => ?_)
  unfold c_proctorref16_Sets
  (try (simp -implicitDefEqProofs only [go_sem, Nat.reduceAdd, Nat.reduceSub, Nat.reduceMul, Nat.reduceLT, Nat.reduceLeDiff, Nat.reduceEqDiff, Nat.reduceBEq, Int.reduceNeg, Int.reduceAdd, Int.reduceLT, Int.reduceLE, Int.reduceToNat, Int.reduceEq, Int.reduceNe, Int.reduceBEq, Int.reduceBNe, Int.reduceMul, Int.reduceSub, reduceIte, reduceCtorEq, qeaV, declsV, quantsV, freesV, statesV, symsV, nodesV, transsV, valsV, slotsV, List.length_map, aiaddr_map ht, transV, setsV, hb])); repeat' ((first | refine at_guard (fun hb => ?_) (fun hb => ?_) | refine ⟨fun hb => ?_, fun hb => ?_⟩ | fail) <;> (try (simp -implicitDefEqProofs only [go_sem, Nat.reduceAdd, Nat.reduceSub, Nat.reduceMul, Nat.reduceLT, Nat.reduceLeDiff, Nat.reduceEqDiff, Nat.reduceBEq, Int.reduceNeg, Int.reduceAdd, Int.reduceLT, Int.reduceLE, Int.reduceToNat, Int.reduceEq, Int.reduceNe, Int.reduceBEq, Int.reduceBNe, Int.reduceMul, Int.reduceSub, reduceIte, reduceCtorEq, qeaV, declsV, quantsV, freesV, statesV, symsV, nodesV, transsV, valsV, slotsV, List.length_map, aiaddr_map ht, transV, setsV, hb])))
  refine at_loop (fun n st => ∃ (i : Nat) (out : List Val), i + n = sets.length ∧ st = ⟨54, [(2, .seq 5 (b.map slotV)), (3, .seq 4 (vals.map valV)), (4, .ref 4 0 0), (10, .arr 15 0 vals.length), (11, .seq 2 (sets.map setV)), (12, iv i)], [(4, ⟨false, t_api_Qea, 9, [qeaV q]⟩), (8, ⟨true, t_api_Value, 4, []⟩), (15, ⟨true, t_api_Value, 4, out.map valV⟩)]⟩ ∧ out.length = vals.length ∧ setsR q b vals (sets.drop i) out = setsR q b vals sets vals) sets.length ⟨0, vals, by simp, rfl, rfl, rfl⟩ ?_
  rintro I hI n st ⟨i, out, hi, rfl, hol, hno⟩
  rw [← hno] at h
  simp -implicitDefEqProofs only [go_sem, Nat.reduceAdd, Nat.reduceSub, Nat.reduceMul, Nat.reduceLT, Nat.reduceLeDiff, Nat.reduceEqDiff, Nat.reduceBEq, Int.reduceNeg, Int.reduceAdd, Int.reduceLT, Int.reduceLE, Int.reduceToNat, Int.reduceEq, Int.reduceNe, Int.reduceBEq, Int.reduceBNe, Int.reduceMul, Int.reduceSub, reduceIte, reduceCtorEq, List.length_map]
  refine ⟨fun hlt => ?_, fun hge => ?_⟩
  · have hlt' : i < sets.length := by omega
    obtain ⟨s, hx, hm⟩ := at_some hlt'
    have hw := wrap_succ hlt' (by omega)
    obtain ⟨e, f, he, hfr, hse, hfn⟩ := hs s hm
    have hr := ref16_Value_pc hS hE e hse (G := G)
    have hbad := setsR_bad (q := q) (b := b) (vals := vals) (out := out) hx he
    have hgo := setsR_go (q := q) (b := b) (vals := vals) (out := out) hx he hfr
    obtain ⟨sf, se⟩ := s
    dsimp only at he hfr
    subst he
    subst hfr
    generalize ev q b vals e = r at *
    obtain ⟨⟨k, m, str, bt⟩, er⟩ := r
    unfold vt at hr
    dsimp only at hr hbad hgo
    simp only [valV, qeaV, declsV, quantsV, freesV, statesV, symsV, nodesV, transsV, slotsV, valsV] at hr
    by_cases h0 : er = 0
    · subst h0
      have hgo := hgo rfl
      clear hbad
      obtain ⟨old, hold, _⟩ := at_some (l := out) (i := f) (by omega)
      obtain ⟨o1, o2, o3, o4⟩ := old
      have hes : (List.map valV out)[f]? = some (.agg [iv o1, iv o2, .str o3, .bool o4]) := by rw [List.getElem?_map, hold]; rfl
      have hset : (List.map valV out).set f (.agg [iv k, iv m, .str str, .bool bt]) = List.map valV (out.set f ⟨k, m, str, bt⟩) := by rw [List.map_set]; rfl
      have hai : ∀ H : List (Nat × Box), hget H 15 = some ⟨true, t_api_Value, 4, out.map valV⟩ → aiaddr H 4 (.arr 15 0 vals.length) (iv f) = some (.ref 15 f 0) := fun H hH => aiaddr_row hH rfl hfn
      (try (simp -implicitDefEqProofs only [go_sem, Nat.reduceAdd, Nat.reduceSub, Nat.reduceMul, Nat.reduceLT, Nat.reduceLeDiff, Nat.reduceEqDiff, Nat.reduceBEq, Int.reduceNeg, Int.reduceAdd, Int.reduceLT, Int.reduceLE, Int.reduceToNat, Int.reduceEq, Int.reduceNe, Int.reduceBEq, Int.reduceBNe, Int.reduceMul, Int.reduceSub, reduceIte, reduceCtorEq, aiaddr_map hx, setV, qeaV, declsV, quantsV, freesV, statesV, symsV, nodesV, transsV, hw, hes, hset, hai])); repeat' ((first | refine at_guard (fun hb => ?_) (fun hb => ?_) | refine ⟨fun hb => ?_, fun hb => ?_⟩ | refine at_call (hr) rfl rfl ?_ | fail) <;> (try (simp -implicitDefEqProofs only [go_sem, Nat.reduceAdd, Nat.reduceSub, Nat.reduceMul, Nat.reduceLT, Nat.reduceLeDiff, Nat.reduceEqDiff, Nat.reduceBEq, Int.reduceNeg, Int.reduceAdd, Int.reduceLT, Int.reduceLE, Int.reduceToNat, Int.reduceEq, Int.reduceNe, Int.reduceBEq, Int.reduceBNe, Int.reduceMul, Int.reduceSub, reduceIte, reduceCtorEq, aiaddr_map hx, setV, qeaV, declsV, quantsV, freesV, statesV, symsV, nodesV, transsV, hw, hes, hset, hai])))
      exact at_again (n - 1) (by omega) (hI _ _ ⟨i + 1, _, by omega, rfl, by simp [hol], by rw [← hgo, hno]⟩)
    · have hbad2 := hbad h0
      rw [hbad2] at h
      have he' : (er != 0) = true := by simpa using h0
      clear hbad hgo hbad2
      (try (simp -implicitDefEqProofs only [go_sem, Nat.reduceAdd, Nat.reduceSub, Nat.reduceMul, Nat.reduceLT, Nat.reduceLeDiff, Nat.reduceEqDiff, Nat.reduceBEq, Int.reduceNeg, Int.reduceAdd, Int.reduceLT, Int.reduceLE, Int.reduceToNat, Int.reduceEq, Int.reduceNe, Int.reduceBEq, Int.reduceBNe, Int.reduceMul, Int.reduceSub, reduceIte, reduceCtorEq, aiaddr_map hx, setV, qeaV, declsV, quantsV, freesV, statesV, symsV, nodesV, transsV, he'])); repeat' ((first | refine at_guard (fun hb => ?_) (fun hb => ?_) | refine ⟨fun hb => ?_, fun hb => ?_⟩ | refine at_call (hr) rfl rfl ?_ | fail) <;> (try (simp -implicitDefEqProofs only [go_sem, Nat.reduceAdd, Nat.reduceSub, Nat.reduceMul, Nat.reduceLT, Nat.reduceLeDiff, Nat.reduceEqDiff, Nat.reduceBEq, Int.reduceNeg, Int.reduceAdd, Int.reduceLT, Int.reduceLE, Int.reduceToNat, Int.reduceEq, Int.reduceNe, Int.reduceBEq, Int.reduceBNe, Int.reduceMul, Int.reduceSub, reduceIte, reduceCtorEq, aiaddr_map hx, setV, qeaV, declsV, quantsV, freesV, statesV, symsV, nodesV, transsV, he'])))
      exact h _ ⟨_, _, rfl, rfl, .refl _⟩
  · rw [setsR_end (by omega)] at h
    have hview : ∀ H : List (Nat × Box), hget H 15 = some ⟨true, t_api_Value, 4, out.map valV⟩ → view H (.tup [.arr 15 0 vals.length, iv 0]) = some (.tup [valsV out, iv 0]) := fun H hH => by
      simp only [view, view.go, hH, List.drop_zero, List.length_map, hol]
      simp [valsV, ← hol]
      exact List.take_of_length_le (by simp)
    (try (simp -implicitDefEqProofs only [go_sem, Nat.reduceAdd, Nat.reduceSub, Nat.reduceMul, Nat.reduceLT, Nat.reduceLeDiff, Nat.reduceEqDiff, Nat.reduceBEq, Int.reduceNeg, Int.reduceAdd, Int.reduceLT, Int.reduceLE, Int.reduceToNat, Int.reduceEq, Int.reduceNe, Int.reduceBEq, Int.reduceBNe, Int.reduceMul, Int.reduceSub, reduceIte, reduceCtorEq])); repeat' ((first | refine at_guard (fun hb => ?_) (fun hb => ?_) | refine ⟨fun hb => ?_, fun hb => ?_⟩ | fail) <;> (try (simp -implicitDefEqProofs only [go_sem, Nat.reduceAdd, Nat.reduceSub, Nat.reduceMul, Nat.reduceLT, Nat.reduceLeDiff, Nat.reduceEqDiff, Nat.reduceBEq, Int.reduceNeg, Int.reduceAdd, Int.reduceLT, Int.reduceLE, Int.reduceToNat, Int.reduceEq, Int.reduceNe, Int.reduceBEq, Int.reduceBNe, Int.reduceMul, Int.reduceSub, reduceIte, reduceCtorEq])))
    exact h _ ⟨_, _, rfl, hview _ rfl, .refl _⟩
end Go.Proofs.YtdfdiglnpekcpabGreatDoor.Ab
