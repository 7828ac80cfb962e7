/-
  core.Right, proctorref13.Right; the law CoreRight, awake. Of an automaton that may be: which expressions may be. What is said of values may be said more weakly, in lists too. core.Kind, eval.Value; the law's example. The law EvalTrans. No claim is proved here.
-/
import Derived.Test.YtdfdiglnpekcpabDoorWD24
import Derived.Test.YtdfdiglnpekcpabDoorWD23
import Derived.Test.YtdfdiglnpekcpabDoorWD25
import Derived.Test.YtdfdiglnpekcpabDoorWD9
namespace Go.Proofs.YtdfdiglnpekcpabDoor.Ab
open Nat renaming reduceAdd → zq0, reduceSub → zq1, reduceMul → zq2, reduceLT → zq3, reduceLeDiff → zq4, reduceEqDiff → zq5, reduceBEq → zq6
open Int renaming reduceNeg → zq7, reduceAdd → zq8, reduceLT → zq9, reduceLE → zq10, reduceToNat → zq11, reduceEq → zq12, reduceNe → zq13, reduceBEq → zq14, reduceBNe → zq15, reduceMul → zq16, reduceSub → zq17
open Go
set_option linter.unusedSimpArgs false
set_option maxHeartbeats 4000000
variable {G : Nat → Option AV}
theorem ref13_Right_pc (q : QeaT) (hq : q.Few) : PureC Tryd.prog G n_proctorref13_Right [qeaV q] (.bool (rightR q)) := by
  have hck := ref07_Check_pc (G := G) q.decls (by have := hq.decls; omega) (fun d hd => by have := hq.types d hd; omega)
  have hnm := ref13_names_pc (G := G) q hq
  have htl := hq.trans
  refine pc_proctorref13_Right (Runs.of fun Φ h => ?_)
  unfold c_proctorref13_Right
  have fin : ∀ b heap, rightR q = b → Φ ⟨101, [(2, .bool b)], heap⟩ := fun b heap e => h _ ⟨_, _, rfl, rfl, fitB e.symm⟩
  clear h
  simp only [qeaV, declsV, quantsV, freesV, statesV, symsV, nodesV, transsV] at hck hnm
  cases hT : topR q with
  | false =>
    have hR : rightR q = false := by rw [rightR, hT, Bool.false_and]
    unfold topR fewS at hT
    generalize declCheck q.decls = dc at *
    generalize headR q = hd at *
    simp only [Bool.and_eq_false_imp, decide_eq_true_eq, decide_eq_false_iff_not, Bool.and_eq_true, beq_iff_eq] at hT
    (try (simp -implicitDefEqProofs only [go_sem, zq0, zq1, zq2, zq3, zq4, zq5, zq6, zq7, zq8, zq9, zq10, zq11, zq12, zq13, zq14, zq15, zq16, zq17, reduceIte, reduceCtorEq, qeaV, declsV, quantsV, freesV, statesV, symsV, nodesV, transsV, List.length_map])); repeat' ((first | refine at_guard (fun hb => ?_) (fun hb => ?_) | refine ⟨fun hb => ?_, fun hb => ?_⟩ | refine at_call (hck) rfl rfl ?_ | refine at_call (hnm) rfl rfl ?_ | fail) <;> (try (simp -implicitDefEqProofs only [go_sem, zq0, zq1, zq2, zq3, zq4, zq5, zq6, zq7, zq8, zq9, zq10, zq11, zq12, zq13, zq14, zq15, zq16, zq17, reduceIte, reduceCtorEq, qeaV, declsV, quantsV, freesV, statesV, symsV, nodesV, transsV, List.length_map])))
    all_goals first | exact fin _ _ hR | (exfalso; clear fin hck hnm; simp_all; omega) | (exfalso; clear fin hck hnm; simp_all; done)
  | true =>
    have hR : rightR q = (transAll q && symbolsR q) := by rw [rightR, hT, Bool.true_and]
    have hk : q.Kinds := by
      unfold topR at hT
      simp only [Bool.and_eq_true] at hT
      exact top_kinds hT.2.2.2.2
    unfold topR fewS at hT
    generalize declCheck q.decls = dc at *
    generalize headR q = hd at *
    simp only [decide_eq_true_eq, Bool.and_eq_true, beq_iff_eq] at hT
    obtain ⟨t1, ⟨t2, t3, t4, t5, t6, t7⟩, t8, t9, t10⟩ := hT
    subst t10
    (try (simp -implicitDefEqProofs only [go_sem, zq0, zq1, zq2, zq3, zq4, zq5, zq6, zq7, zq8, zq9, zq10, zq11, zq12, zq13, zq14, zq15, zq16, zq17, reduceIte, reduceCtorEq, qeaV, declsV, quantsV, freesV, statesV, symsV, nodesV, transsV, List.length_map, t1])); repeat' ((first | refine at_guard (fun hb => ?_) (fun hb => ?_) | refine ⟨fun hb => ?_, fun hb => ?_⟩ | refine at_call (hck) rfl rfl ?_ | refine at_call (hnm) rfl rfl ?_ | fail) <;> (try (simp -implicitDefEqProofs only [go_sem, zq0, zq1, zq2, zq3, zq4, zq5, zq6, zq7, zq8, zq9, zq10, zq11, zq12, zq13, zq14, zq15, zq16, zq17, reduceIte, reduceCtorEq, qeaV, declsV, quantsV, freesV, statesV, symsV, nodesV, transsV, List.length_map, t1])))
    all_goals first | (exfalso; clear fin hck hnm; simp at *; omega) | (exfalso; clear fin hck hnm; simp at *; done) | skip
    refine at_loop (fun n st => ∃ (i : Nat) (a : Int), i + n = q.trans.length ∧ st = ⟨101, [(1, .ref 1 0 0), (5, iv a), (6, iv i)], [(1, ⟨false, t_api_Qea, 9, [qeaV q]⟩)]⟩ ∧ 0 ≤ a ∧ a ≤ q.nodes.length ∧ (∀ j t, j < i → q.trans[j]? = some t → inR t.symbol q.symbols.length = true) ∧ allS (stepR q) q.trans 0 0 = allS (stepR q) (q.trans.drop i) i a) q.trans.length ⟨0, 0, by simp, rfl, by omega, by omega, fun j x hj => by omega, rfl⟩ ?_
    rintro I hI n st ⟨i, a, hi, rfl, h0, hl, hin, hno⟩
    simp -implicitDefEqProofs only [go_sem, zq0, zq1, zq2, zq3, zq4, zq5, zq6, zq7, zq8, zq9, zq10, zq11, zq12, zq13, zq14, zq15, zq16, zq17, reduceIte, reduceCtorEq, qeaV, declsV, quantsV, freesV, statesV, symsV, nodesV, transsV, List.length_map]
    refine ⟨fun hlt => ?_, fun hge => ?_⟩
    · have hlt' : i < q.trans.length := by omega
      obtain ⟨t, ht, hm⟩ := at_some hlt'
      have hw := wrap_succ hlt' (by omega)
      have hc := ref13_trans_pc (G := G) q hq hk t (by have := hq.sets t hm; omega) a h0 hl
      have hle := transR_le (t := t) h0 hl
      rw [allS_step ht] at hno
      unfold stepR at hno
      have hno' : (if (transR q t a).2 = true then allS (stepR q) (q.trans.drop (i + 1)) (i + 1) (transR q t a).1 else (false, (transR q t a).1)) = allS (stepR q) q.trans 0 0 := hno.symm
      clear hno
      generalize transR q t a = r at *
      obtain ⟨A, b⟩ := r
      dsimp only at hle hno'
      simp only [transV, setsV, qeaV, declsV, quantsV, freesV, statesV, symsV, nodesV, transsV, tupR] at hc
      cases b with
      | false =>
        have hbad : rightR q = false := by rw [hR, transAll, ← hno']; rfl
        (try (simp -implicitDefEqProofs only [go_sem, zq0, zq1, zq2, zq3, zq4, zq5, zq6, zq7, zq8, zq9, zq10, zq11, zq12, zq13, zq14, zq15, zq16, zq17, reduceIte, reduceCtorEq, aiaddr_map ht, transV, setsV, qeaV, declsV, quantsV, freesV, statesV, symsV, nodesV, transsV, List.length_map, hw])); repeat' ((first | refine at_guard (fun hb => ?_) (fun hb => ?_) | refine ⟨fun hb => ?_, fun hb => ?_⟩ | refine at_call (hc) rfl rfl ?_ | fail) <;> (try (simp -implicitDefEqProofs only [go_sem, zq0, zq1, zq2, zq3, zq4, zq5, zq6, zq7, zq8, zq9, zq10, zq11, zq12, zq13, zq14, zq15, zq16, zq17, reduceIte, reduceCtorEq, aiaddr_map ht, transV, setsV, qeaV, declsV, quantsV, freesV, statesV, symsV, nodesV, transsV, List.length_map, hw])))
        exact fin _ _ hbad
      | true =>
        obtain ⟨l1, l2, l3⟩ := hle rfl
        have hnext : again I n ⟨101, [(1, .ref 1 0 0), (5, iv A), (6, iv (i + 1 : Nat))], [(1, ⟨false, t_api_Qea, 9, [qeaV q]⟩)]⟩ := at_again (n - 1) (by omega) (hI _ _ ⟨i + 1, A, by omega, rfl, l1, l2, allI_step (p := fun _ (t : TransT) => inR t.symbol q.symbols.length) ht l3 hin, by rw [← hno', if_pos rfl]⟩)
        (try (simp -implicitDefEqProofs only [go_sem, zq0, zq1, zq2, zq3, zq4, zq5, zq6, zq7, zq8, zq9, zq10, zq11, zq12, zq13, zq14, zq15, zq16, zq17, reduceIte, reduceCtorEq, aiaddr_map ht, transV, setsV, qeaV, declsV, quantsV, freesV, statesV, symsV, nodesV, transsV, List.length_map, hw])); repeat' ((first | refine at_guard (fun hb => ?_) (fun hb => ?_) | refine ⟨fun hb => ?_, fun hb => ?_⟩ | refine at_call (hc) rfl rfl ?_ | fail) <;> (try (simp -implicitDefEqProofs only [go_sem, zq0, zq1, zq2, zq3, zq4, zq5, zq6, zq7, zq8, zq9, zq10, zq11, zq12, zq13, zq14, zq15, zq16, zq17, reduceIte, reduceCtorEq, aiaddr_map ht, transV, setsV, qeaV, declsV, quantsV, freesV, statesV, symsV, nodesV, transsV, List.length_map, hw])))
        exact hnext
    · have hs : ∀ t ∈ q.trans, inR t.symbol q.symbols.length = true := fun t ht => by
        obtain ⟨j, hj⟩ := List.getElem?_of_mem ht
        exact hin j t (by have := (List.getElem?_eq_some_iff.1 hj).1; omega) hj
      have hsy := ref13_symbols_pc (G := G) q hq hs
      rw [allS_end (by omega)] at hno
      have hA : transAll q = (a == (q.nodes.length : Int)) := by rw [transAll, hno]; rfl
      rw [hA] at hR
      simp only [qeaV, declsV, quantsV, freesV, statesV, symsV, nodesV, transsV] at hsy
      generalize symbolsR q = sy at *
      clear hI hin hno hA
      (try (simp -implicitDefEqProofs only [go_sem, zq0, zq1, zq2, zq3, zq4, zq5, zq6, zq7, zq8, zq9, zq10, zq11, zq12, zq13, zq14, zq15, zq16, zq17, reduceIte, reduceCtorEq, qeaV, declsV, quantsV, freesV, statesV, symsV, nodesV, transsV, List.length_map])); repeat' ((first | refine at_guard (fun hb => ?_) (fun hb => ?_) | refine ⟨fun hb => ?_, fun hb => ?_⟩ | refine at_call (hsy) rfl rfl ?_ | fail) <;> (try (simp -implicitDefEqProofs only [go_sem, zq0, zq1, zq2, zq3, zq4, zq5, zq6, zq7, zq8, zq9, zq10, zq11, zq12, zq13, zq14, zq15, zq16, zq17, reduceIte, reduceCtorEq, qeaV, declsV, quantsV, freesV, statesV, symsV, nodesV, transsV, List.length_map])))
      all_goals
        refine fin _ _ ?_
        rw [hR]
        clear hR fin hsy hck hnm
        simp_all
theorem few_of (q : QeaT) (h : fewQ q = true) : q.Few := by
  unfold fewQ fewTop at h
  simp only [Bool.and_eq_true, decide_eq_true_eq] at h
  obtain ⟨⟨h1, h2, h3, h4, h5, h6, h7, h8⟩, h9, h10, h11, h12, h13⟩ := h
  refine ⟨by omega, fun d hd => ?_, by omega, by omega, by omega, by omega, fun s hs => ?_, by omega, by omega, fun t ht => ?_⟩
  · obtain ⟨i, hi⟩ := List.getElem?_of_mem hd
    have := allI_true.1 h9 i d hi
    unfold fewDecl at this
    simp only [Bool.and_eq_true, decide_eq_true_eq] at this
    omega
  · obtain ⟨i, hi⟩ := List.getElem?_of_mem hs
    have := allI_true.1 h10 i s hi
    unfold fewSym at this
    simp only [Bool.and_eq_true, decide_eq_true_eq] at this
    omega
  · obtain ⟨i, hi⟩ := List.getElem?_of_mem ht
    have := allI_true.1 h13 i t hi
    simp only [decide_eq_true_eq] at this
    omega
end Go.Proofs.YtdfdiglnpekcpabDoor.Ab
namespace Go.Proofs.YtdfdiglnpekcpabDoor.Ab
open Go
set_option linter.unusedSimpArgs false
end Go.Proofs.YtdfdiglnpekcpabDoor.Ab
namespace Go.Proofs.YtdfdiglnpekcpabDoor.Ab
open Go Go.RowKit
set_option linter.unusedSimpArgs false
set_option maxHeartbeats 4000000
set_option maxRecDepth 100000
variable {G : Nat → Option AV}
inductive Fit2 : AV → AV → Prop where
  | refl (c : AV) : Fit2 c c
  | nil (sz : Nat) : Fit2 .nils (.seq sz [])
  | agg (cs ds : List AV) (hl : cs.length = ds.length) (h : ∀ (j : Nat) c d, cs[j]? = some c → ds[j]? = some d → Fit2 c d) : Fit2 (.agg cs) (.agg ds)
  | seq (sz : Nat) (es fs : List AV) (hl : es.length = fs.length) (hs : ∀ f ∈ fs, f.cells.length = sz) (h : ∀ (k : Nat) e f, es[k]? = some e → fs[k]? = some f → Fit2 e f) : Fit2 (.seq sz es) (.seq sz fs)
theorem Rd.fit2 {w : World} {F : Nat → Prop} {c d : AV} (h : Fit2 c d) : ∀ {nm : Names} {v : Value}, Rd w F nm c v → Rd w F nm d v := by
  induction h with
  | refl c => exact fun h => h
  | nil sz => intro nm v h; cases h; exact .seq0 _ _ _ _
  | agg cs ds hl h ih =>
    intro nm v hr
    obtain ⟨us, rfl, hu, hr⟩ := rd_agg hr
    refine .agg _ _ _ (by omega) fun j c u hc hu' => ?_
    have hj : j < cs.length := by have := (List.getElem?_eq_some_iff.1 hc).1; omega
    exact ih j _ c (List.getElem?_eq_getElem hj) hc (hr j _ u (List.getElem?_eq_getElem hj) hu')
  | seq sz es fs hl hs h ih =>
    intro nm v hr
    generalize hz : AV.seq sz es = z at hr
    cases hr with
    | seq0 _ sz' a cap =>
      simp only [AV.seq.injEq] at hz
      obtain ⟨rfl, rfl⟩ := hz
      have : fs = [] := List.eq_nil_of_length_eq_zero (by simpa using hl.symm)
      subst this
      exact .seq0 _ _ _ _
    | seq _ sz' es' g o cap u h0 hF hc hm hss hw h1 hh =>
      simp only [AV.seq.injEq] at hz
      obtain ⟨rfl, rfl⟩ := hz
      rw [hl]
      refine Rd.seq nm _ fs g o cap u h0 hF (by omega) hm hs (fun p hp => hw p (by rw [hl]; exact hp)) (fun p hp => h1 p (by rw [hl]; exact hp)) fun k f j c hf hc' => ?_
      have hk : k < es.length := by have := (List.getElem?_eq_some_iff.1 hf).1; omega
      obtain ⟨e, he⟩ : ∃ e, es[k]? = some e := ⟨_, List.getElem?_eq_getElem hk⟩
      have ih := @ih k e f he hf
      have hfit := h k e f he hf
      cases hfit with
      | refl => exact hh k _ j c he hc'
      | nil sz2 =>
        match j, hc' with
        | 0, hc' => cases hc'; exact ih (hh k _ 0 _ he rfl)
      | seq sz2 a1 a2 _ _ _ =>
        match j, hc' with
        | 0, hc' => cases hc'; exact ih (hh k _ 0 _ he rfl)
      | agg cs ds hl2 hcd =>
        have hc2 : ds[j]? = some c := hc'
        have hj : j < cs.length := by have := (List.getElem?_eq_some_iff.1 hc2).1; omega
        have hrd : Rd w F noNames (.agg cs) (.agg ((List.range cs.length).map fun i => u (k * sz + i)).toArray) := .agg _ _ _ (by simp) fun i c1 x hc1 hx => by
          have hi : i < cs.length := (List.getElem?_eq_some_iff.1 hc1).1
          rw [List.getElem?_map, List.getElem?_range hi] at hx
          cases hx
          exact hh k _ i c1 he hc1
        obtain ⟨us, e1, e2, e3⟩ := rd_agg (ih hrd)
        have e4 : ((List.range cs.length).map fun i => u (k * sz + i)) = us := by simpa using e1
        exact e3 j c _ hc2 (by rw [← e4, List.getElem?_map, List.getElem?_range hj]; rfl)
    | _ => cases hz
theorem argsR_fit2 {w : World} {F : Nat → Prop} : ∀ {args args' : List AV} {vs : Array Value}, args.length = args'.length → (∀ (j : Nat) c d, args[j]? = some c → args'[j]? = some d → Fit2 c d) → ArgsR w F args vs → ArgsR w F args' vs := fun hl h ha =>
  ⟨by rw [ha.1, hl], fun j d u hd hu => by
    have hj : j < _ := (List.getElem?_eq_some_iff.1 hd).1
    rw [← hl] at hj
    exact (ha.2 j _ u (List.getElem?_eq_getElem hj) hu).fit2 (h j _ d (List.getElem?_eq_getElem hj) hd)⟩
theorem PureC.fit2 {P : Program} {f : Nat} {args args' : List AV} {r : AV} (hl : args.length = args'.length) (h : ∀ (j : Nat) c d, args[j]? = some c → args'[j]? = some d → Fit2 c d) (hc : PureC P G f args' r) : PureC P G f args r := fun w F vs hg ha => hc w F vs hg (argsR_fit2 hl h ha)
end Go.Proofs.YtdfdiglnpekcpabDoor.Ab
namespace Go.Proofs.YtdfdiglnpekcpabDoor.Ab
open Go Go.RowKit
set_option linter.unusedSimpArgs false
set_option maxHeartbeats 4000000
set_option maxRecDepth 100000
variable {G : Nat → Option AV}
end Go.Proofs.YtdfdiglnpekcpabDoor.Ab
namespace Go.Proofs.YtdfdiglnpekcpabDoor.Ab
open Go Go.RowKit
set_option linter.unusedSimpArgs false
set_option maxHeartbeats 4000000
set_option maxRecDepth 100000
variable {G : Nat → Option AV}
def shortV (vals : List Val) : Bool := allI (fun _ (v : Val) => decide ((v.str.length : Int) ≤ 1000)) vals
structure Q64 (q : QeaT) : Prop where
  nodes : ∀ x ∈ q.nodes, i64 x.value.int
end Go.Proofs.YtdfdiglnpekcpabDoor.Ab
