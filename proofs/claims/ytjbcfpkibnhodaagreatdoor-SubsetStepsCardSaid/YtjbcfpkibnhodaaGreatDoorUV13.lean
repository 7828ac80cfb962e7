/-
  core.Right, proctorref13.Right; the law CoreRight, awake. Of an automaton that may be: which expressions may be. What is said of values may be said more weakly, in lists too. The law EvalTrans. No claim is proved here.
-/
import Derived.Test.YtjbcfpkibnhodaaGreatDoorUD25
import Derived.Test.YtjbcfpkibnhodaaGreatDoorUD23
import Derived.Test.YtjbcfpkibnhodaaGreatDoorUD9
namespace Go.Proofs.YtjbcfpkibnhodaaGreatDoor.Ab
open Go
set_option linter.unusedSimpArgs false
set_option maxHeartbeats 4000000
variable {G : Nat → Option AV}
theorem core_Right_pc (hG : words_global G) (q : QeaT) (hq : q.Few) : PureC Tryz.prog G n_core_Right [qeaV q] (.bool (rightC q)) := by
  have h1 := core_few_pc (G := G) q
  have h2 := core_head_pc hG q hq
  have h3 := core_trans_pc (G := G) q hq
  have h4 := core_symbols_pc (G := G) q hq
  refine pc_core_Right (Runs.of fun Φ h => ?_)
  unfold c_core_Right
  unfold rightC at h
  generalize fewS q = b1 at *
  generalize headC q = b2 at *
  generalize transC q (exprs q) standsS = b3 at *
  generalize symbolsC q = b4 at *
  simp only [qeaV, declsV, quantsV, freesV, statesV, symsV, nodesV, transsV] at h1 h2 h3 h4
  repeat' (first | (simp -implicitDefEqProofs only [go_sem, qeaV, declsV, quantsV, freesV, statesV, symsV, nodesV, transsV]) | refine at_guard (fun hb => ?_) (fun hb => ?_) | refine ⟨fun hb => ?_, fun hb => ?_⟩ | refine at_call (h1) rfl rfl ?_ | refine at_call (h2) rfl rfl ?_ | refine at_call (h3) rfl rfl ?_ | refine at_call (h4) rfl rfl ?_ | fail)
  all_goals (refine h _ ⟨_, _, rfl, rfl, fit_eq ?_⟩; clear h; first | rfl | simp_all)
theorem ref13_Right_pc (q : QeaT) (hq : q.Few) : PureC Tryz.prog G n_proctorref13_Right [qeaV q] (.bool (rightR q)) := by
  have hck := ref07_Check_pc (G := G) q.decls (by have := hq.decls; omega) (fun d hd => by have := hq.types d hd; omega)
  have hnm := ref13_names_pc (G := G) q hq
  have htl := hq.trans
  refine pc_proctorref13_Right (Runs.of fun Φ h => ?_)
  unfold c_proctorref13_Right
  have fin : ∀ b heap, rightR q = b → Φ ⟨101, [(2, .bool b)], heap⟩ := fun b heap e => h _ ⟨_, _, rfl, rfl, fitB e.symm⟩
  clear h
  simp only [qeaV, declsV, quantsV, freesV, statesV, symsV, nodesV, transsV] at hck hnm
  cases hT : topR q with
  | false =>
    have hR : rightR q = false := by rw [rightR, hT, Bool.false_and]
    unfold topR fewS at hT
    generalize declCheck q.decls = dc at *
    generalize headR q = hd at *
    simp only [Bool.and_eq_false_imp, decide_eq_true_eq, decide_eq_false_iff_not, Bool.and_eq_true, beq_iff_eq] at hT
    repeat' (first | (simp -implicitDefEqProofs only [go_sem, qeaV, declsV, quantsV, freesV, statesV, symsV, nodesV, transsV, List.length_map]) | refine at_guard (fun hb => ?_) (fun hb => ?_) | refine ⟨fun hb => ?_, fun hb => ?_⟩ | refine at_call (hck) rfl rfl ?_ | refine at_call (hnm) rfl rfl ?_ | fail)
    all_goals first | exact fin _ _ hR | (exfalso; clear fin hck hnm; simp_all; omega) | (exfalso; clear fin hck hnm; simp_all; done)
  | true =>
    have hR : rightR q = (transAll q && symbolsR q) := by rw [rightR, hT, Bool.true_and]
    have hk : q.Kinds := by
      unfold topR at hT
      simp only [Bool.and_eq_true] at hT
      exact top_kinds hT.2.2.2.2
    unfold topR fewS at hT
    generalize declCheck q.decls = dc at *
    generalize headR q = hd at *
    simp only [decide_eq_true_eq, Bool.and_eq_true, beq_iff_eq] at hT
    obtain ⟨t1, ⟨t2, t3, t4, t5, t6, t7⟩, t8, t9, t10⟩ := hT
    subst t10
    repeat' (first | (simp -implicitDefEqProofs only [go_sem, qeaV, declsV, quantsV, freesV, statesV, symsV, nodesV, transsV, List.length_map, t1]) | refine at_guard (fun hb => ?_) (fun hb => ?_) | refine ⟨fun hb => ?_, fun hb => ?_⟩ | refine at_call (hck) rfl rfl ?_ | refine at_call (hnm) rfl rfl ?_ | fail)
    all_goals first | (exfalso; clear fin hck hnm; simp at *; omega) | (exfalso; clear fin hck hnm; simp at *; done) | skip
    refine at_loop (fun n st => ∃ (i : Nat) (a : Int), i + n = q.trans.length ∧ st = ⟨101, [(1, .ref 1 0 0), (5, iv a), (6, iv i)], [(1, ⟨false, t_api_Qea, 9, [qeaV q]⟩)]⟩ ∧ 0 ≤ a ∧ a ≤ q.nodes.length ∧ (∀ j t, j < i → q.trans[j]? = some t → inR t.symbol q.symbols.length = true) ∧ allS (stepR q) q.trans 0 0 = allS (stepR q) (q.trans.drop i) i a) q.trans.length ⟨0, 0, by simp, rfl, by omega, by omega, fun j x hj => by omega, rfl⟩ ?_
    rintro I hI n st ⟨i, a, hi, rfl, h0, hl, hin, hno⟩
    simp -implicitDefEqProofs only [go_sem, qeaV, declsV, quantsV, freesV, statesV, symsV, nodesV, transsV, List.length_map]
    refine ⟨fun hlt => ?_, fun hge => ?_⟩
    · have hlt' : i < q.trans.length := by omega
      obtain ⟨t, ht, hm⟩ := at_some hlt'
      have hw := wrap_succ hlt' (by omega)
      have hc := ref13_trans_pc (G := G) q hq hk t (by have := hq.sets t hm; omega) a h0 hl
      have hle := transR_le (t := t) h0 hl
      rw [allS_step ht] at hno
      unfold stepR at hno
      have hno' : (if (transR q t a).2 = true then allS (stepR q) (q.trans.drop (i + 1)) (i + 1) (transR q t a).1 else (false, (transR q t a).1)) = allS (stepR q) q.trans 0 0 := hno.symm
      clear hno
      generalize transR q t a = r at *
      obtain ⟨A, b⟩ := r
      dsimp only at hle hno'
      simp only [transV, setsV, qeaV, declsV, quantsV, freesV, statesV, symsV, nodesV, transsV, tupR] at hc
      cases b with
      | false =>
        have hbad : rightR q = false := by rw [hR, transAll, ← hno']; rfl
        repeat' (first | (simp -implicitDefEqProofs only [go_sem, aiaddr_map ht, transV, setsV, qeaV, declsV, quantsV, freesV, statesV, symsV, nodesV, transsV, List.length_map, hw]) | refine at_guard (fun hb => ?_) (fun hb => ?_) | refine ⟨fun hb => ?_, fun hb => ?_⟩ | refine at_call (hc) rfl rfl ?_ | fail)
        exact fin _ _ hbad
      | true =>
        obtain ⟨l1, l2, l3⟩ := hle rfl
        have hnext : again I n ⟨101, [(1, .ref 1 0 0), (5, iv A), (6, iv (i + 1 : Nat))], [(1, ⟨false, t_api_Qea, 9, [qeaV q]⟩)]⟩ := at_again (n - 1) (by omega) (hI _ _ ⟨i + 1, A, by omega, rfl, l1, l2, allI_step (p := fun _ (t : TransT) => inR t.symbol q.symbols.length) ht l3 hin, by rw [← hno', if_pos rfl]⟩)
        repeat' (first | (simp -implicitDefEqProofs only [go_sem, aiaddr_map ht, transV, setsV, qeaV, declsV, quantsV, freesV, statesV, symsV, nodesV, transsV, List.length_map, hw]) | refine at_guard (fun hb => ?_) (fun hb => ?_) | refine ⟨fun hb => ?_, fun hb => ?_⟩ | refine at_call (hc) rfl rfl ?_ | fail)
        exact hnext
    · have hs : ∀ t ∈ q.trans, inR t.symbol q.symbols.length = true := fun t ht => by
        obtain ⟨j, hj⟩ := List.getElem?_of_mem ht
        exact hin j t (by have := (List.getElem?_eq_some_iff.1 hj).1; omega) hj
      have hsy := ref13_symbols_pc (G := G) q hq hs
      rw [allS_end (by omega)] at hno
      have hA : transAll q = (a == (q.nodes.length : Int)) := by rw [transAll, hno]; rfl
      rw [hA] at hR
      simp only [qeaV, declsV, quantsV, freesV, statesV, symsV, nodesV, transsV] at hsy
      generalize symbolsR q = sy at *
      clear hI hin hno hA
      repeat' (first | (simp -implicitDefEqProofs only [go_sem, qeaV, declsV, quantsV, freesV, statesV, symsV, nodesV, transsV, List.length_map]) | refine at_guard (fun hb => ?_) (fun hb => ?_) | refine ⟨fun hb => ?_, fun hb => ?_⟩ | refine at_call (hsy) rfl rfl ?_ | fail)
      all_goals
        refine fin _ _ ?_
        rw [hR]
        clear hR fin hsy hck hnm
        simp_all
theorem few_of (q : QeaT) (h : fewQ q = true) : q.Few := by
  unfold fewQ fewTop at h
  simp only [Bool.and_eq_true, decide_eq_true_eq] at h
  obtain ⟨⟨h1, h2, h3, h4, h5, h6, h7, h8⟩, h9, h10, h11, h12, h13⟩ := h
  refine ⟨by omega, fun d hd => ?_, by omega, by omega, by omega, by omega, fun s hs => ?_, by omega, by omega, fun t ht => ?_⟩
  · obtain ⟨i, hi⟩ := List.getElem?_of_mem hd
    have := allI_true.1 h9 i d hi
    unfold fewDecl at this
    simp only [Bool.and_eq_true, decide_eq_true_eq] at this
    omega
  · obtain ⟨i, hi⟩ := List.getElem?_of_mem hs
    have := allI_true.1 h10 i s hi
    unfold fewSym at this
    simp only [Bool.and_eq_true, decide_eq_true_eq] at this
    omega
  · obtain ⟨i, hi⟩ := List.getElem?_of_mem ht
    have := allI_true.1 h13 i t hi
    simp only [decide_eq_true_eq] at this
    omega
end Go.Proofs.YtjbcfpkibnhodaaGreatDoor.Ab
namespace Go.Proofs.YtjbcfpkibnhodaaGreatDoor.Ab
open Go
set_option linter.unusedSimpArgs false
def KindAt (q : QeaT) (i : Nat) : Prop := ∃ e, (exprs q)[i]? = some e ∧ ¬ e.kind = 0
theorem whole_kind {q : QeaT} {a r k : Int} (h : wholeS (exprs q) a r k = true) : ∃ i : Nat, r = i ∧ KindAt q i := by
  unfold wholeS at h
  split at h
  · cases h
  · rename_i e he
    obtain ⟨i, hi, hei⟩ := at?_some he
    simp only [Bool.and_eq_true, beq_iff_eq, Bool.not_eq_true', beq_eq_false_iff_ne, ne_eq, decide_eq_true_eq] at h
    exact ⟨i, hi, e, hei, by rw [h.2.1]; exact h.2.2.1⟩
theorem allS_all {α σ : Type} {f : σ → Nat → α → Bool × σ} : ∀ {l : List α} {i : Nat} {s : σ}, (allS f l i s).1 = true → ∀ x ∈ l, ∃ s' j, (f s' j x).1 = true
  | [], _, _, _, x, hx => by cases hx
  | y :: l, i, s, h, x, hx => by
    rw [allS] at h
    split at h
    · rename_i hy
      rcases List.mem_cons.1 hx with rfl | hx
      · exact ⟨s, i, hy⟩
      · exact allS_all h x hx
    · cases h
theorem trans_ok {q : QeaT} (h : rightR q = true) {t : TransT} (ht : t ∈ q.trans) : (0 ≤ t.guard → KindAt q t.guard.toNat) ∧ SetsOk (KindAt q) q.frees.length t.sets := by
  unfold rightR transAll at h
  simp only [Bool.and_eq_true] at h
  obtain ⟨a, j, hs⟩ := allS_all h.2.1.1 t ht
  have hs : (transR q t a).2 = true := hs
  have rest : ∀ a1, (restR q t a a1).2 = true → SetsOk (KindAt q) q.frees.length t.sets := fun a1 hr s hsm => by
    unfold restR at hr
    dsimp only at hr
    split at hr
    · rename_i hall
      obtain ⟨a2, k, hss⟩ := allS_all hall s hsm
      unfold setStep at hss
      split at hss
      · cases hss
      · rename_i f hf
        obtain ⟨m, hm, hfm⟩ := at?_some hf
        split at hss
        · cases hss
        · split at hss
          · rename_i hw
            obtain ⟨e, he, hk⟩ := whole_kind hw
            exact ⟨e, m, he, hm, hk, (List.getElem?_eq_some_iff.1 hfm).1⟩
          · cases hss
    · cases hr
  unfold transR at hs
  split at hs
  · cases hs
  · split at hs
    · rename_i hg
      exact ⟨fun h0 => by omega, rest _ hs⟩
    · split at hs
      · rename_i hw
        obtain ⟨e, he, hk⟩ := whole_kind hw
        exact ⟨fun _ => by rw [he, Int.toNat_natCast]; exact hk, rest _ hs⟩
      · cases hs
end Go.Proofs.YtjbcfpkibnhodaaGreatDoor.Ab
namespace Go.Proofs.YtjbcfpkibnhodaaGreatDoor.Ab
open Go Go.RowKit
set_option linter.unusedSimpArgs false
set_option maxHeartbeats 4000000
set_option maxRecDepth 100000
variable {G : Nat → Option AV}
inductive Fit2 : AV → AV → Prop where
  | refl (c : AV) : Fit2 c c
  | nil (sz : Nat) : Fit2 .nils (.seq sz [])
  | agg (cs ds : List AV) (hl : cs.length = ds.length) (h : ∀ (j : Nat) c d, cs[j]? = some c → ds[j]? = some d → Fit2 c d) : Fit2 (.agg cs) (.agg ds)
  | seq (sz : Nat) (es fs : List AV) (hl : es.length = fs.length) (hs : ∀ f ∈ fs, f.cells.length = sz) (h : ∀ (k : Nat) e f, es[k]? = some e → fs[k]? = some f → Fit2 e f) : Fit2 (.seq sz es) (.seq sz fs)
theorem Rd.fit2 {w : World} {F : Nat → Prop} {c d : AV} (h : Fit2 c d) : ∀ {nm : Names} {v : Value}, Rd w F nm c v → Rd w F nm d v := by
  induction h with
  | refl c => exact fun h => h
  | nil sz => intro nm v h; cases h; exact .seq0 _ _ _ _
  | agg cs ds hl h ih =>
    intro nm v hr
    obtain ⟨us, rfl, hu, hr⟩ := rd_agg hr
    refine .agg _ _ _ (by omega) fun j c u hc hu' => ?_
    have hj : j < cs.length := by have := (List.getElem?_eq_some_iff.1 hc).1; omega
    exact ih j _ c (List.getElem?_eq_getElem hj) hc (hr j _ u (List.getElem?_eq_getElem hj) hu')
  | seq sz es fs hl hs h ih =>
    intro nm v hr
    generalize hz : AV.seq sz es = z at hr
    cases hr with
    | seq0 _ sz' a cap =>
      simp only [AV.seq.injEq] at hz
      obtain ⟨rfl, rfl⟩ := hz
      have : fs = [] := List.eq_nil_of_length_eq_zero (by simpa using hl.symm)
      subst this
      exact .seq0 _ _ _ _
    | seq _ sz' es' g o cap u h0 hF hc hm hss hw h1 hh =>
      simp only [AV.seq.injEq] at hz
      obtain ⟨rfl, rfl⟩ := hz
      rw [hl]
      refine Rd.seq nm _ fs g o cap u h0 hF (by omega) hm hs (fun p hp => hw p (by rw [hl]; exact hp)) (fun p hp => h1 p (by rw [hl]; exact hp)) fun k f j c hf hc' => ?_
      have hk : k < es.length := by have := (List.getElem?_eq_some_iff.1 hf).1; omega
      obtain ⟨e, he⟩ : ∃ e, es[k]? = some e := ⟨_, List.getElem?_eq_getElem hk⟩
      have ih := @ih k e f he hf
      have hfit := h k e f he hf
      cases hfit with
      | refl => exact hh k _ j c he hc'
      | nil sz2 =>
        match j, hc' with
        | 0, hc' => cases hc'; exact ih (hh k _ 0 _ he rfl)
      | seq sz2 a1 a2 _ _ _ =>
        match j, hc' with
        | 0, hc' => cases hc'; exact ih (hh k _ 0 _ he rfl)
      | agg cs ds hl2 hcd =>
        have hc2 : ds[j]? = some c := hc'
        have hj : j < cs.length := by have := (List.getElem?_eq_some_iff.1 hc2).1; omega
        have hrd : Rd w F noNames (.agg cs) (.agg ((List.range cs.length).map fun i => u (k * sz + i)).toArray) := .agg _ _ _ (by simp) fun i c1 x hc1 hx => by
          have hi : i < cs.length := (List.getElem?_eq_some_iff.1 hc1).1
          rw [List.getElem?_map, List.getElem?_range hi] at hx
          cases hx
          exact hh k _ i c1 he hc1
        obtain ⟨us, e1, e2, e3⟩ := rd_agg (ih hrd)
        have e4 : ((List.range cs.length).map fun i => u (k * sz + i)) = us := by simpa using e1
        exact e3 j c _ hc2 (by rw [← e4, List.getElem?_map, List.getElem?_range hj]; rfl)
    | _ => cases hz
theorem argsR_fit2 {w : World} {F : Nat → Prop} : ∀ {args args' : List AV} {vs : Array Value}, args.length = args'.length → (∀ (j : Nat) c d, args[j]? = some c → args'[j]? = some d → Fit2 c d) → ArgsR w F args vs → ArgsR w F args' vs := fun hl h ha =>
  ⟨by rw [ha.1, hl], fun j d u hd hu => by
    have hj : j < _ := (List.getElem?_eq_some_iff.1 hd).1
    rw [← hl] at hj
    exact (ha.2 j _ u (List.getElem?_eq_getElem hj) hu).fit2 (h j _ d (List.getElem?_eq_getElem hj) hd)⟩
theorem PureC.fit2 {P : Program} {f : Nat} {args args' : List AV} {r : AV} (hl : args.length = args'.length) (h : ∀ (j : Nat) c d, args[j]? = some c → args'[j]? = some d → Fit2 c d) (hc : PureC P G f args' r) : PureC P G f args r := fun w F vs hg ha => hc w F vs hg (argsR_fit2 hl h ha)
end Go.Proofs.YtjbcfpkibnhodaaGreatDoor.Ab
namespace Go.Proofs.YtjbcfpkibnhodaaGreatDoor.Ab
open Go Go.RowKit
set_option linter.unusedSimpArgs false
set_option maxHeartbeats 4000000
set_option maxRecDepth 100000
variable {G : Nat → Option AV}
structure Q64 (q : QeaT) : Prop where
  nodes : ∀ x ∈ q.nodes, i64 x.value.int
end Go.Proofs.YtjbcfpkibnhodaaGreatDoor.Ab
