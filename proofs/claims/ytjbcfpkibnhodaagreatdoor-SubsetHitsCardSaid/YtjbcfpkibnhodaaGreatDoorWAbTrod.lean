/-
  core.Right, proctorref13.Right; the law CoreRight, awake. Of an automaton that may be: which expressions may be. What is said of values may be said more weakly, in lists too. The law EvalTrans. From a row's reading to the contracts, and back. From what a row reads to values without their place. No claim is proved here.
-/
import Derived.Test.YtjbcfpkibnhodaaGreatDoorWD25
import Derived.ProofKit
import Derived.OpenShut
namespace Go.Proofs.YtjbcfpkibnhodaaGreatDoor.Ab
open Go
set_option linter.unusedSimpArgs false
set_option maxHeartbeats 4000000
variable {G : Nat → Option AV}
theorem core_Right_pc (hG : wg_ G) (q : QeaT) (hq : q.Few) : P_ Tryz.prog G n_core_Right [qeaV q] (.bool (rightC q)) := by
  have h1 := core_few_pc (G := G) q
  have h2 := core_head_pc hG q hq
  have h3 := core_trans_pc (G := G) q hq
  have h4 := core_symbols_pc (G := G) q hq
  refine pc_core_Right (Runs.of fun Φ h => ?_)
  unfold c_core_Right
  unfold rightC at h
  generalize fewS q = b1 at *
  generalize headC q = b2 at *
  generalize transC q (exprs q) s12 = b3 at *
  generalize symbolsC q = b4 at *
  simp only [qeaV, d_, q_, f_, s_, s10, n_, t_] at h1 h2 h3 h4
  repeat' (first | (simp -implicitDefEqProofs only [go_sem, qeaV, d_, q_, f_, s_, s10, n_, t_]) | refine ag_ (fun hb => ?_) (fun hb => ?_) | refine ⟨fun hb => ?_, fun hb => ?_⟩ | refine ac_ (h1) rfl rfl ?_ | refine ac_ (h2) rfl rfl ?_ | refine ac_ (h3) rfl rfl ?_ | refine ac_ (h4) rfl rfl ?_ | fail)
  all_goals (refine h _ ⟨_, _, rfl, rfl, fe_ ?_⟩; clear h; first | rfl | simp_all)
theorem ref13_Right_pc (q : QeaT) (hq : q.Few) : P_ Tryz.prog G n_proctorref13_Right [qeaV q] (.bool (rightR q)) := by
  have hck := ref07_Check_pc (G := G) q.decls (by have := hq.decls; omega) (fun d hd => by have := hq.types d hd; omega)
  have hnm := ref13_names_pc (G := G) q hq
  have htl := hq.trans
  refine pc_proctorref13_Right (Runs.of fun Φ h => ?_)
  unfold c_proctorref13_Right
  have fin : ∀ b heap, rightR q = b → Φ ⟨101, [(2, .bool b)], heap⟩ := fun b heap e => h _ ⟨_, _, rfl, rfl, fitB e.symm⟩
  clear h
  simp only [qeaV, d_, q_, f_, s_, s10, n_, t_] at hck hnm
  cases hT : topR q with
  | false =>
    have hR : rightR q = false := by rw [rightR, hT, Bool.false_and]
    unfold topR fewS at hT
    generalize d10 q.decls = dc at *
    generalize headR q = hd at *
    simp only [Bool.and_eq_false_imp, decide_eq_true_eq, decide_eq_false_iff_not, Bool.and_eq_true, beq_iff_eq] at hT
    repeat' (first | (simp -implicitDefEqProofs only [go_sem, qeaV, d_, q_, f_, s_, s10, n_, t_, List.length_map]) | refine ag_ (fun hb => ?_) (fun hb => ?_) | refine ⟨fun hb => ?_, fun hb => ?_⟩ | refine ac_ (hck) rfl rfl ?_ | refine ac_ (hnm) rfl rfl ?_ | fail)
    all_goals first | exact fin _ _ hR | (exfalso; clear fin hck hnm; simp_all; omega) | (exfalso; clear fin hck hnm; simp_all; done)
  | true =>
    have hR : rightR q = (transAll q && symbolsR q) := by rw [rightR, hT, Bool.true_and]
    have hk : q.Kinds := by
      unfold topR at hT
      simp only [Bool.and_eq_true] at hT
      exact top_kinds hT.2.2.2.2
    unfold topR fewS at hT
    generalize d10 q.decls = dc at *
    generalize headR q = hd at *
    simp only [decide_eq_true_eq, Bool.and_eq_true, beq_iff_eq] at hT
    obtain ⟨t1, ⟨t2, t3, t4, t5, t6, t7⟩, t8, t9, t10⟩ := hT
    subst t10
    repeat' (first | (simp -implicitDefEqProofs only [go_sem, qeaV, d_, q_, f_, s_, s10, n_, t_, List.length_map, t1]) | refine ag_ (fun hb => ?_) (fun hb => ?_) | refine ⟨fun hb => ?_, fun hb => ?_⟩ | refine ac_ (hck) rfl rfl ?_ | refine ac_ (hnm) rfl rfl ?_ | fail)
    all_goals first | (exfalso; clear fin hck hnm; simp at *; omega) | (exfalso; clear fin hck hnm; simp at *; done) | skip
    refine al_ (fun n st => ∃ (i : Nat) (a : Int), i + n = q.trans.length ∧ st = ⟨101, [(1, .ref 1 0 0), (5, iv a), (6, iv i)], [(1, ⟨false, taQ_, 9, [qeaV q]⟩)]⟩ ∧ 0 ≤ a ∧ a ≤ q.nodes.length ∧ (∀ j t, j < i → q.trans[j]? = some t → inR t.symbol q.symbols.length = true) ∧ allS (stepR q) q.trans 0 0 = allS (stepR q) (q.trans.drop i) i a) q.trans.length ⟨0, 0, by simp, rfl, by omega, by omega, fun j x hj => by omega, rfl⟩ ?_
    rintro I hI n st ⟨i, a, hi, rfl, h0, hl, hin, hno⟩
    simp -implicitDefEqProofs only [go_sem, qeaV, d_, q_, f_, s_, s10, n_, t_, List.length_map]
    refine ⟨fun hlt => ?_, fun hge => ?_⟩
    · have hlt' : i < q.trans.length := by omega
      obtain ⟨t, ht, hm⟩ := as10 hlt'
      have hw := ws_ hlt' (by omega)
      have hc := ref13_trans_pc (G := G) q hq hk t (by have := hq.sets t hm; omega) a h0 hl
      have hle := transR_le (t := t) h0 hl
      rw [allS_step ht] at hno
      unfold stepR at hno
      have hno' : (if (transR q t a).2 = true then allS (stepR q) (q.trans.drop (i + 1)) (i + 1) (transR q t a).1 else (false, (transR q t a).1)) = allS (stepR q) q.trans 0 0 := hno.symm
      clear hno
      generalize transR q t a = r at *
      obtain ⟨A, b⟩ := r
      dsimp only at hle hno'
      simp only [t11, setsV, qeaV, d_, q_, f_, s_, s10, n_, t_, tupR] at hc
      cases b with
      | false =>
        have hbad : rightR q = false := by rw [hR, transAll, ← hno']; rfl
        repeat' (first | (simp -implicitDefEqProofs only [go_sem, am_ ht, t11, setsV, qeaV, d_, q_, f_, s_, s10, n_, t_, List.length_map, hw]) | refine ag_ (fun hb => ?_) (fun hb => ?_) | refine ⟨fun hb => ?_, fun hb => ?_⟩ | refine ac_ (hc) rfl rfl ?_ | fail)
        exact fin _ _ hbad
      | true =>
        obtain ⟨l1, l2, l3⟩ := hle rfl
        have hnext : again I n ⟨101, [(1, .ref 1 0 0), (5, iv A), (6, iv (i + 1 : Nat))], [(1, ⟨false, taQ_, 9, [qeaV q]⟩)]⟩ := aa_ (n - 1) (by omega) (hI _ _ ⟨i + 1, A, by omega, rfl, l1, l2, allI_step (p := fun _ (t : TransT) => inR t.symbol q.symbols.length) ht l3 hin, by rw [← hno', if_pos rfl]⟩)
        repeat' (first | (simp -implicitDefEqProofs only [go_sem, am_ ht, t11, setsV, qeaV, d_, q_, f_, s_, s10, n_, t_, List.length_map, hw]) | refine ag_ (fun hb => ?_) (fun hb => ?_) | refine ⟨fun hb => ?_, fun hb => ?_⟩ | refine ac_ (hc) rfl rfl ?_ | fail)
        exact hnext
    · have hs : ∀ t ∈ q.trans, inR t.symbol q.symbols.length = true := fun t ht => by
        obtain ⟨j, hj⟩ := List.getElem?_of_mem ht
        exact hin j t (by have := (List.getElem?_eq_some_iff.1 hj).1; omega) hj
      have hsy := ref13_symbols_pc (G := G) q hq hs
      rw [allS_end (by omega)] at hno
      have hA : transAll q = (a == (q.nodes.length : Int)) := by rw [transAll, hno]; rfl
      rw [hA] at hR
      simp only [qeaV, d_, q_, f_, s_, s10, n_, t_] at hsy
      generalize symbolsR q = sy at *
      clear hI hin hno hA
      repeat' (first | (simp -implicitDefEqProofs only [go_sem, qeaV, d_, q_, f_, s_, s10, n_, t_, List.length_map]) | refine ag_ (fun hb => ?_) (fun hb => ?_) | refine ⟨fun hb => ?_, fun hb => ?_⟩ | refine ac_ (hsy) rfl rfl ?_ | fail)
      all_goals
        refine fin _ _ ?_
        rw [hR]
        clear hR fin hsy hck hnm
        simp_all
theorem few_of (q : QeaT) (h : fewQ q = true) : q.Few := by
  unfold fewQ fewTop at h
  simp only [Bool.and_eq_true, decide_eq_true_eq] at h
  obtain ⟨⟨h1, h2, h3, h4, h5, h6, h7, h8⟩, h9, h10, h11, h12, h13⟩ := h
  refine ⟨by omega, fun d hd => ?_, by omega, by omega, by omega, by omega, fun s hs => ?_, by omega, by omega, fun t ht => ?_⟩
  · obtain ⟨i, hi⟩ := List.getElem?_of_mem hd
    have := at10.1 h9 i d hi
    unfold fewDecl at this
    simp only [Bool.and_eq_true, decide_eq_true_eq] at this
    omega
  · obtain ⟨i, hi⟩ := List.getElem?_of_mem hs
    have := at10.1 h10 i s hi
    unfold fewSym at this
    simp only [Bool.and_eq_true, decide_eq_true_eq] at this
    omega
  · obtain ⟨i, hi⟩ := List.getElem?_of_mem ht
    have := at10.1 h13 i t hi
    simp only [decide_eq_true_eq] at this
    omega
end Go.Proofs.YtjbcfpkibnhodaaGreatDoor.Ab
namespace Go.Proofs.YtjbcfpkibnhodaaGreatDoor.Ab
open Go
set_option linter.unusedSimpArgs false
def KindAt (q : QeaT) (i : Nat) : Prop := ∃ e, (exprs q)[i]? = some e ∧ ¬ e.kind = 0
theorem exL_get {q : QeaT} {i : Nat} {x : NodeT} (hx : q.nodes[i]? = some x) : ∀ n, i < n → n ≤ q.nodes.length → (exL q n)[i]? = some (exStep q (exL q i) i x)
  | 0, h, _ => absurd h (by omega)
  | n + 1, h, hn => by
    obtain ⟨y, hy, _⟩ := as10 (l := q.nodes) (i := n) (by omega)
    have hl := el_ q n (by omega)
    rw [exL_step hy]
    by_cases e : i = n
    · subst e
      rw [hx] at hy; cases hy
      rw [List.getElem?_append_right (by omega), hl]
      simp
    · rw [List.getElem?_append_left (by omega)]
      exact exL_get hx n (by omega) (by omega)
theorem exL_pre {q : QeaT} {i j : Nat} {e : ExT} (hi : i ≤ q.nodes.length) (h : (exL q i)[j]? = some e) : (exprs q)[j]? = some e := by
  have hl := el_ q i hi
  have hj := (List.getElem?_eq_some_iff.1 h).1
  obtain ⟨x, hx, _⟩ := as10 (l := q.nodes) (i := j) (by omega)
  rw [exL_get hx i (by omega) hi] at h
  unfold exprs
  rw [exL_get hx _ (by omega) (Nat.le_refl _)]
  exact h
theorem safe_of (q : QeaT) (h64 : ∀ x ∈ q.nodes, i64 x.value.int) : Safe q (KindAt q) := by
  have key : ∀ i, KindAt q i → ∃ x, q.nodes[i]? = some x ∧ NodeW q i x ∧ (4 ≤ x.op → KindAt q x.a.toNat ∧ (6 ≤ x.op → KindAt q x.b.toNat)) := by
    rintro i ⟨e, he, hk⟩
    have hlen := el_ q q.nodes.length (Nat.le_refl _)
    have hi : i < q.nodes.length := by
      have := (List.getElem?_eq_some_iff.1 he).1
      unfold exprs at this
      omega
    obtain ⟨x, hx, hm⟩ := as10 hi
    have hel := el_ q i (by omega)
    unfold exprs at he
    rw [exL_get hx _ hi (Nat.le_refl _)] at he
    simp only [Option.some.injEq] at he
    subst he
    refine ⟨x, hx, ?_⟩
    unfold exStep at hk
    cases hleaf : leafOf q i x with
    | some e =>
      unfold leafOf at hleaf
      by_cases h1 : x.op = 1
      · rw [if_pos h1] at hleaf
        split at hleaf
        · rename_i hc
          exact ⟨.con h1 ⟨hc.2.2, h64 x hm⟩, fun h => by omega⟩
        · cases hleaf
      rw [if_neg h1] at hleaf
      by_cases h2 : x.op = 2
      · rw [if_pos h2] at hleaf
        split at hleaf
        · obtain ⟨y, hy, _⟩ := Option.map_eq_some_iff.1 hleaf
          obtain ⟨j, hj, hy⟩ := at?_some hy
          exact ⟨.quant h2 j hj y hy, fun h => by omega⟩
        · cases hleaf
      rw [if_neg h2] at hleaf
      by_cases h3 : x.op = 3
      · rw [if_pos h3] at hleaf
        split at hleaf
        · obtain ⟨y, hy, _⟩ := Option.map_eq_some_iff.1 hleaf
          obtain ⟨j, hj, hy⟩ := at?_some hy
          exact ⟨.free h3 j hj y hy, fun h => by omega⟩
        · cases hleaf
      rw [if_neg h3] at hleaf
      cases hleaf
    | none =>
      rw [hleaf] at hk
      dsimp only at hk
      split at hk
      · exact absurd rfl hk
      rename_i hop
      have hop4 : 4 ≤ x.op ∧ x.op ≤ 16 := by
        constructor
        · by_cases h : 4 ≤ x.op
          · exact h
          · exact absurd (.inl (by omega)) hop
        · by_cases h : x.op ≤ 16
          · exact h
          · exact absurd (.inr (.inl (by omega))) hop
      cases hb : at? (exL q i) ((i : Int) - 1) with
      | none => rw [hb] at hk; exact absurd rfl hk
      | some b =>
        rw [hb] at hk
        dsimp only at hk
        obtain ⟨j, hj, hbj⟩ := at?_some hb
        have hjl := (List.getElem?_eq_some_iff.1 hbj).1
        split at hk
        · exact absurd rfl hk
        rename_i hbk
        have hKj : KindAt q j := ⟨b, exL_pre (by omega) hbj, hbk⟩
        split at hk
        · rename_i h5
          split at hk
          · rename_i hc
            have hxa : x.a = j := by omega
            refine ⟨.una (by omega) j hxa (by omega), fun _ => ⟨by rw [hxa, Int.toNat_natCast]; exact hKj, fun h => by omega⟩⟩
          · exact absurd rfl hk
        · rename_i h5
          split at hk
          · rename_i hc
            cases ha : at? (exL q i) x.a with
            | none => rw [ha] at hk; exact absurd rfl hk
            | some a =>
              rw [ha] at hk
              dsimp only at hk
              split at hk
              · exact absurd rfl hk
              rename_i hak
              obtain ⟨k, hxk, hak'⟩ := at?_some ha
              have hkl := (List.getElem?_eq_some_iff.1 hak').1
              have hxb : x.b = j := by omega
              refine ⟨.bin (by omega) k j hxk hxb (by omega) (by omega), fun _ => ⟨?_, fun _ => ?_⟩⟩
              · rw [hxk, Int.toNat_natCast]
                exact ⟨a, exL_pre (by omega) hak', hak⟩
              · rw [hxb, Int.toNat_natCast]; exact hKj
          · exact absurd rfl hk
  refine ⟨fun i hi => ?_, fun i x hi hx h4 => ?_⟩
  · obtain ⟨x, hx, hw, _⟩ := key i hi
    exact ⟨x, hx, hw⟩
  · obtain ⟨y, hy, _, h⟩ := key i hi
    rw [hx] at hy; cases hy
    exact h h4
theorem whole_kind {q : QeaT} {a r k : Int} (h : wholeS (exprs q) a r k = true) : ∃ i : Nat, r = i ∧ KindAt q i := by
  unfold wholeS at h
  split at h
  · cases h
  · rename_i e he
    obtain ⟨i, hi, hei⟩ := at?_some he
    simp only [Bool.and_eq_true, beq_iff_eq, Bool.not_eq_true', beq_eq_false_iff_ne, ne_eq, decide_eq_true_eq] at h
    exact ⟨i, hi, e, hei, by rw [h.2.1]; exact h.2.2.1⟩
theorem allS_all {α σ : Type} {f : σ → Nat → α → Bool × σ} : ∀ {l : List α} {i : Nat} {s : σ}, (allS f l i s).1 = true → ∀ x ∈ l, ∃ s' j, (f s' j x).1 = true
  | [], _, _, _, x, hx => by cases hx
  | y :: l, i, s, h, x, hx => by
    rw [allS] at h
    split at h
    · rename_i hy
      rcases List.mem_cons.1 hx with rfl | hx
      · exact ⟨s, i, hy⟩
      · exact allS_all h x hx
    · cases h
theorem trans_ok {q : QeaT} (h : rightR q = true) {t : TransT} (ht : t ∈ q.trans) : (0 ≤ t.guard → KindAt q t.guard.toNat) ∧ SetsOk (KindAt q) q.frees.length t.sets := by
  unfold rightR transAll at h
  simp only [Bool.and_eq_true] at h
  obtain ⟨a, j, hs⟩ := allS_all h.2.1.1 t ht
  have hs : (transR q t a).2 = true := hs
  have rest : ∀ a1, (restR q t a a1).2 = true → SetsOk (KindAt q) q.frees.length t.sets := fun a1 hr s hsm => by
    unfold restR at hr
    dsimp only at hr
    split at hr
    · rename_i hall
      obtain ⟨a2, k, hss⟩ := allS_all hall s hsm
      unfold s13 at hss
      split at hss
      · cases hss
      · rename_i f hf
        obtain ⟨m, hm, hfm⟩ := at?_some hf
        split at hss
        · cases hss
        · split at hss
          · rename_i hw
            obtain ⟨e, he, hk⟩ := whole_kind hw
            exact ⟨e, m, he, hm, hk, (List.getElem?_eq_some_iff.1 hfm).1⟩
          · cases hss
    · cases hr
  unfold transR at hs
  split at hs
  · cases hs
  · split at hs
    · rename_i hg
      exact ⟨fun h0 => by omega, rest _ hs⟩
    · split at hs
      · rename_i hw
        obtain ⟨e, he, hk⟩ := whole_kind hw
        exact ⟨fun _ => by rw [he, Int.toNat_natCast]; exact hk, rest _ hs⟩
      · cases hs
end Go.Proofs.YtjbcfpkibnhodaaGreatDoor.Ab
namespace Go.Proofs.YtjbcfpkibnhodaaGreatDoor.Ab
open Go Go.RowKit
set_option linter.unusedSimpArgs false
set_option maxHeartbeats 4000000
set_option maxRecDepth 100000
variable {G : Nat → Option AV}
inductive Fit2 : AV → AV → Prop where
  | refl (c : AV) : Fit2 c c
  | nil (sz : Nat) : Fit2 .nils (.seq sz [])
  | agg (cs ds : List AV) (hl : cs.length = ds.length) (h : ∀ (j : Nat) c d, cs[j]? = some c → ds[j]? = some d → Fit2 c d) : Fit2 (.agg cs) (.agg ds)
  | seq (sz : Nat) (es fs : List AV) (hl : es.length = fs.length) (hs : ∀ f ∈ fs, f.cells.length = sz) (h : ∀ (k : Nat) e f, es[k]? = some e → fs[k]? = some f → Fit2 e f) : Fit2 (.seq sz es) (.seq sz fs)
theorem Rd.fit2 {w : World} {F : Nat → Prop} {c d : AV} (h : Fit2 c d) : ∀ {nm : Names} {v : Value}, Rd w F nm c v → Rd w F nm d v := by
  induction h with
  | refl c => exact fun h => h
  | nil sz => intro nm v h; cases h; exact .seq0 _ _ _ _
  | agg cs ds hl h ih =>
    intro nm v hr
    obtain ⟨us, rfl, hu, hr⟩ := rd_agg hr
    refine .agg _ _ _ (by omega) fun j c u hc hu' => ?_
    have hj : j < cs.length := by have := (List.getElem?_eq_some_iff.1 hc).1; omega
    exact ih j _ c (List.getElem?_eq_getElem hj) hc (hr j _ u (List.getElem?_eq_getElem hj) hu')
  | seq sz es fs hl hs h ih =>
    intro nm v hr
    generalize hz : AV.seq sz es = z at hr
    cases hr with
    | seq0 _ sz' a cap =>
      simp only [AV.seq.injEq] at hz
      obtain ⟨rfl, rfl⟩ := hz
      have : fs = [] := List.eq_nil_of_length_eq_zero (by simpa using hl.symm)
      subst this
      exact .seq0 _ _ _ _
    | seq _ sz' es' g o cap u h0 hF hc hm hss hw h1 hh =>
      simp only [AV.seq.injEq] at hz
      obtain ⟨rfl, rfl⟩ := hz
      rw [hl]
      refine Rd.seq nm _ fs g o cap u h0 hF (by omega) hm hs (fun p hp => hw p (by rw [hl]; exact hp)) (fun p hp => h1 p (by rw [hl]; exact hp)) fun k f j c hf hc' => ?_
      have hk : k < es.length := by have := (List.getElem?_eq_some_iff.1 hf).1; omega
      obtain ⟨e, he⟩ : ∃ e, es[k]? = some e := ⟨_, List.getElem?_eq_getElem hk⟩
      have ih := @ih k e f he hf
      have hfit := h k e f he hf
      cases hfit with
      | refl => exact hh k _ j c he hc'
      | nil sz2 =>
        match j, hc' with
        | 0, hc' => cases hc'; exact ih (hh k _ 0 _ he rfl)
      | seq sz2 a1 a2 _ _ _ =>
        match j, hc' with
        | 0, hc' => cases hc'; exact ih (hh k _ 0 _ he rfl)
      | agg cs ds hl2 hcd =>
        have hc2 : ds[j]? = some c := hc'
        have hj : j < cs.length := by have := (List.getElem?_eq_some_iff.1 hc2).1; omega
        have hrd : Rd w F n10 (.agg cs) (.agg ((List.range cs.length).map fun i => u (k * sz + i)).toArray) := .agg _ _ _ (by simp) fun i c1 x hc1 hx => by
          have hi : i < cs.length := (List.getElem?_eq_some_iff.1 hc1).1
          rw [List.getElem?_map, List.getElem?_range hi] at hx
          cases hx
          exact hh k _ i c1 he hc1
        obtain ⟨us, e1, e2, e3⟩ := rd_agg (ih hrd)
        have e4 : ((List.range cs.length).map fun i => u (k * sz + i)) = us := by simpa using e1
        exact e3 j c _ hc2 (by rw [← e4, List.getElem?_map, List.getElem?_range hj]; rfl)
    | _ => cases hz
theorem argsR_fit2 {w : World} {F : Nat → Prop} : ∀ {args args' : List AV} {vs : Array Value}, args.length = args'.length → (∀ (j : Nat) c d, args[j]? = some c → args'[j]? = some d → Fit2 c d) → ArgsR w F args vs → ArgsR w F args' vs := fun hl h ha =>
  ⟨by rw [ha.1, hl], fun j d u hd hu => by
    have hj : j < _ := (List.getElem?_eq_some_iff.1 hd).1
    rw [← hl] at hj
    exact (ha.2 j _ u (List.getElem?_eq_getElem hj) hu).fit2 (h j _ d (List.getElem?_eq_getElem hj) hd)⟩
theorem P_.fit2 {P : Program} {f : Nat} {args args' : List AV} {r : AV} (hl : args.length = args'.length) (h : ∀ (j : Nat) c d, args[j]? = some c → args'[j]? = some d → Fit2 c d) (hc : P_ P G f args' r) : P_ P G f args r := fun w F vs hg ha => hc w F vs hg (argsR_fit2 hl h ha)
end Go.Proofs.YtjbcfpkibnhodaaGreatDoor.Ab
namespace Go.Proofs.YtjbcfpkibnhodaaGreatDoor.Ab
open Go Go.RowKit
set_option linter.unusedSimpArgs false
set_option maxHeartbeats 4000000
set_option maxRecDepth 100000
variable {G : Nat → Option AV}
structure Q64 (q : QeaT) : Prop where
  nodes : ∀ x ∈ q.nodes, i64 x.value.int
end Go.Proofs.YtjbcfpkibnhodaaGreatDoor.Ab
namespace Go.Proofs.YtjbcfpkibnhodaaGreatDoor.Ab
open Go Go.RowKit Go.ChangeShapes
variable {H : Type} {enc : TypeId × Value → H} {P : Program}
theorem post_of_below {f : Func} {s : ChangeSpec} {apart fresh handsOn again : Bool} {W W' : World} {args : Array Value} {v : Value} {ds gs : List (DataW H)} {before pa pv : List MemPlace}
    (hW : DataW.Whole enc P f.params.toList s.vars apart W args.toList ds gs before)
    (hres : ∀ (b : Nat) (sp : Nat → Bool) (hd : Bool), DataW.TrodAll enc P W' b sp hd f.resultTypes.toList (v.resultList f.resultTypes.size) (s.fn H (ds ++ gs)).results [])
    (hargs : ∀ sp : Nat → Bool, (∀ p ∈ before, sp p.block = true) → DataW.TrodAll enc P W' 0 sp true f.params.toList args.toList (s.fn H (ds ++ gs)).args pa)
    (hvars : ∀ sp : Nat → Bool, (∀ p ∈ before, sp p.block = true) → DataW.TrodVars enc P W' sp s.vars (s.fn H (ds ++ gs)).vars pv)
    (hps : before = pa ++ pv) (hb : Below W.heap.size W W')
    (hok : ∀ (j : Nat) (t : TypeId) (r : Value), f.resultTypes[j]? = some t → (v.resultList f.resultTypes.size)[j]? = some r → Value.okWide P W' .any 0 t r) :
    s.post enc P f apart fresh handsOn again W args v W' := by
  have hlt := fun p hp => hW.lt p hp
  have hold : ∀ p ∈ before, (fun b => decide (b < W.heap.size)) p.block = true := fun p hp => by simpa using hlt p hp
  have hw := hW
  obtain ⟨_, _, _, _, _, hz, hn⟩ := hw
  subst hps
  refine ⟨ds, gs, pa ++ pv, [], pa, pv, hW, hres _ _ _, hargs _ hold, hvars _ hold, hb.frame _, fun _ => ⟨hok, _, _, ([] ++ pa) ++ pv, ⟨[] ++ pa, pv, trodAll_append (hargs _ fun _ _ => rfl) (hres _ _ _), hvars _ fun _ _ => rfl, rfl, fun b off hp => ?_, fun ha => by simpa using hn ha⟩, fun p hp _ => by simpa using hp⟩⟩
  have hp' : MemPlace.cell b off ∈ pa ++ pv := by simpa using hp
  have := hlt _ hp'
  have hf := hb.frozen (p := ⟨b, off, none⟩) this
  exact hf.trans (hz b off hp')
theorem argsR_nil {w : World} {F : Nat → Prop} : ArgsR w F [] #[] := ⟨rfl, fun j c u h => by simp at h⟩
theorem argsR_cons {w : World} {F : Nat → Prop} {c : AV} {u : Value} {cs : List AV} {us : List Value} (h : Rd w F n10 c u) (hs : ArgsR w F cs us.toArray) : ArgsR w F (c :: cs) (u :: us).toArray := by
  refine ⟨by have := hs.1; simp at this; simp [this], fun j d x hd hx => ?_⟩
  match j with
  | 0 => simp at hd hx; subst hd; subst hx; exact h
  | j + 1 => exact hs.2 j d x (by simpa using hd) (by simpa using hx)
end Go.Proofs.YtjbcfpkibnhodaaGreatDoor.Ab
namespace Go.Proofs.YtjbcfpkibnhodaaGreatDoor.Ab
open Go Go.RowKit Go.ChangeShapes Go.WideShapes
abbrev oldF (w : World) : Nat → Prop := fun b => b < w.heap.size
def RdT (P : Program) (t sz : Nat) (Q : List AV → Prop) : Prop :=
  P.cellsOf t = sz ∧ ∀ (H : Type) (enc : TypeId × Value → H) (w : World) (sp : Nat → Bool) (fuel : Nat) (cs : List Value) (x : DataW H × List MemPlace), DataW.trod enc P w 0 sp true fuel t cs = some x →
    ∃ asx, Q asx ∧ asx.length = sz ∧ cs.length = sz ∧ ∀ (j : Nat) a, asx[j]? = some a → ∃ c, cs[j]? = some c ∧ c.oneCell' = true ∧ Rd w (oldF w) n10 a c
def RdFs (P : Program) (l : List Field) (off fin : Nat) (Q : List AV → Prop) : Prop :=
  ∀ (H : Type) (enc : TypeId × Value → H) (w : World) (sp : Nat → Bool) (n : Nat) (cs : List Value) (xs : List (DataW H × List MemPlace)),
    (∀ (i : Nat) (f : Field), l[i]? = some f → DataW.trod enc P w 0 sp true n f.type ((cs.drop f.offset).take (P.cellsOf f.type)) = xs[i]?) → xs.length = l.length →
    ∃ asx, Q asx ∧ off + asx.length = fin ∧ ∀ (j : Nat) a, asx[j]? = some a → ∃ c, cs[off + j]? = some c ∧ c.oneCell' = true ∧ Rd w (oldF w) n10 a c
section
variable {P : Program}
theorem RdT.mono {t sz : Nat} {Q Q' : List AV → Prop} (h : RdT P t sz Q) (hq : ∀ asx, Q asx → Q' asx) : RdT P t sz Q' :=
  ⟨h.1, fun H enc w sp fuel cs x hx => let ⟨asx, h1, h2⟩ := h.2 H enc w sp fuel cs x hx; ⟨asx, hq _ h1, h2⟩⟩
theorem rd_one {a : AV} {c : Value} {w : World} (h1 : c.oneCell' = true) (h : Rd w (oldF w) n10 a c) : ∀ (j : Nat) b, [a][j]? = some b → ∃ d, [c][j]? = some d ∧ d.oneCell' = true ∧ Rd w (oldF w) n10 b d := by
  intro j b hb
  match j, hb with
  | 0, hb => simp at hb; subst hb; exact ⟨c, rfl, h1, h⟩
  | j + 1, hb => simp at hb
theorem rd_int {t : Nat} {k : IntKind} (ht : P.underlying t = some (.int k)) (hs : P.cellsOf t = 1) : RdT P t 1 fun asx => ∃ n, asx = [.int k n] ∧ (Lit.int k n).wf = true :=
  ⟨hs, fun H enc w sp fuel cs x hx => by
    obtain ⟨n, rfl, _, hw⟩ := DataW.trod_int ht hx
    exact ⟨_, ⟨n, rfl, hw⟩, rfl, rfl, rd_one rfl (.int _ _ _)⟩⟩
theorem rd_bool {t : Nat} (ht : P.underlying t = some .bool) (hs : P.cellsOf t = 1) : RdT P t 1 fun asx => ∃ b, asx = [.bool b] :=
  ⟨hs, fun H enc w sp fuel cs x hx => by
    obtain ⟨b, rfl, _⟩ := DataW.trod_bool ht hx
    exact ⟨_, ⟨b, rfl⟩, rfl, rfl, rd_one rfl (.bool _ _)⟩⟩
theorem rd_str {t : Nat} (ht : P.underlying t = some .string) (hs : P.cellsOf t = 1) : RdT P t 1 fun asx => ∃ s : List UInt8, asx = [.str s] ∧ s.length ≤ maxLen :=
  ⟨hs, fun H enc w sp fuel cs x hx => by
    obtain ⟨s, rfl, _, hl⟩ := DataW.trod_string ht hx
    have e : s = ⟨s.data.toList.toArray⟩ := by apply ByteArray.ext; simp
    have e2 : s.data.toList.length = s.size := Array.length_toList
    refine ⟨[.str s.data.toList], ⟨s.data.toList, rfl, by rw [e2]; exact hl⟩, rfl, rfl, rd_one rfl ?_⟩
    have := Rd.str (w := w) (F := oldF w) n10 s.data.toList
    rw [← e] at this
    exact this⟩
theorem rdf_nil (off : Nat) : RdFs P [] off off fun asx => asx = [] := fun _ _ _ _ _ _ _ _ _ => ⟨[], rfl, rfl, fun j a h => by simp at h⟩
theorem rc_ {f : Field} {l : List Field} {off sz mid fin : Nat} {Q1 Q2 : List AV → Prop} (h1 : RdT P f.type sz Q1) (ho : f.offset = off) (hm : off + sz = mid) (h2 : RdFs P l mid fin Q2) : RdFs P (f :: l) off fin fun asx => ∃ a b, asx = a ++ b ∧ Q1 a ∧ Q2 b := by
  intro H enc w sp n cs xs hx hl
  match xs, hl with
  | x :: xs, hl =>
    subst ho hm
    have hf := hx 0 f rfl
    simp only [List.getElem?_cons_zero, h1.1] at hf
    obtain ⟨a, q1, l1, l2, r1⟩ := h1.2 H enc w sp n _ x hf
    obtain ⟨b, q2, e2, r2⟩ := h2 H enc w sp n cs xs (fun i g hg => by simpa using hx (i + 1) g (by simpa using hg)) (by simpa using hl)
    refine ⟨a ++ b, ⟨a, b, rfl, q1, q2⟩, by simp; omega, fun j v hv => ?_⟩
    rw [List.getElem?_append] at hv
    split at hv
    · rename_i hj
      obtain ⟨c, hc, h3, h4⟩ := r1 j v hv
      refine ⟨c, ?_, h3, h4⟩
      rw [List.getElem?_take, if_pos (by omega), List.getElem?_drop] at hc
      exact hc
    · rename_i hj
      obtain ⟨c, hc, h3, h4⟩ := r2 _ v hv
      refine ⟨c, ?_, h3, h4⟩
      rw [← hc]
      congr 1
      omega
theorem rd_struct {t sz : Nat} {fs : Array Field} {Q : List AV → Prop} (ht : P.underlying t = some (.struct fs)) (hs : P.cellsOf t = sz) (h : RdFs P fs.toList 0 sz Q) : RdT P t sz Q :=
  ⟨hs, fun H enc w sp fuel cs x hx => by
    obtain ⟨xs, n, _, _, hl, hxl, hxs⟩ := DataW.trod_struct ht hx
    obtain ⟨asx, q, e, r⟩ := h H enc w sp n cs xs (fun i f hf => hxs i f (by simpa using hf)) (by simpa using hxl)
    refine ⟨asx, q, by omega, by rw [hl, hs], fun j a ha => ?_⟩
    obtain ⟨c, hc, h3⟩ := r j a ha
    exact ⟨c, by simpa using hc, h3⟩⟩
def mkE (agg : Bool) (bs : List AV) : AV := if agg then .agg bs else bs.headD .top
theorem rd_slice {t e sz : Nat} {Q : List AV → Prop} (agg : Bool) (ht : P.underlying t = some (.slice e)) (hs : P.cellsOf t = 1) (h : RdT P e sz Q) (h0 : 0 < sz) (hone : agg = false → ∀ bs, Q bs → ∃ b, bs = [b] ∧ b.cells = [b]) :
    RdT P t 1 fun asx => ∃ es : List AV, asx = [.seq sz es] ∧ es.length ≤ maxLen ∧ ∀ x ∈ es, ∃ bs, Q bs ∧ x = mkE agg bs := by
  refine ⟨hs, fun H enc w sp fuel cs x hx => ?_⟩
  rcases DataW.trod_slice ht hx with ⟨rfl, _⟩ | ⟨a, len, cap, elems, rest, n, _, rfl, _, _, hlc, hcm, hel, hat, _⟩
  · exact ⟨_, ⟨[], rfl, by simp, by simp⟩, rfl, rfl, rd_one rfl (.seq0 _ _ _ _)⟩
  · by_cases hl0 : len = 0
    · subst hl0
      exact ⟨_, ⟨[], rfl, by simp, by simp⟩, rfl, rfl, rd_one rfl (.seq0 _ _ _ _)⟩
    rw [h.1] at hat
    have each : ∀ i, i < len → ∃ cs asx, w.cells? 0 (a.add (i * sz)) sz = some cs ∧ Q asx ∧ asx.length = sz ∧ cs.length = sz ∧ ∀ (j : Nat) b, asx[j]? = some b → ∃ c, cs[j]? = some c ∧ c.oneCell' = true ∧ Rd w (oldF w) n10 b c := fun i hi => by
      have h1 := hat i hi
      rw [List.getElem?_eq_getElem (by omega)] at h1
      obtain ⟨cs, h2, h3⟩ := Option.bind_eq_some_iff.1 h1
      obtain ⟨asx, h4, h5, h6, h7⟩ := h.2 H enc w sp n cs _ h3
      exact ⟨cs, asx, h2, h4, h5, h6, h7⟩
    -- the address
    obtain ⟨cs0, as0, hc0, _, hl0', hl0'', _⟩ := each 0 (by omega)
    have hcell0 := (World.cells?_some hc0).2.2 0 h0
    have hspot : a.spot = none ∧ a.block < w.heap.size := by
      rw [List.getElem?_eq_getElem (by omega)] at hcell0
      simp only [Nat.zero_mul, Addr.add, if_true] at hcell0
      unfold World.cell? at hcell0
      split at hcell0
      · rename_i c _ _ hb
        split at hcell0
        · cases hcell0
        · rename_i hsp
          exact ⟨by simpa using hsp, (Array.getElem?_eq_some_iff.1 hb).1⟩
      · cases hcell0
    obtain ⟨g, o, s⟩ := a
    simp only at hspot
    obtain ⟨rfl, hg⟩ := hspot
    let asx : Nat → List AV := fun i => if hi : i < len then (each i hi).choose_spec.choose else []
    let es : List AV := (List.range len).map fun i => mkE agg (asx i)
    have has : ∀ i (hi : i < len), ∃ cs, w.cells? 0 ((⟨g, o, none⟩ : Addr).add (i * sz)) sz = some cs ∧ Q (asx i) ∧ (asx i).length = sz ∧ cs.length = sz ∧ ∀ (j : Nat) b, (asx i)[j]? = some b → ∃ c, cs[j]? = some c ∧ c.oneCell' = true ∧ Rd w (oldF w) n10 b c := fun i hi => by
      have := (each i hi).choose_spec.choose_spec
      simp only [asx, hi, dif_pos]
      exact ⟨_, this⟩
    have hec : ∀ i, i < len → (mkE agg (asx i)).cells = asx i := fun i hi => by
      obtain ⟨cs, _, hq, _⟩ := has i hi
      cases hagg : agg with
      | true => rfl
      | false =>
        obtain ⟨b, e1, e2⟩ := hone hagg _ hq
        simp only [mkE, Bool.false_eq_true, if_false, e1, List.headD_cons]
        exact e2
    have hel' : ∀ i x, es[i]? = some x → i < len ∧ x = mkE agg (asx i) := fun i x hx => by
      have hi : i < len := by have := (List.getElem?_eq_some_iff.1 hx).1; simpa [es] using this
      simp only [es, List.getElem?_map, List.getElem?_range hi, Option.map_some, Option.some.injEq] at hx
      exact ⟨hi, hx.symm⟩
    have cellAt : ∀ i (hi : i < len) j, j < sz → ∃ c, w.cell? ⟨g, o + (i * sz + j), none⟩ = some c ∧ c.oneCell' = true ∧ ∀ b, (asx i)[j]? = some b → Rd w (oldF w) n10 b c := fun i hi j hj => by
      obtain ⟨cs, h1, _, h3, h4, h5⟩ := has i hi
      obtain ⟨c, hc, hc1, hr⟩ := h5 j _ (List.getElem?_eq_getElem (by rw [h3]; exact hj))
      refine ⟨c, ?_, hc1, fun b hb => ?_⟩
      · have := (World.cells?_some h1).2.2 j hj
        rw [hc, add_at, add_at] at this
        rw [← this]
        congr 2
        omega
      · rw [List.getElem?_eq_getElem (by rw [h3]; exact hj)] at hb
        cases hb
        exact hr
    have hp : ∀ p, p < len * sz → p / sz < len ∧ p % sz < sz ∧ p / sz * sz + p % sz = p := fun p hp => ⟨Nat.div_lt_of_lt_mul (by rw [Nat.mul_comm]; exact hp), Nat.mod_lt _ h0, by rw [Nat.mul_comm]; exact Nat.div_add_mod _ _⟩
    have hlen : es.length = len := by simp [es]
    have key := Rd.seq (w := w) (F := oldF w) n10 sz es g o cap (fun p => (w.cell? ⟨g, o + p, none⟩).getD Go.undef) h0 hg (by rw [hlen]; exact hlc) hcm
      (fun x hx => by
        obtain ⟨i, hi⟩ := List.getElem?_of_mem hx
        obtain ⟨hi', rfl⟩ := hel' i x hi
        rw [hec i hi']
        obtain ⟨_, _, _, h3, _⟩ := has i hi'
        exact h3)
      (fun p hp' => by
        rw [hlen] at hp'
        obtain ⟨h1, h2, h3⟩ := hp p hp'
        obtain ⟨c, hc, _⟩ := cellAt _ h1 _ h2
        rw [h3] at hc
        rw [hc]; rfl)
      (fun p hp' => by
        rw [hlen] at hp'
        obtain ⟨h1, h2, h3⟩ := hp p hp'
        obtain ⟨c, hc, hc1, _⟩ := cellAt _ h1 _ h2
        rw [h3] at hc
        simp only [hc, Option.getD_some]
        exact hc1)
      (fun i x j b hx hb => by
        obtain ⟨hi', rfl⟩ := hel' i x hx
        rw [hec i hi'] at hb
        have hj : j < sz := by
          obtain ⟨_, _, _, h3, _⟩ := has i hi'
          rw [← h3]
          exact (List.getElem?_eq_some_iff.1 hb).1
        obtain ⟨c, hc, _, hr⟩ := cellAt i hi' j hj
        simp only [hc, Option.getD_some]
        exact hr b hb)
    rw [hlen] at key
    refine ⟨[.seq sz es], ⟨es, rfl, by rw [hlen]; omega, fun x hx => ?_⟩, rfl, rfl, rd_one rfl key⟩
    obtain ⟨i, hi⟩ := List.getElem?_of_mem hx
    obtain ⟨hi', rfl⟩ := hel' i x hi
    obtain ⟨_, _, hq, _⟩ := has i hi'
    exact ⟨_, hq, rfl⟩
theorem list_of {α : Type} {f : α → AV} : ∀ {es : List AV}, (∀ x ∈ es, ∃ a, x = f a) → ∃ l : List α, es = l.map f
  | [], _ => ⟨[], rfl⟩
  | x :: es, h => by
    obtain ⟨a, rfl⟩ := h x (by simp)
    obtain ⟨l, rfl⟩ := list_of (fun y hy => h y (List.mem_cons_of_mem _ hy))
    exact ⟨a :: l, rfl⟩
theorem list_of' {α : Type} {f : α → AV} {Q : α → Prop} : ∀ {es : List AV}, (∀ x ∈ es, ∃ a, x = f a ∧ Q a) → ∃ l : List α, es = l.map f ∧ ∀ a ∈ l, Q a
  | [], _ => ⟨[], rfl, by simp⟩
  | x :: es, h => by
    obtain ⟨a, rfl, hq⟩ := h x (by simp)
    obtain ⟨l, rfl, hl⟩ := list_of' (fun y hy => h y (List.mem_cons_of_mem _ hy))
    exact ⟨a :: l, rfl, fun b hb => (List.mem_cons.1 hb).elim (fun e => e ▸ hq) (hl b)⟩
theorem open_leaf {H : Type} {enc : TypeId × Value → H} {t : Nat} {Q : List AV → Prop} {W : World} {sp : Nat → Bool} {v : Value} {d : DataW H} {ps : List MemPlace} (h : RdT P t 1 Q) (hv : v.cells = #[v]) (hd : DataW.Trod enc P W 0 sp true t v d ps) : ∃ a, Q [a] ∧ Rd W (oldF W) n10 a v := by
  obtain ⟨fuel, hf⟩ := hd
  rw [hv] at hf
  obtain ⟨asx, q, l1, l2, r⟩ := h.2 _ _ _ _ _ _ _ hf
  match asx, l1 with
  | [a], _ =>
    obtain ⟨c, hc, _, hr⟩ := r 0 a rfl
    simp at hc
    subst hc
    exact ⟨a, q, hr⟩
theorem open_agg {H : Type} {enc : TypeId × Value → H} {t sz : Nat} {Q : List AV → Prop} {W : World} {sp : Nat → Bool} {v : Value} {d : DataW H} {ps : List MemPlace} {us : Array Value} (h : RdT P t sz Q) (hv : v = .agg us) (hd : DataW.Trod enc P W 0 sp true t v d ps) : ∃ asx, Q asx ∧ Rd W (oldF W) n10 (.agg asx) v := by
  subst hv
  obtain ⟨fuel, hf⟩ := hd
  obtain ⟨asx, q, l1, l2, r⟩ := h.2 _ _ _ _ _ _ _ hf
  refine ⟨asx, q, ?_⟩
  have key := Rd.agg (w := W) (F := oldF W) n10 asx us.toList (by rw [l1, ← l2]; rfl) fun j a c ha hc => by
    obtain ⟨c', hc', _, hr⟩ := r j a ha
    have e : (Value.agg us).cells.toList = us.toList := rfl
    rw [e, hc] at hc'
    cases hc'
    exact hr
  simpa using key
theorem args_stay {H : Type} {enc : TypeId × Value → H} (hl : laidOutB P = true) {W W' : World} (hb : Below W.heap.size W W') : ∀ {ts : List TypeId} {vs : List Value} {ds : List (DataW H)} {ps : List MemPlace},
    ts.all (fun t => P.readableRec t && decide (t < P.types.size)) = true → DataW.TrodAll enc P W 0 (fun _ => true) true ts vs ds ps → (∀ p ∈ ps, p.block < W.heap.size) →
    ∀ sp : Nat → Bool, (∀ p ∈ ps, sp p.block = true) → DataW.TrodAll enc P W' 0 sp true ts vs ds ps
  | [], [], [], _, _, h, _, _, _ => h
  | [], [], _ :: _, _, _, h, _, _, _ => h.elim
  | [], _ :: _, _, _, _, h, _, _, _ => h.elim
  | _ :: _, [], _, _, _, h, _, _, _ => h.elim
  | _ :: _, _ :: _, [], _, _, h, _, _, _ => h.elim
  | t :: ts, v :: vs, d :: ds, ps, ht, h, hlt, sp, hs => by
    obtain ⟨p, q, h1, h2, rfl⟩ := h
    simp only [List.all_cons, Bool.and_eq_true, decide_eq_true_eq] at ht
    refine ⟨p, q, WideElems.Trod_stays hl ht.1.1 ht.1.2 h1 (fun x hx => hb.same (hlt x (by simp [hx]))) (fun x hx => hs x (by simp [hx])), ?_, rfl⟩
    exact args_stay hl hb ht.2 h2 (fun x hx => hlt x (by simp [hx])) sp fun x hx => hs x (by simp [hx])
end
end Go.Proofs.YtjbcfpkibnhodaaGreatDoor.Ab
