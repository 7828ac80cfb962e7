/-
  Reading memory, parts of values, addresses, texts: what the model's run gives is what the abstract operation says. No claim is proved here.
-/
import Derived.Test.YtdfdiglnpekcpaaAbStep
namespace Go.Proofs.Ytdfdiglnpekcpaa.Ab
open Go Go.RowKit

theorem add_at (g o j : Nat) : (⟨g, o, none⟩ : Addr).add j = ⟨g, o + j, none⟩ := by
  unfold Addr.add
  split
  · rename_i h; subst h; rfl
  · rfl

theorem isLeaf_run {P : Program} {t : Nat} (h : isLeaf P t = true) (w : World) : (isAgg t).run P w = .ok false w := by
  unfold isLeaf at h
  unfold isAgg
  cases hu : P.underlying t with
  | none => rw [hu] at h; simp at h
  | some d =>
    rw [hu] at h
    simp only [Sem.run_bind, run_underlying hu, Result.andThen_ok]
    cases d <;> first | rfl | (simp at h)
theorem isAggT_run {P : Program} {t : Nat} (h : isAggT P t = true) (w : World) : (isAgg t).run P w = .ok true w := by
  unfold isAggT at h
  unfold isAgg
  cases hu : P.underlying t with
  | none => rw [hu] at h; simp at h
  | some d =>
    rw [hu] at h
    simp only [Sem.run_bind, run_underlying hu, Result.andThen_ok]
    cases d <;> first | rfl | (simp at h)
theorem szIs_run {P : Program} {t n : Nat} (h : szIs P t n = true) (w : World) : (sizeOf t).run P w = .ok n w := by
  unfold szIs at h
  split at h
  · rename_i i hi
    simp only [beq_iff_eq] at h
    subst h
    unfold sizeOf
    simp [typeInfo, hi]
  · cases h

section
variable {P : Program} {G : Nat → Option AV} {C : Ctx} {nm : Names} {F : Nat → Prop} {st st' : St} {a : Act} {w : World} {o : Oper}

/-- What a pointer shows. -/
theorem hcells_sound (h : RelX G C nm F st a w) {p : AV} {v : Value} (hp : Rd w F nm p v) {cs : List AV} {off : Nat} (hc : hcells st.heap p = some (cs, off)) :
    ∃ g ad, v = .pointer (some ⟨g, ad, none⟩) ∧ ∀ (j : Nat) c, cs[off + j]? = some c → ∃ u, w.cell? ⟨g, ad + j, none⟩ = some u ∧ Rd w F nm c u := by
  cases p <;> simp only [hcells, reduceCtorEq] at hc
  case ref i k off' =>
    cases hp with
    | ref _ _ _ _ m hi =>
      split at hc
      · rename_i b hb
        rw [Option.map_eq_some_iff] at hc
        obtain ⟨e, he, hcs⟩ := hc
        simp only [Prod.mk.injEq] at hcs
        obtain ⟨rfl, rfl⟩ := hcs
        refine ⟨m.g, k * m.sz + off', rfl, fun j c hc => ?_⟩
        rcases h.box i b hb with ⟨hn, _⟩ | ⟨m', hm', _, _, _, vs, h4, _, _, _, _, h9⟩
        · rw [hi] at hn; cases hn
        · rw [hi] at hm'; cases hm'
          obtain ⟨u, hu, _, hr⟩ := h9 k e (off' + j) c he hc
          refine ⟨u, by simp only [World.cell?, h4, Option.isSome_none, Bool.false_eq_true, if_false]; rw [← hu]; congr 1; omega, ?_⟩
          split at hr
          · exact hr.any nm
          · exact hr
      · cases hc
  case eptr e off' =>
    cases hp with
    | eptr _ _ _ g o u hF hw h1 hr =>
      simp only [Option.some.injEq, Prod.mk.injEq] at hc
      obtain ⟨rfl, rfl⟩ := hc
      refine ⟨g, o + off', rfl, fun j c hc => ⟨u (off' + j), ?_, (hr _ c hc).any nm⟩⟩
      rw [show o + off' + j = o + (off' + j) from by omega]
      exact hw _ (List.getElem?_eq_some_iff.1 hc).1

theorem aload_sound (h : RelX G C nm F st a w) {p c : AV} {v : Value} (hp : Rd w F nm p v) (hl : aload st.heap p = some c) {t : Nat} (ht : isLeaf P t = true) :
    ∃ r, (Instr.loadAt t v).run P w = .ok r w ∧ Rd w F nm c r := by
  unfold aload at hl
  split at hl
  · rename_i cs off hc
    obtain ⟨g, ad, rfl, hm⟩ := hcells_sound h hp hc
    obtain ⟨u, hu, hr⟩ := hm 0 c (by simpa using hl)
    refine ⟨u, ?_, hr⟩
    simp only [Instr.loadAt, Instr.sureAddr, loadVar, Sem.run_bind, Sem.run_pure, Result.andThen_ok, isLeaf_run ht, Bool.false_eq_true, if_false, run_load]
    rw [Nat.add_zero] at hu
    simp [hu]
  · cases hl

theorem aloadN_sound (h : RelX G C nm F st a w) {p c : AV} {v : Value} {n : Nat} (hp : Rd w F nm p v) (hl : aloadN st.heap p n = some c) {t : Nat} (ht : isAggT P t = true) (hs : szIs P t n = true) :
    ∃ r, (Instr.loadAt t v).run P w = .ok r w ∧ Rd w F nm c r := by
  unfold aloadN at hl
  split at hl
  · rename_i cs off hc
    split at hl
    · rename_i hle
      simp only [Option.some.injEq] at hl
      subst hl
      obtain ⟨g, ad, rfl, hm⟩ := hcells_sound h hp hc
      have hcell : ∀ j, j < n → ∃ u, w.cell? ⟨g, ad + j, none⟩ = some u ∧ ∀ c, cs[off + j]? = some c → Rd w F nm c u := fun j hj => by
        have hlt : off + j < cs.length := by omega
        obtain ⟨u, hu, hr⟩ := hm j _ (List.getElem?_eq_getElem hlt)
        exact ⟨u, hu, fun c hc => by rw [List.getElem?_eq_getElem hlt] at hc; cases hc; exact hr⟩
      refine ⟨.agg ((List.range n).map fun j => (w.cell? ⟨g, ad + j, none⟩).getD undef).toArray, ?_, ?_⟩
      · simp only [Instr.loadAt, Instr.sureAddr, loadVar, Sem.run_bind, Sem.run_pure, Result.andThen_ok, isAggT_run ht, if_true, szIs_run hs]
        rw [run_loadCells w _ n (fun j => (w.cell? ⟨g, ad + j, none⟩).getD undef) (fun j hj => by
          obtain ⟨u, hu, _⟩ := hcell j hj
          rw [add_at, hu]; rfl)]
        rfl
      · refine .agg _ _ _ (by simp; omega) fun j c u hc hu => ?_
        have hj : j < n := by have := (List.getElem?_eq_some_iff.1 hu).1; simpa using this
        obtain ⟨u', hu', hr⟩ := hcell j hj
        simp only [List.getElem?_map, List.getElem?_range hj, Option.map_some, Option.some.injEq, hu', Option.getD_some] at hu
        subst hu
        refine hr c ?_
        rw [List.getElem?_take, if_pos hj, List.getElem?_drop] at hc
        exact hc
    · cases hl
  · cases hl

theorem part_leaf {c : AV} {cs : List AV} {us : List Value} {off : Nat} {t : Nat} (hl : cs.length = us.length) (h : ∀ (j : Nat) c u, cs[j]? = some c → us[j]? = some u → Rd w F nm c u) (hc : cs[off]? = some c) (ht : isLeaf P t = true) :
    ∃ r, (part t us.toArray off).run P w = .ok r w ∧ Rd w F nm c r := by
  have hlt : off < us.length := by rw [← hl]; exact (List.getElem?_eq_some_iff.1 hc).1
  refine ⟨us[off], ?_, h off c _ hc (List.getElem?_eq_getElem hlt)⟩
  simp [part, isLeaf_run ht, hlt]
theorem part_agg {cs : List AV} {us : List Value} {off n : Nat} {t : Nat} (hl : cs.length = us.length) (h : ∀ (j : Nat) c u, cs[j]? = some c → us[j]? = some u → Rd w F nm c u) (hn : off + n ≤ cs.length) (ht : isAggT P t = true) (hs : szIs P t n = true) :
    ∃ r, (part t us.toArray off).run P w = .ok r w ∧ Rd w F nm (.agg ((cs.drop off).take n)) r := by
  refine ⟨.agg (us.toArray.extract off (off + n)), ?_, ?_⟩
  · simp only [part, Sem.run_bind, isAggT_run ht, Result.andThen_ok, if_true, szIs_run hs, Sem.run_pure]
  · have e : us.toArray.extract off (off + n) = ((us.drop off).take n).toArray := by
      simp [List.extract_toArray, List.extract_eq_take_drop]
    rw [e]
    refine .agg _ _ _ (by simp; omega) fun j c u hc hu => ?_
    rw [List.getElem?_take] at hc hu
    split at hc
    · rename_i hj
      rw [if_pos hj, List.getElem?_drop] at hu
      rw [List.getElem?_drop] at hc
      exact h _ c u hc hu
    · cases hc
end
end Go.Proofs.Ytdfdiglnpekcpaa.Ab
