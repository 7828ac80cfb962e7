/-
  Values put together of parts: what the model's run gives is what the abstract operation says. No claim is proved here.
-/
import Derived.Test.YtdfdiglnpekcpaaAbStep3
namespace Go.Proofs.Ytdfdiglnpekcpaa.Ab
open Go Go.RowKit

theorem fold_at (off : Nat) : ∀ (l : List Value) (k : Nat) (cs : Array Value), off + k + l.length ≤ cs.size → ∀ p,
    ((l.zipIdx k).foldl (fun (cs : Array Value) (x : Value × Nat) => cs.setIfInBounds (off + x.2) x.1) cs)[p]? = if off + k ≤ p ∧ p < off + k + l.length then l[p - (off + k)]? else cs[p]?
  | [], k, cs, _, p => by
    simp only [List.zipIdx_nil, List.foldl_nil, List.length_nil]
    rw [if_neg (by omega)]
  | v :: l, k, cs, h, p => by
    simp only [List.zipIdx_cons, List.foldl_cons]
    rw [fold_at off l (k + 1) (cs.setIfInBounds (off + k) v) (by simp at h ⊢; omega) p]
    simp only [List.length_cons] at h ⊢
    by_cases h1 : off + (k + 1) ≤ p ∧ p < off + (k + 1) + l.length
    · rw [if_pos h1, if_pos (by omega), show p - (off + k) = (p - (off + (k + 1))) + 1 from by omega, List.getElem?_cons_succ]
    · rw [if_neg h1, Array.getElem?_setIfInBounds]
      by_cases h2 : off + k = p
      · subst h2
        rw [if_pos rfl, if_pos (by omega), if_pos (by omega)]
        simp
      · rw [if_neg h2, if_neg (by omega)]

theorem fold_at' (off : Nat) (v : Array Value) (cs : Array Value) (h : off + v.size ≤ cs.size) (p : Nat) :
    (v.zipIdx.foldl (fun (cs : Array Value) (x : Value × Nat) => cs.setIfInBounds (off + x.2) x.1) cs)[p]? = if off ≤ p ∧ p < off + v.size then v[p - off]? else cs[p]? := by
  rw [← Array.foldl_toList]
  have e : v.zipIdx.toList = v.toList.zipIdx 0 := by simp
  rw [e, fold_at off v.toList 0 cs (by simpa using h) p]
  simp
theorem fold_size (off : Nat) (v : Array Value) (cs : Array Value) : (v.zipIdx.foldl (fun (cs : Array Value) (x : Value × Nat) => cs.setIfInBounds (off + x.2) x.1) cs).size = cs.size := by
  rw [← Array.foldl_toList]
  generalize v.zipIdx.toList = l
  induction l generalizing cs with
  | nil => rfl
  | cons x l ih => simp [List.foldl_cons, ih]

section
variable {P : Program} {G : Nat → Option AV} {C : Ctx} {nm : Names} {F : Nat → Prop} {st st' : St} {a : Act} {w : World} {o : Oper}

/-- Cells read one by one. -/
def CellsR (w : World) (F : Nat → Prop) (nm : Names) (cs : List AV) (us : Array Value) : Prop :=
  cs.length = us.size ∧ ∀ (j : Nat) c u, cs[j]? = some c → us[j]? = some u → Rd w F nm c u
theorem CellsR.of_agg {cs : List AV} {us : Array Value} (h : Rd w F nm (.agg cs) (.agg us)) : CellsR w F nm cs us := by
  cases h with
  | agg _ _ us hl h => exact ⟨by simpa using hl, fun j c u hc hu => h j c u hc (by simpa using hu)⟩
theorem CellsR.agg {cs : List AV} {us : Array Value} (h : CellsR w F nm cs us) : Rd w F nm (.agg cs) (.agg us) := by
  have := Rd.agg (w := w) (F := F) nm cs us.toList (by simpa using h.1) (fun j c u hc hu => h.2 j c u hc (by simpa using hu))
  simpa using this
theorem CellsR.set {cs : List AV} {us : Array Value} (h : CellsR w F nm cs us) {x : AV} {v : Value} {off n : Nat} (hx : Rd w F nm x v) (hf : fits x n = true) (ho : off + n ≤ cs.length) :
    CellsR w F nm (setSeg cs off x.cells) (v.cells.zipIdx.foldl (fun (cs : Array Value) (x : Value × Nat) => cs.setIfInBounds (off + x.2) x.1) us) := by
  obtain ⟨hs, hc⟩ := cells_known hx hf
  obtain ⟨_, hlen, _⟩ := fits_spec hf
  refine ⟨by rw [setSeg_length, fold_size, h.1], fun j c u hcj huj => ?_⟩
  rw [setSeg_at _ _ _ _ (by rw [hlen]; exact ho), hlen] at hcj
  rw [fold_at' _ _ _ (by rw [hs, ← h.1]; exact ho), hs] at huj
  split at hcj
  · rename_i hj
    rw [if_pos hj] at huj
    obtain ⟨u', hu', _, hr⟩ := hc _ c hcj
    rw [hu'] at huj
    cases huj
    exact hr
  · rename_i hj
    rw [if_neg hj] at huj
    exact h.2 j c u hcj huj

theorem abuild_sound (h : RelX G C nm F st a w) (place : Nat → Option (Nat × Nat)) : ∀ (ps : List (Nat × Operand)) (qs : List (Nat × Nat × Opd)) (zs : List AV) (us : Array Value) (c : AV),
    chkParts place ps qs = true → CellsR w F nm zs us → abuild G st zs qs = some c →
    ∃ cells, Instr.fill place us (ps.map fun x => (x.1, a.eval x.2)) = some cells ∧ Rd w F nm c (.agg cells)
  | [], [], zs, us, c, _, hz, hb => by
    simp only [abuild, Option.some.injEq] at hb
    subst hb
    exact ⟨us, rfl, hz.agg⟩
  | (i, x) :: ps, (off, n, y) :: qs, zs, us, c, hc, hz, hb => by
    simp only [chkParts, Bool.and_eq_true] at hc
    obtain ⟨⟨hp, hx⟩, hr⟩ := hc
    split at hp
    · rename_i f m hpl
      simp only [Bool.and_eq_true, beq_iff_eq] at hp
      obtain ⟨rfl, rfl⟩ := hp
      simp only [abuild] at hb
      split at hb
      · rename_i hf
        have hrd := h.opd hx
        obtain ⟨cells, h1, h2⟩ := abuild_sound h place ps qs _ _ c hr (hz.set hrd hf.1 hf.2) hb
        refine ⟨cells, ?_, h2⟩
        simp only [List.map_cons, Instr.fill, hpl]
        rw [(cells_known hrd hf.1).1, ← hz.1]
        rw [if_neg (by simp; omega)]
        exact h1
      · cases hb
    · cases hp
  | [], _ :: _, _, _, _, hc, _, _ => by simp [chkParts] at hc
  | _ :: _, [], _, _, _, hc, _, _ => by simp [chkParts] at hc

theorem build_step (h : RelX G C nm F st a w) {t : Nat} {ps : Array (Nat × Operand)} {zs : List AV} {qs : List (Nat × Nat × Opd)} (ho : o.op = .build t ps) (hc : chkBuild P t zs ps.toList qs = true)
    (he : (abuild G st zs qs).bind (st.put o.dst) = some st') : StepR P G C o a w st' := by
  obtain ⟨c, hb, hp⟩ := bind_put he
  have key : ∃ cells, P.built t (ps.toList.map fun x => (x.1, a.eval x.2)) = some cells ∧ Rd w F nm c (.agg cells) := by
    unfold chkBuild at hc
    unfold Program.built
    split at hc
    · rename_i it e hit hu
      split at hc
      · rename_i z ie hz hie
        simp only [Bool.and_eq_true] at hc
        simp only [hit, hu, hz, hie]
        have hzr : Rd w F nm (.agg zs) z := repV_rd hc.1
        have hcr : CellsR w F nm zs z.cells := by
          cases hzr with
          | agg _ _ us hl hr => exact CellsR.of_agg (.agg _ _ us hl hr)
        exact abuild_sound h _ _ _ _ _ _ hc.2 hcr hb
      · cases hc
    · rename_i it fields hit hu
      split at hc
      · rename_i z places hz hpl
        simp only [Bool.and_eq_true] at hc
        simp only [hit, hu, hz, hpl]
        have hzr : Rd w F nm (.agg zs) z := repV_rd hc.1
        have hcr : CellsR w F nm zs z.cells := by
          cases hzr with
          | agg _ _ us hl hr => exact CellsR.of_agg (.agg _ _ us hl hr)
        exact abuild_sound h _ _ _ _ _ _ hc.2 hcr hb
      · cases hc
    · cases hc
  obtain ⟨cells, h1, h2⟩ := key
  refine val_step h ?_ h2 hp
  have e : (ps.map fun x => (x.1, a.eval x.2)).toList = ps.toList.map fun x => (x.1, a.eval x.2) := by simp
  simp only [execOp, ho, Sem.run_bind]
  rw [run_build w t _ cells (by rw [e]; exact h1)]
  rfl
end
end Go.Proofs.Ytdfdiglnpekcpaa.Ab
