/-
  report.Text: what it hands back. No claim is proved here.
-/
import Derived.Test.YtdfdiglnpekcpaaDoorN6
namespace Go.Proofs.YtdfdiglnpekcpaaDoor.Ab
open Go Go.RowKit
set_option linter.unusedSimpArgs false
theorem heap_set {W : World} {b t : Nat} {x : Value} (h : W.heap[b]? = some (.cells #[x] t (0, 0))) (v : Value) : (W.setCell ⟨b, 0, none⟩ v).heap[b]? = some (.cells #[v] t (0, 0)) := by
  simp only [World.setCell, Array.getElem?_modify, if_pos, h, Option.map_some]
  rfl
theorem heap_set_other {W : World} {b k : Nat} (hk : b ≠ k) (v : Value) : (W.setCell ⟨b, 0, none⟩ v).heap[k]? = W.heap[k]? := by
  simp only [World.setCell, Array.getElem?_modify]
  rw [if_neg hk]
theorem builder_set {B b ob t : Nat} {bs : List Value} {x : Value} {W : World} (h : Lib.IsBuilder pgT u8T B b bs W) (hob : ob ≠ b) (hx : W.heap[ob]? = some (.cells #[x] t (0, 0))) (ht : t ≠ u8T) (v : Value) : Lib.IsBuilder pgT u8T B b bs (W.setCell ⟨ob, 0, none⟩ v) := by
  have one : ∀ p, Lib.BuilderAt pgT u8T B b p bs W → Lib.BuilderAt pgT u8T B b p bs (W.setCell ⟨ob, 0, none⟩ v) := fun p h => by
    obtain ⟨hB, v', hbk, ⟨hl, hown⟩, hne⟩ := h
    refine ⟨hB, v', by rw [heap_set_other hob]; exact hbk, ⟨hl, ?_⟩, hne⟩
    rcases hown with h | ⟨g, cap, cur, hv, hBg, hg, rest⟩
    · exact .inl h
    · refine .inr ⟨g, cap, cur, hv, hBg, ?_, rest⟩
      rw [heap_set_other (fun e => ?_)]
      · exact hg
      · subst e
        rw [hg] at hx
        cases hx
        exact ht rfl
  exact h.imp (one _) (one _)
/-- Within report.Text: what lies where, the page's text so far. -/
structure Inv (w : World) (vs : Value) (o : Oc) (m : Nat) (n tr tu su la : Int) (t : Str) (W : World) : Prop where
  bl : Lib.IsBuilder pgT u8T w.heap.size (w.heap.size + 1 + 1) (Lib.byteCells t) W
  be : Below w.heap.size w W
  ho : W.heap[w.heap.size]? = some (.cells #[vs, .int .i64 o.part, .int .i64 o.err, .int .i64 o.line, .int .i64 o.col] 27 (0, 0))
  hx : W.heap[w.heap.size + 1]? = some (.cells #[.string ⟨#[]⟩] 9 (0, 0))
  hp : W.heap[w.heap.size + 1 + 1 + 1]? = some (.cells #[.pointer (some ⟨w.heap.size + 1 + 1, 0, none⟩)] 53 (0, 0))
  hc : W.heap[m]? = some (.cells #[.int .i64 n, .int .i64 tr, .int .i64 tu, .int .i64 su, .int .i64 la] 31 (0, 0))
theorem Inv.rest {w : World} {vs : Value} {o : Oc} {m : Nat} {n tr tu su la : Int} {t t' : Str} {W W' : World} (h : Inv w vs o m n tr tu su la t W) (hm : m ≠ w.heap.size + 1 + 1) (hb : Lib.IsBuilder pgT u8T w.heap.size (w.heap.size + 1 + 1) (Lib.byteCells t') W') (he : Below w.heap.size w W') (hr : Rest (w.heap.size + 1 + 1) W W') : Inv w vs o m n tr tu su la t' W' :=
  ⟨hb, he, hr _ _ _ _ (by omega) (by decide) h.ho, hr _ _ _ _ (by omega) (by decide) h.hx, hr _ _ _ _ (by omega) (by decide) h.hp, hr _ _ _ _ hm (by decide) h.hc⟩
theorem Inv.cp {w : World} {vs : Value} {o : Oc} {m : Nat} {n tr tu su la : Int} {t : Str} {W : World} (h : Inv w vs o m n tr tu su la t W) : W.cell? ⟨w.heap.size + 1 + 1 + 1, 0, none⟩ = some (.pointer (some ⟨w.heap.size + 1 + 1, 0, none⟩)) := by rw [cell_cells h.hp]; rfl
theorem Inv.cc {w : World} {vs : Value} {o : Oc} {m : Nat} {n tr tu su la : Int} {t : Str} {W : World} (h : Inv w vs o m n tr tu su la t W) : W.cell? ⟨m, 0, none⟩ = some (.int .i64 n) ∧ W.cell? ⟨m, 1, none⟩ = some (.int .i64 tr) ∧ W.cell? ⟨m, 2, none⟩ = some (.int .i64 tu) ∧ W.cell? ⟨m, 3, none⟩ = some (.int .i64 su) ∧ W.cell? ⟨m, 4, none⟩ = some (.int .i64 la) :=
  ⟨by rw [cell_cells h.hc]; rfl, by rw [cell_cells h.hc]; rfl, by rw [cell_cells h.hc]; rfl, by rw [cell_cells h.hc]; rfl, by rw [cell_cells h.hc]; rfl⟩
theorem Inv.drew {w : World} {vs : Value} {o : Oc} {m : Nat} {n tr tu su la : Int} {t : Str} {W : World} (h : Inv w vs o m n tr tu su la t W) : Inv w vs o m n tr tu su la t W.drew :=
  ⟨h.bl.imp (fun h => h.drew) (fun h => h.drew), h.be.drew, h.ho, h.hx, h.hp, h.hc⟩
/-- A line of one number; of none. -/
theorem Inv.line1 {w : World} {F : Nat → Prop} (hg0 : Good w F G1) {vs : Value} {o : Oc} {m : Nat} {n tr tu su la : Int} {t : Str} {W : World} (h : Inv w vs o m n tr tu su la t W) (hm : m ≠ w.heap.size + 1 + 1) (ht : t.length ≤ 90000) (word : Str) (hw : word.length ≤ 100) (x : Int) (hx : i64 x) (g : Nat) (hgW : g = W.heap.size) :
    Calls Tryd.prog 20 #[.pointer (some ⟨w.heap.size + 1 + 1, 0, none⟩), .string ⟨word.toArray⟩, .slice (some ⟨g, 0, none⟩) 1 1] (W.alloc (.cells #[.int .i64 x] 3)) fun e W' => e = .returned (.tuple #[]) ∧ Inv w vs o m n tr tu su la (t ++ lineS word [x]) W' := by
  subst hgW
  have ba := h.be.alloc h.be.size (.cells #[.int .i64 x] 3)
  have hl : w.heap.size + 1 + 1 < W.heap.size := h.bl.elim (fun h => h.lt) (fun h => h.lt)
  have bb : Below W.heap.size W (W.alloc (.cells #[.int .i64 x] 3)) := (Below.refl _ _).alloc (Nat.le_refl _) _
  refine (line_walk w F hg0 (w.heap.size + 1 + 1) (Lib.byteCells t) word [x] _ _ ba (builder_below h.bl bb) (.inr ⟨W.heap.size, rfl, Nat.ne_of_gt hl, heap_alloc_new W _⟩) (by intro y hy; simp at hy; subst hy; exact hx) (by simp) (by omega) (by rw [Lib.byteCells_length]; omega)).mono ?_
  rintro e W' ⟨rfl, hb, he, hr⟩
  refine ⟨rfl, h.rest hm ?_ he ((Rest.below (Nat.le_refl _) bb).trans hr)⟩
  rw [Lib.byteCells_append]
  exact hb
theorem Inv.line0 {w : World} {F : Nat → Prop} (hg0 : Good w F G1) {vs : Value} {o : Oc} {m : Nat} {n tr tu su la : Int} {t : Str} {W : World} (h : Inv w vs o m n tr tu su la t W) (hm : m ≠ w.heap.size + 1 + 1) (ht : t.length ≤ 90000) (word : Str) (hw : word.length ≤ 100) :
    Calls Tryd.prog 20 #[.pointer (some ⟨w.heap.size + 1 + 1, 0, none⟩), .string ⟨word.toArray⟩, .slice none 0 0] W fun e W' => e = .returned (.tuple #[]) ∧ Inv w vs o m n tr tu su la (t ++ lineS word []) W' := by
  refine (line_walk w F hg0 (w.heap.size + 1 + 1) (Lib.byteCells t) word [] _ _ h.be h.bl (.inl ⟨rfl, rfl⟩) (by simp) (by simp) (by omega) (by rw [Lib.byteCells_length]; omega)).mono ?_
  rintro e W' ⟨rfl, hb, he, hr⟩
  refine ⟨rfl, h.rest hm ?_ he hr⟩
  rw [Lib.byteCells_append]
  exact hb
theorem Inv.set {w : World} {vs : Value} {o : Oc} {m : Nat} {n tr tu su la : Int} {t : Str} {W : World} (h : Inv w vs o m n tr tu su la t W) (hm : m ≠ w.heap.size + 1) : Inv w vs o m n tr tu su la t (W.setCell ⟨w.heap.size + 1, 0, none⟩ (.string ⟨#[]⟩)) :=
  ⟨builder_set h.bl (by omega) h.hx (by decide) _, h.be.setCell (p := ⟨w.heap.size + 1, 0, none⟩) (by simp) _, by rw [heap_set_other (by omega)]; exact h.ho, heap_set h.hx _, by rw [heap_set_other (by omega)]; exact h.hp, by rw [heap_set_other (Ne.symm hm)]; exact h.hc⟩
/-- What report.Of hands back, as the model has it. -/
theorem Of_calls {w : World} {F : Nat → Prop} (hg : Good w F G1) (l : List Int) (hl : l.length < 9223372036854775807) (vs : Value) (hv : Rd w F noNames (ivs l) vs) : Calls Tryd.prog 7 #[vs] w fun e w' =>
    e = .returned (.agg #[.int .i64 l.length, .int .i64 (cntAt l l.length).tr, .int .i64 (cntAt l l.length).tu, .int .i64 (cntAt l l.length).su, .int .i64 (cntAt l l.length).la]) ∧ Below w.heap.size w w' := by
  refine (Of_pc l hl w F #[vs] hg (argsR_cons hv argsR_nil)).mono ?_
  rintro e w' ⟨v, F', rfl, _, _, _, hr, hb⟩
  refine ⟨?_, hb⟩
  unfold cntV at hr
  cases hr with
  | agg _ _ us hl h =>
    match us, hl with
    | [a, b, c, d, e], _ =>
      have h0 := h 0 _ _ rfl rfl
      have h1 := h 1 _ _ rfl rfl
      have h2 := h 2 _ _ rfl rfl
      have h3 := h 3 _ _ rfl rfl
      have h4 := h 4 _ _ rfl rfl
      cases h0
      cases h1
      cases h2
      cases h3
      cases h4
      rfl
end Go.Proofs.YtdfdiglnpekcpaaDoor.Ab
