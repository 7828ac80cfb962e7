/-
  report.Text: what it hands back: its deferred function, and itself. No claim is proved here.
-/
import Derived.Test.YtdfdiglnpekcpaaDoorN5
import Derived.Test.YtdfdiglnpekcpaaDoorB5
import Derived.Defers
import Derived.Recover
import Derived.Deep.RegionHeld3
import Derived.IntWalk
namespace Go.Proofs.YtdfdiglnpekcpaaDoor.Ab
open Go Go.RowKit
set_option linter.unusedSimpArgs false
/-- A cell of a known variable. -/
theorem str_cell {w : World} {F : Nat → Prop} {G : Nat → Option AV} {g : Nat} {l : List Str} (hg : Good w F G) (h : G g = some (.agg (l.map AV.str))) {i : Nat} {s : Str} (hs : l[i]? = some s) : w.cell? ⟨g, i, none⟩ = some (.string ⟨s.toArray⟩) := by
  obtain ⟨h1, _⟩ := hg.2 g _ h
  have hi := (List.getElem?_eq_some_iff.1 hs).1
  cases h1 with
  | eptr _ _ _ _ _ u hF hw h1 h =>
    have e1 := hw i (by simpa [AV.cells] using hi)
    have e2 := h i (.str s) (by simp [AV.cells, hs])
    generalize u i = z at *
    cases e2
    simpa using e1
def lineE (part err line col : Int) : Str := if 1 ≤ part ∧ part ≤ 3 then lineS ([101, 110, 100, 101, 100, 32] ++ whereS part) [err, line, col] else []
theorem heap_alloc_old (w : World) (x : Obj) {g : Nat} {y : Obj} (h : w.heap[g]? = some y) : (w.alloc x).heap[g]? = some y := by
  have := (Array.getElem?_eq_some_iff.1 h).1
  unfold World.alloc
  rw [Array.getElem?_push, if_neg (by omega)]
  exact h
theorem heap_alloc_new (w : World) (x : Obj) : (w.alloc x).heap[w.heap.size]? = some x := by
  unfold World.alloc
  rw [Array.getElem?_push, if_pos rfl]
set_option maxHeartbeats 4000000 in
set_option maxRecDepth 100000 in
theorem text1_in (W0 : World) (F : Nat → Prop) (hg0 : Good W0 F G1) (b qo pb ob : Nat) (t : Str) (vs : Value) (part err line col : Int) (x : Value) (w : World) (hB0 : Below W0.heap.size W0 w) (h0 : Lib.IsBuilder pgT u8T W0.heap.size b (Lib.byteCells t) w)
    (ho : w.heap[qo]? = some (.cells #[vs, .int .i64 part, .int .i64 err, .int .i64 line, .int .i64 col] 27 (0, 0))) (hp : w.heap[pb]? = some (.cells #[.pointer (some ⟨b, 0, none⟩)] 53 (0, 0)))
    (hx : w.heap[ob]? = some (.cells #[x] 9 (0, 0))) (hob : W0.heap.size ≤ ob) (h1 : qo ≠ b) (h2 : pb ≠ b) (h3 : ob ≠ b) (i1 : i64 err) (i2 : i64 line) (i3 : i64 col) (ht : t ≠ []) (htl : t.length ≤ 100000)
    (k : Nat) (s : Str) (hk : part = (k : Int) + 1) (hk3 : k = 0 ∨ k = 1 ∨ k = 2) (hs : whereL[k]? = some s) (hsl : s.length ≤ 4) (he : lineE part err line col = lineS ([101, 110, 100, 101, 100, 32] ++ s) [err, line, col]) :
    CallsD Tryd.prog 19 #[.pointer (some ⟨qo, 0, none⟩), .pointer (some ⟨pb, 0, none⟩), .pointer (some ⟨ob, 0, none⟩)] .returning w fun e u' w' => u' = .returning ∧ (e = .returned (.tuple #[]) ∧
      w'.cell? ⟨ob, 0, none⟩ = some (.string ⟨(t ++ lineE part err line col).toArray⟩) ∧ Below W0.heap.size W0 w') := by
  have c0 : w.cell? ⟨qo, 1, none⟩ = some (.int .i64 part) := by rw [cell_cells ho]; rfl
  have hbl : b < w.heap.size := h0.elim (fun h => h.lt) (fun h => h.lt)
  rw [he]
  clear he
  have keepS : ∀ W : World, Below W0.heap.size W0 W → Rest b w W → W.cell? ⟨pb, 0, none⟩ = some (.pointer (some ⟨b, 0, none⟩)) ∧ W.cell? ⟨qo, 1, none⟩ = some (.int .i64 part) ∧ W.cell? ⟨qo, 2, none⟩ = some (.int .i64 err) ∧ W.cell? ⟨qo, 3, none⟩ = some (.int .i64 line) ∧ W.cell? ⟨qo, 4, none⟩ = some (.int .i64 col) ∧ W.cell? ⟨0, k, none⟩ = some (.string ⟨s.toArray⟩) := fun W hB hR => by
    have ho' := hR qo _ _ _ h1 (by decide) ho
    have hp' := hR pb _ _ _ h2 (by decide) hp
    exact ⟨by rw [cell_cells hp']; rfl, by rw [cell_cells ho']; rfl, by rw [cell_cells ho']; rfl, by rw [cell_cells ho']; rfl, by rw [cell_cells ho']; rfl, str_cell (good_below hg0 (Nat.le_refl _) hB) G1_wheres hs⟩
  have hBd : Below W0.heap.size W0 w.drew := hB0.drew
  have hRd : Rest b w w.drew := Rest.refl b w
  have hBa : Below W0.heap.size W0 (w.drew.alloc (.cells #[.int .i64 err, .int .i64 line, .int .i64 col] 3)) := hBd.alloc hBd.size _
  have hRa : Rest b w (w.drew.alloc (.cells #[.int .i64 err, .int .i64 line, .int .i64 col] 3)) := hRd.trans (Rest.below (Nat.le_refl _) ((Below.refl _ _).alloc (Nat.le_refl _) _))
  have hL : Calls Tryd.prog 20 #[.pointer (some ⟨b, 0, none⟩), .string (⟨#[101, 110, 100, 101, 100, 32]⟩ ++ ⟨s.toArray⟩), .slice (some ⟨w.heap.size, 0, none⟩) 3 3] (w.drew.alloc (.cells #[.int .i64 err, .int .i64 line, .int .i64 col] 3)) fun e w' => e = .returned (.tuple #[]) ∧
      (Lib.IsBuilder pgT u8T W0.heap.size b (Lib.byteCells t ++ Lib.byteCells (lineS ([101, 110, 100, 101, 100, 32] ++ s) [err, line, col])) w' ∧ Below W0.heap.size W0 w' ∧ Rest b (w.drew.alloc (.cells #[.int .i64 err, .int .i64 line, .int .i64 col] 3)) w') := by
    rw [bytes_app [101, 110, 100, 101, 100, 32]]
    refine line_walk W0 F hg0 b (Lib.byteCells t) _ [err, line, col] _ _ hBa ?_ (.inr ⟨w.heap.size, rfl, Nat.ne_of_gt hbl, heap_alloc_new w.drew _⟩) ?_ (by simp) (by simp; omega) (by rw [Lib.byteCells_length]; exact htl)
    · exact builder_below (h0.imp (fun h => h.drew) (fun h => h.drew)) ((Below.refl _ _).alloc (Nat.le_refl _) _)
    · intro n hn
      simp only [List.mem_cons, List.not_mem_nil, or_false] at hn
      rcases hn with rfl | rfl | rfl <;> assumption
  rw [← Lib.byteCells_append] at hL
  have hne : t ++ lineS ([101, 110, 100, 101, 100, 32] ++ s) [err, line, col] ≠ [] := fun h => ht (List.append_eq_nil_iff.1 h).1
  generalize hT : t ++ lineS ([101, 110, 100, 101, 100, 32] ++ s) [err, line, col] = T at *
  have g1 : 1 ≤ part := by omega
  have g2 : part ≤ 3 := by omega
  have hkw : wrap64 (part - 1) = k := by unfold wrap64; omega
  have hkw2 : IntKind.i64.wrap (part - 1) = k := by rw [wrap_i64 (by omega) (by omega)]; omega
  have hkb : (0 : Int) ≤ (k : Int) ∧ (k : Int) < 3 := by omega
  have hsv : s = [116, 101, 120, 116] ∨ s = [108, 111, 103] ∨ s = [114, 117, 110] := by
    rcases hk3 with rfl | rfl | rfl
    · cases hs; exact .inl rfl
    · cases hs; exact .inr (.inl rfl)
    · cases hs; exact .inr (.inr rfl)
  clear hk hk3 hs
  rcases hsv with rfl | rfl | rfl
  · go_enter_d Tryd.func19, Tryd.ntmps19
    go_wp2
    go_region_held3 (fun W => W.cell? ⟨pb, 0, none⟩ = some (.pointer (some ⟨b, 0, none⟩)) ∧ W.cell? ⟨qo, 1, none⟩ = some (.int .i64 part) ∧ W.cell? ⟨qo, 2, none⟩ = some (.int .i64 err) ∧ W.cell? ⟨qo, 3, none⟩ = some (.int .i64 line) ∧ W.cell? ⟨qo, 4, none⟩ = some (.int .i64 col) ∧ W.cell? ⟨0, k, none⟩ = some (.string ⟨#[116, 101, 120, 116]⟩)) (first | exact keepS _ hBd hRd | exact keepS _ hBa hRa | exact keepS _ b3 (hRa.trans r3)) (first | (go_at_call 20; refine hL.mono ?_; rintro e W3 ⟨rfl, h3', b3, r3⟩))
    all_goals
      have hS := page_String W0.heap.size b T W3 h3' hne
      have hRR := hRa.trans r3
      have hp3 := hRR pb _ _ _ h2 (by decide) hp
      have cp3 : W3.cell? ⟨pb, 0, none⟩ = some (.pointer (some ⟨b, 0, none⟩)) := by rw [cell_cells hp3]; rfl
      go_wp2_with (go_at_call 21; refine hS.mono ?_; rintro e w2 ⟨rfl, b2, r2⟩; have hx2 := (hRR.trans r2) ob _ _ _ h3 (by decide) hx; have cx : w2.cell? ⟨ob, 0, none⟩ = some x := (by rw [cell_cells hx2]; rfl); have fx : w2.frozen? ⟨ob, 0, none⟩ = false := Lib.frozen_of_heap hx2 0)
      go_end0
      refine ⟨rfl, World.cell?_setCell_same' _ _ _ (by rw [cx]; rfl), (b3.trans b2).setCell (p := ⟨ob, 0, none⟩) hob _⟩
  · go_enter_d Tryd.func19, Tryd.ntmps19
    go_wp2
    go_region_held3 (fun W => W.cell? ⟨pb, 0, none⟩ = some (.pointer (some ⟨b, 0, none⟩)) ∧ W.cell? ⟨qo, 1, none⟩ = some (.int .i64 part) ∧ W.cell? ⟨qo, 2, none⟩ = some (.int .i64 err) ∧ W.cell? ⟨qo, 3, none⟩ = some (.int .i64 line) ∧ W.cell? ⟨qo, 4, none⟩ = some (.int .i64 col) ∧ W.cell? ⟨0, k, none⟩ = some (.string ⟨#[108, 111, 103]⟩)) (first | exact keepS _ hBd hRd | exact keepS _ hBa hRa | exact keepS _ b3 (hRa.trans r3)) (first | (go_at_call 20; refine hL.mono ?_; rintro e W3 ⟨rfl, h3', b3, r3⟩))
    all_goals
      have hS := page_String W0.heap.size b T W3 h3' hne
      have hRR := hRa.trans r3
      have hp3 := hRR pb _ _ _ h2 (by decide) hp
      have cp3 : W3.cell? ⟨pb, 0, none⟩ = some (.pointer (some ⟨b, 0, none⟩)) := by rw [cell_cells hp3]; rfl
      go_wp2_with (go_at_call 21; refine hS.mono ?_; rintro e w2 ⟨rfl, b2, r2⟩; have hx2 := (hRR.trans r2) ob _ _ _ h3 (by decide) hx; have cx : w2.cell? ⟨ob, 0, none⟩ = some x := (by rw [cell_cells hx2]; rfl); have fx : w2.frozen? ⟨ob, 0, none⟩ = false := Lib.frozen_of_heap hx2 0)
      go_end0
      refine ⟨rfl, World.cell?_setCell_same' _ _ _ (by rw [cx]; rfl), (b3.trans b2).setCell (p := ⟨ob, 0, none⟩) hob _⟩
  · go_enter_d Tryd.func19, Tryd.ntmps19
    go_wp2
    go_region_held3 (fun W => W.cell? ⟨pb, 0, none⟩ = some (.pointer (some ⟨b, 0, none⟩)) ∧ W.cell? ⟨qo, 1, none⟩ = some (.int .i64 part) ∧ W.cell? ⟨qo, 2, none⟩ = some (.int .i64 err) ∧ W.cell? ⟨qo, 3, none⟩ = some (.int .i64 line) ∧ W.cell? ⟨qo, 4, none⟩ = some (.int .i64 col) ∧ W.cell? ⟨0, k, none⟩ = some (.string ⟨#[114, 117, 110]⟩)) (first | exact keepS _ hBd hRd | exact keepS _ hBa hRa | exact keepS _ b3 (hRa.trans r3)) (first | (go_at_call 20; refine hL.mono ?_; rintro e W3 ⟨rfl, h3', b3, r3⟩))
    all_goals
      have hS := page_String W0.heap.size b T W3 h3' hne
      have hRR := hRa.trans r3
      have hp3 := hRR pb _ _ _ h2 (by decide) hp
      have cp3 : W3.cell? ⟨pb, 0, none⟩ = some (.pointer (some ⟨b, 0, none⟩)) := by rw [cell_cells hp3]; rfl
      go_wp2_with (go_at_call 21; refine hS.mono ?_; rintro e w2 ⟨rfl, b2, r2⟩; have hx2 := (hRR.trans r2) ob _ _ _ h3 (by decide) hx; have cx : w2.cell? ⟨ob, 0, none⟩ = some x := (by rw [cell_cells hx2]; rfl); have fx : w2.frozen? ⟨ob, 0, none⟩ = false := Lib.frozen_of_heap hx2 0)
      go_end0
      refine ⟨rfl, World.cell?_setCell_same' _ _ _ (by rw [cx]; rfl), (b3.trans b2).setCell (p := ⟨ob, 0, none⟩) hob _⟩
set_option maxHeartbeats 4000000 in
set_option maxRecDepth 100000 in
theorem text1_walk (W0 : World) (F : Nat → Prop) (hg0 : Good W0 F G1) (b qo pb ob : Nat) (t : Str) (vs : Value) (part err line col : Int) (x : Value) (w : World) (hB0 : Below W0.heap.size W0 w) (h0 : Lib.IsBuilder pgT u8T W0.heap.size b (Lib.byteCells t) w)
    (ho : w.heap[qo]? = some (.cells #[vs, .int .i64 part, .int .i64 err, .int .i64 line, .int .i64 col] 27 (0, 0))) (hp : w.heap[pb]? = some (.cells #[.pointer (some ⟨b, 0, none⟩)] 53 (0, 0)))
    (hx : w.heap[ob]? = some (.cells #[x] 9 (0, 0))) (hob : W0.heap.size ≤ ob) (h1 : qo ≠ b) (h2 : pb ≠ b) (h3 : ob ≠ b) (i1 : i64 err) (i2 : i64 line) (i3 : i64 col) (ht : t ≠ []) (htl : t.length ≤ 100000) :
    CallsD Tryd.prog 19 #[.pointer (some ⟨qo, 0, none⟩), .pointer (some ⟨pb, 0, none⟩), .pointer (some ⟨ob, 0, none⟩)] .returning w fun e u' w' => u' = .returning ∧ (e = .returned (.tuple #[]) ∧
      w'.cell? ⟨ob, 0, none⟩ = some (.string ⟨(t ++ lineE part err line col).toArray⟩) ∧ Below W0.heap.size W0 w') := by
  have c0 : w.cell? ⟨qo, 1, none⟩ = some (.int .i64 part) := by rw [cell_cells ho]; rfl
  have cp : w.cell? ⟨pb, 0, none⟩ = some (.pointer (some ⟨b, 0, none⟩)) := by rw [cell_cells hp]; rfl
  by_cases hr : 1 ≤ part ∧ part ≤ 3
  · obtain ⟨k, rfl⟩ : ∃ k : Nat, part = k + 1 := ⟨(part - 1).toNat, by omega⟩
    have hk3 : k = 0 ∨ k = 1 ∨ k = 2 := by omega
    have hW : ∃ s, whereL[k]? = some s ∧ s.length ≤ 4 ∧ whereS (k + 1) = s := by
      rcases hk3 with rfl | rfl | rfl <;> exact ⟨_, rfl, by decide, rfl⟩
    obtain ⟨s, hs, hsl, hws⟩ := hW
    exact text1_in W0 F hg0 b qo pb ob t vs _ err line col x w hB0 h0 ho hp hx hob h1 h2 h3 i1 i2 i3 ht htl k s rfl hk3 hs hsl (by rw [lineE, if_pos hr, hws])
  · have he : lineE part err line col = [] := by rw [lineE, if_neg hr]
    rw [he, List.append_nil]
    have hS := page_String W0.heap.size b t w h0 ht
    by_cases g1 : 1 ≤ part
    · have g2 : ¬ part ≤ 3 := fun h => hr ⟨g1, h⟩
      go_enter_d Tryd.func19, Tryd.ntmps19
      go_wp2_with (go_at_call 21; refine hS.mono ?_; rintro e w2 ⟨rfl, b2, r2⟩; have hx2 := r2 ob _ _ _ h3 (by decide) hx; have cx : w2.cell? ⟨ob, 0, none⟩ = some x := (by rw [cell_cells hx2]; rfl); have fx : w2.frozen? ⟨ob, 0, none⟩ = false := Lib.frozen_of_heap hx2 0)
      go_end0
      refine ⟨rfl, World.cell?_setCell_same' _ _ _ (by rw [cx]; rfl), (hB0.trans b2).setCell (p := ⟨ob, 0, none⟩) hob _⟩
    · go_enter_d Tryd.func19, Tryd.ntmps19
      go_wp2_with (go_at_call 21; refine hS.mono ?_; rintro e w2 ⟨rfl, b2, r2⟩; have hx2 := r2 ob _ _ _ h3 (by decide) hx; have cx : w2.cell? ⟨ob, 0, none⟩ = some x := (by rw [cell_cells hx2]; rfl); have fx : w2.frozen? ⟨ob, 0, none⟩ = false := Lib.frozen_of_heap hx2 0)
      go_end0
      refine ⟨rfl, World.cell?_setCell_same' _ _ _ (by rw [cx]; rfl), (hB0.trans b2).setCell (p := ⟨ob, 0, none⟩) hob _⟩
end Go.Proofs.YtdfdiglnpekcpaaDoor.Ab
