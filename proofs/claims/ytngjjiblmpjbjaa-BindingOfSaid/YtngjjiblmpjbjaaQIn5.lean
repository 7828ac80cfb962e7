/-
  slices.Insert at slots, as a contract on rows. No claim is proved here.
-/
import Derived.Test.YtngjjiblmpjbjaaQIn4
import Derived.Test.YtngjjiblmpjbjaaQAbHeap2
namespace Go.Proofs.Ytngjjiblmpjbjaa.Ab
open Go Go.RowKit Go.Lib
set_option linter.unusedSimpArgs false
set_option maxHeartbeats 4000000
set_option maxRecDepth 100000
variable {G : Nat → Option AV}
def slotCells (s : SlotT) : List Value := [.int .i64 s.var, .int .i64 s.value.kind, .int .i64 s.value.int, .string ⟨s.value.str.toArray⟩, .bool s.value.bool]
theorem slotCells_len (s : SlotT) : (slotCells s).length = 5 := rfl
theorem flat_len : ∀ (l : List SlotT), (l.flatMap slotCells).length = l.length * 5
  | [] => rfl
  | s :: l => by rw [List.flatMap_cons, List.length_append, flat_len l, slotCells_len, List.length_cons]; omega
theorem flat_at : ∀ {l : List SlotT} {k : Nat} {x : SlotT}, l[k]? = some x → ∀ {j : Nat}, j < 5 → (l.flatMap slotCells)[k * 5 + j]? = (slotCells x)[j]?
  | [], k, x, h, _, _ => by simp at h
  | s :: l, 0, x, h, j, hj => by
    simp only [List.getElem?_cons_zero, Option.some.injEq] at h
    subst h
    rw [List.flatMap_cons, List.getElem?_append_left (by rw [slotCells_len]; omega)]
    simp
  | s :: l, k + 1, x, h, j, hj => by
    rw [List.flatMap_cons, List.getElem?_append_right (by rw [slotCells_len]; omega), slotCells_len, show (k + 1) * 5 + j - 5 = k * 5 + j by omega]
    exact flat_at (by simpa using h) hj
theorem flat_of {l : List SlotT} {cur : List Value} (h : ∀ (k : Nat) (x : SlotT), l[k]? = some x → ∀ j, j < 5 → cur[k * 5 + j]? = (slotCells x)[j]?) : cur.take (l.length * 5) = l.flatMap slotCells := by
  apply List.ext_getElem?
  intro p
  rw [List.getElem?_take]
  by_cases hp : p < l.length * 5
  · rw [if_pos hp]
    obtain ⟨x, hx, _⟩ := at_some (l := l) (i := p / 5) (by omega)
    have h1 := h (p / 5) x hx (p % 5) (by omega)
    have h2 := flat_at hx (j := p % 5) (by omega)
    rw [show p / 5 * 5 + p % 5 = p by omega] at h1 h2
    rw [h1, h2]
  · rw [if_neg hp, List.getElem?_eq_none (by rw [flat_len]; omega)]
theorem flat_take (l : List SlotT) (i : Nat) : (l.take i).flatMap slotCells = (l.flatMap slotCells).take (i * 5) := by
  by_cases hi : i ≤ l.length
  · have h := flat_of (l := l.take i) (cur := l.flatMap slotCells) (fun k x hx j hj => by
      rw [List.getElem?_take] at hx
      split at hx
      · exact flat_at hx hj
      · cases hx)
    rw [← h, List.length_take, Nat.min_eq_left hi]
  · rw [List.take_of_length_le (by omega), List.take_of_length_le (by rw [flat_len]; omega)]
theorem flat_drop (l : List SlotT) (i : Nat) : (l.drop i).flatMap slotCells = (l.flatMap slotCells).drop (i * 5) := by
  have h1 : (l.take i).flatMap slotCells ++ (l.drop i).flatMap slotCells = l.flatMap slotCells := by rw [← List.flatMap_append, List.take_append_drop]
  by_cases hi : i ≤ l.length
  · have h2 : ((l.take i).flatMap slotCells).length = i * 5 := by rw [flat_len, List.length_take, Nat.min_eq_left hi]
    rw [← h1, List.drop_left' h2]
  · rw [List.drop_of_length_le (by omega), List.drop_of_length_le (by rw [flat_len]; omega)]
    rfl
theorem slot_rd {w : World} {F : Nat → Prop} {nm : Names} {s : SlotT} {j : Nat} {c : AV} {u : Value} (hc : (slotV s).cells[j]? = some c) (hr : Rd w F nm c u) : (slotCells s)[j]? = some u := by
  match j, hc with
  | 0, hc => cases hc; cases hr; rfl
  | 1, hc => cases hc; cases hr; rfl
  | 2, hc => cases hc; cases hr; rfl
  | 3, hc => cases hc; cases hr; rfl
  | 4, hc => cases hc; cases hr; rfl
theorem rd_slot (w : World) (F : Nat → Prop) (nm : Names) {s : SlotT} {j : Nat} {c : AV} (hc : (slotV s).cells[j]? = some c) : ∃ u, (slotCells s)[j]? = some u ∧ u.oneCell' = true ∧ Rd w F nm c u := by
  match j, hc with
  | 0, hc => cases hc; exact ⟨_, rfl, rfl, .int _ _ _⟩
  | 1, hc => cases hc; exact ⟨_, rfl, rfl, .int _ _ _⟩
  | 2, hc => cases hc; exact ⟨_, rfl, rfl, .int _ _ _⟩
  | 3, hc => cases hc; exact ⟨_, rfl, rfl, .str _ _⟩
  | 4, hc => cases hc; exact ⟨_, rfl, rfl, .bool _ _⟩
theorem slot_lt {s : SlotT} {j : Nat} {c : AV} (hc : (slotV s).cells[j]? = some c) : j < 5 := by
  have := (List.getElem?_eq_some_iff.1 hc).1
  simpa [slotV, AV.cells] using this
theorem flat_one (l : List SlotT) : ∀ v ∈ l.flatMap slotCells, v.oneCell' = true := fun v hv => by
  obtain ⟨s, _, hs⟩ := List.mem_flatMap.1 hv
  simp only [slotCells, List.mem_cons, List.not_mem_nil, or_false] at hs
  rcases hs with rfl | rfl | rfl | rfl | rfl <;> rfl
/-- A row of slots: its first cells. -/
theorem row_flat {w : World} {F : Nat → Prop} {nm : Names} {m : Nm} {ty : Nat} {l : List SlotT} (h : LiesC w F nm m ⟨true, ty, 5, l.map slotV⟩) : m.sz = 5 ∧ m.ty = ty ∧ m.cap ≤ maxLen ∧ l.length ≤ m.cap ∧ ∃ cur : Array Value, w.heap[m.g]? = some (.cells cur ty (0, 0)) ∧ cur.size = m.cap * 5 ∧ cur.toList.take (l.length * 5) = l.flatMap slotCells := by
  obtain ⟨h1, h2, h3, cs, h4, h5, h6, h7, h8, h9⟩ := h
  have h1 : m.sz = 5 := h1
  have h2 : m.ty = ty := h2
  refine ⟨h1, h2, h7, by simpa using h6, cs, by rw [← h2]; exact h4, by rw [h5, h1], flat_of fun k x hx j hj => ?_⟩
  have hc : j < (slotV x).cells.length := hj
  obtain ⟨u, hu, _, hr⟩ := h9 k (slotV x) j _ (by show (l.map slotV)[k]? = _; rw [List.getElem?_map, hx]; rfl) (List.getElem?_eq_getElem hc)
  rw [h1] at hu
  rw [Array.getElem?_toList, hu, slot_rd (List.getElem?_eq_getElem hc) hr]
end Go.Proofs.Ytngjjiblmpjbjaa.Ab
