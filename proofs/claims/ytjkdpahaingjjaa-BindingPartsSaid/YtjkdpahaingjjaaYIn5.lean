/-
  slices.Insert at slots: in the middle, where there is no room. slices.Insert at slots, as a contract on rows. No claim is proved here.
-/
import Derived.Test.YtjkdpahaingjjaaYIn3
import Derived.Test.YtjkdpahaingjjaaYAbHeap2
namespace Go.Proofs.Ytjkdpahaingjjaa.Ab
open Go Go.RowKit Go.Lib
set_option linter.unusedSimpArgs false
set_option maxHeartbeats 4000000
set_option maxRecDepth 100000
theorem insert_grow (b n c i vb vc tb tv : Nat) (cur vcur : Array Value) (vs : List Value) (w : World) (hi : i < n) (hnc : n ≤ c) (hroom : c < n + 1) (hbig : n ≤ 1000000)
    (hb : w.heap[b]? = some (.cells cur tb (0, 0))) (hcs : n * 5 ≤ cur.size) (h1c : ∀ v ∈ cur.toList.take (n * 5), v.oneCell' = true)
    (hv : w.heap[vb]? = some (.cells vcur tv (0, 0))) (hvl : vs.length = 5) (hvs : ∀ (j : Nat) (v : Value), vs[j]? = some v → vcur[j]? = some v) (h1v : ∀ v ∈ vs, v.oneCell' = true) (R0 A B : List Value)
    (hR : R0 = ((cur.toList.take (i * 5)).toArray ++ Builtin.zeroCells zSlot.cells (n + 1 - i) ++ Builtin.zeroCells zSlot.cells (grownCap w (n + 1) c t_api_Slot - (n + 1))).toList)
    (hA : A = R0.take (i * 5) ++ vs ++ R0.drop (i * 5 + 5)) (hB : B = A.take (i * 5 + 5) ++ (cur.toList.drop (i * 5)).take ((n - i) * 5) ++ A.drop (i * 5 + 5 + (n - i) * 5)) :
    Calls Try.prog 47 #[.slice (some ⟨b, 0, none⟩) n c, .int .i64 i, .slice (some ⟨vb, 0, none⟩) 1 vc] w fun e w' =>
      e = .returned (.slice (some ⟨w.heap.size, 0, none⟩) (n + 1) (grownCap w (n + 1) c t_api_Slot)) ∧
      w' = (((w.alloc (.cells R0.toArray t_api_Slot)).drew.setRow w.heap.size A.toArray).drew).setRow w.heap.size B.toArray := by
  have mixed : Try.prog.follows Departure.mixedOrders = true := by kernel_rfl
  obtain ⟨i0, hi0, hz0, hzs, hzb⟩ := info_parts slot_info
  have hz2 : ¬ ((i : Int) = (n : Int)) := by omega
  have hz3 : (c : Int) < (n : Int) + 1 := by omega
  have hbw : b < w.heap.size := (Array.getElem?_eq_some_iff.1 hb).1
  have hvw : vb < w.heap.size := (Array.getElem?_eq_some_iff.1 hv).1
  have hkk : (n : Int) + 1 - (i : Int) = ((n + 1 - i : Nat) : Int) := by omega
  have hik : i + (n + 1 - i) = n + 1 := by omega
  have hol : (cur.toList.take (i * 5)).length = i * 5 := by rw [List.length_take, Array.length_toList]; omega
  have hold : (Builtin.firstCells i0.size i (.slice (some ⟨b, 0, none⟩) i c)).run Try.prog w.drew = .ok (cur.toList.take (i * 5)).toArray w.drew := by
    rw [hzs]
    exact run_firstCells_some w.drew 5 i ⟨b, 0, none⟩ i c (cur.toList.take (i * 5)) hol (fun j v hj => by
      rw [Addr.add_lit]
      rw [List.getElem?_take] at hj
      split at hj
      · rw [Array.getElem?_toList] at hj
        have hb' : w.drew.heap[b]? = some (.cells cur tb (0, 0)) := hb
        simp [World.cell?, hb', hj]
      · cases hj)
  obtain ⟨G, hG⟩ : ∃ G, G = grownCap w (n + 1) c t_api_Slot := ⟨_, rfl⟩
  have hGn : n + 1 ≤ G := by rw [hG]; exact grownCap_ge w _ _ _
  have hG63 : G ≤ 9223372036854775807 := by
    have := grownCap_le_maxLen w (n + 1) c t_api_Slot (by unfold maxLen; omega)
    rw [← hG] at this
    unfold maxLen at this
    omega
  have hR0l : R0.length = G * 5 := by
    rw [hR, ← hG]
    simp [Builtin.zeroCells, zSlot, Value.cells]
    omega
  have hrz : ∀ ty, (Builtin.append_ #[22, 3] ty #[.slice (some ⟨b, 0, none⟩) i c, .int .i64 ((n : Int) + 1 - (i : Int))]).run Try.prog w =
      .ok (.slice (some ⟨w.heap.size, 0, none⟩) (n + 1) G) (w.drew.alloc (.cells R0.toArray t_api_Slot)) := fun ty => by
    have h := Lib.run_append_grow_zeros w 22 3 ty t_api_Slot i0 _ .i64 .i64 Try.underlying22 Try.underlying3 hi0 hz0 (some ⟨b, 0, none⟩) i c (cur.toList.take (i * 5)) hold (n + 1 - i) (by omega) (by omega) (by omega) (by omega) (by rw [hzb]; omega) (by rw [hzb, hik]; exact growslice_fits hroom (by omega))
    rw [hik] at h
    rw [hkk, hR, hG]
    exact h
  have hAl : A.length = G * 5 := by
    rw [hA, List.length_append, List.length_append, hvl, List.length_take, List.length_drop, hR0l]
    omega
  have hdl : ((cur.toList.drop (i * 5)).take ((n - i) * 5)).length = (n - i) * 5 := by
    rw [List.length_take, List.length_drop, Array.length_toList]
    omega
  have hcpA : ∀ (W : World), W.heap[w.heap.size]? = some (.cells R0.toArray t_api_Slot (0, 0)) → W.heap[vb]? = some (.cells vcur tv (0, 0)) → ∀ ty dc, (Builtin.copy_ #[22, 22] ty #[.slice (some ⟨w.heap.size, i * 5, none⟩) (n + 1 - i) dc, .slice (some ⟨vb, 0, none⟩) 1 vc]).run Try.prog W = .ok (goInt (1 : Nat)) (W.setRow w.heap.size A.toArray) := fun W hWb hWv ty dc => by
    have h := run_copy_rowK W 22 22 ty t_api_Slot w.heap.size (i * 5) (n + 1 - i) dc ⟨vb, 0, none⟩ 1 vc R0.toArray t_api_Slot vs 5 1 Try.underlying22 five_info hWb
      (by simp only [Nat.min_def]; split <;> omega) hvl (fun j v hj => by
        rw [Addr.add_lit]
        have := hvs j v hj
        simp [World.cell?, hWv, this]) (by simp [hR0l, hvl]; omega) h1v
    rw [hvl] at h
    rw [hA]
    exact h
  have hcpB : ∀ (W : World), W.heap[w.heap.size]? = some (.cells A.toArray t_api_Slot (0, 0)) → W.heap[b]? = some (.cells cur tb (0, 0)) → ∀ ty dc sc, (Builtin.copy_ #[22, 22] ty #[.slice (some ⟨w.heap.size, (i + 1) * 5, none⟩) (n + 1 - (i + 1)) dc, .slice (some ⟨b, i * 5, none⟩) (n - i) sc]).run Try.prog W = .ok (goInt (n - i : Nat)) (W.setRow w.heap.size B.toArray) := fun W hWb hWc ty dc sc => by
    have h := run_copy_rowK W 22 22 ty t_api_Slot w.heap.size (i * 5 + 5) (n + 1 - (i + 1)) dc ⟨b, i * 5, none⟩ (n - i) sc A.toArray t_api_Slot ((cur.toList.drop (i * 5)).take ((n - i) * 5)) 5 (n - i) Try.underlying22 five_info hWb
      (by simp only [Nat.min_def]; split <;> omega) hdl (fun j v hj => by
        rw [Addr.add_lit]
        rw [List.getElem?_take] at hj
        split at hj
        · rw [List.getElem?_drop, Array.getElem?_toList] at hj
          simp [World.cell?, hWc, hj]
        · cases hj) (by rw [hdl]; simp [hAl]; omega) (fun v hv => h1c v (by
        obtain ⟨j, hj⟩ := List.getElem?_of_mem hv
        rw [List.getElem?_take] at hj
        split at hj
        · rw [List.getElem?_drop] at hj
          refine List.mem_of_getElem? (i := i * 5 + j) ?_
          rw [List.getElem?_take, if_pos (by omega), hj]
        · cases hj))
    rw [hdl] at h
    rw [hB, show (i + 1) * 5 = i * 5 + 5 by omega]
    exact h
  have h0 : w.heap.size ≠ b := by omega
  have h0' : w.heap.size ≠ vb := by omega
  have hX1 : ((w.alloc (.cells R0.toArray t_api_Slot)).drew).heap[w.heap.size]? = some (.cells R0.toArray t_api_Slot (0, 0)) := by
    show (w.heap.push _)[w.heap.size]? = _
    simp
  have hX2 : ((w.alloc (.cells R0.toArray t_api_Slot)).drew).heap[vb]? = some (.cells vcur tv (0, 0)) := (Below.heap_alloc w _ vb hvw).trans hv
  have hX3 : ((w.alloc (.cells R0.toArray t_api_Slot)).drew).heap[b]? = some (.cells cur tb (0, 0)) := (Below.heap_alloc w _ b hbw).trans hb
  have hcpA' := hcpA ((w.alloc (.cells R0.toArray t_api_Slot)).drew) hX1 hX2
  have hcpB' := hcpB ((((w.alloc (.cells R0.toArray t_api_Slot)).drew).setRow w.heap.size A.toArray).drew) (setRow_heap _ _ _ _ _ _ hX1) ((setRow_other _ _ _ _ h0.symm).trans hX3)
  have hcpB2 := hcpB (((w.alloc (.cells R0.toArray t_api_Slot)).drew).setRow w.heap.size A.toArray) (setRow_heap _ _ _ _ _ _ hX1) ((setRow_other _ _ _ _ h0.symm).trans hX3)
  have hGi : ¬ (G = i) := by omega
  have hGim : ¬ (G = i + 1) := by omega
  have hci : ¬ (c = i) := by omega
  have hw1 : IntKind.i64.wrap ((i : Int) + 1) = (i : Int) + 1 := by rw [IntKind.wrap_i64]; omega
  have hb1 : (0 : Int) ≤ (i : Int) + 1 := by omega
  have hin : i ≤ n := by omega
  have htn : ((i : Int) + 1).toNat = i + 1 := by omega
  have hb3 : (i : Int) ≤ (n : Int) := by omega
  rw [← hG]
  clear hkk hik hold hR hA hB hG hR0l hcpA hcpB hAl hdl hol hX1 hX2 hX3
  go_enter Try.func47, Try.ntmps47
  go_wp2_with (first
    | (at_builtin; refine Lib.wpList_append_run _ rfl _ _ _ _ rfl _ _ rfl rfl _ _ (hrz _) ?_)
    | (at_builtin; refine wpList_copy_runI _ rfl _ _ 22 22 rfl _ _ rfl rfl (hcpA' _ _) ?_)
    | (at_builtin; refine wpList_copy_runI _ rfl _ _ 22 22 rfl _ _ rfl rfl (hcpB2 _ _ _) ?_))
  go_region_law_o (refine step_copy_runI rfl _ _ 22 22 rfl (.slice (some ⟨w.heap.size, (i + 1) * 5, none⟩) (n + 1 - (i + 1)) (G - (i + 1))) (.slice (some ⟨b, i * 5, none⟩) (n - i) (c - i)) (by simp [Act.eval, Act.put]) (by simp [Act.eval, Act.put]) (hcpB' 3 (G - (i + 1)) (c - i)) ?_)
  go_wp2
  go_ret
  exact ⟨rfl, rfl⟩
end Go.Proofs.Ytjkdpahaingjjaa.Ab
namespace Go.Proofs.Ytjkdpahaingjjaa.Ab
open Go Go.RowKit Go.Lib
set_option linter.unusedSimpArgs false
set_option maxHeartbeats 4000000
set_option maxRecDepth 100000
variable {G : Nat → Option AV}
def slotCells (s : SlotT) : List Value := [.int .i64 s.var, .int .i64 s.value.kind, .int .i64 s.value.int, .string ⟨s.value.str.toArray⟩, .bool s.value.bool]
theorem slotCells_len (s : SlotT) : (slotCells s).length = 5 := rfl
theorem flat_len : ∀ (l : List SlotT), (l.flatMap slotCells).length = l.length * 5
  | [] => rfl
  | s :: l => by rw [List.flatMap_cons, List.length_append, flat_len l, slotCells_len, List.length_cons]; omega
theorem flat_at : ∀ {l : List SlotT} {k : Nat} {x : SlotT}, l[k]? = some x → ∀ {j : Nat}, j < 5 → (l.flatMap slotCells)[k * 5 + j]? = (slotCells x)[j]?
  | [], k, x, h, _, _ => by simp at h
  | s :: l, 0, x, h, j, hj => by
    simp only [List.getElem?_cons_zero, Option.some.injEq] at h
    subst h
    rw [List.flatMap_cons, List.getElem?_append_left (by rw [slotCells_len]; omega)]
    simp
  | s :: l, k + 1, x, h, j, hj => by
    rw [List.flatMap_cons, List.getElem?_append_right (by rw [slotCells_len]; omega), slotCells_len, show (k + 1) * 5 + j - 5 = k * 5 + j by omega]
    exact flat_at (by simpa using h) hj
theorem flat_of {l : List SlotT} {cur : List Value} (h : ∀ (k : Nat) (x : SlotT), l[k]? = some x → ∀ j, j < 5 → cur[k * 5 + j]? = (slotCells x)[j]?) : cur.take (l.length * 5) = l.flatMap slotCells := by
  apply List.ext_getElem?
  intro p
  rw [List.getElem?_take]
  by_cases hp : p < l.length * 5
  · rw [if_pos hp]
    obtain ⟨x, hx, _⟩ := at_some (l := l) (i := p / 5) (by omega)
    have h1 := h (p / 5) x hx (p % 5) (by omega)
    have h2 := flat_at hx (j := p % 5) (by omega)
    rw [show p / 5 * 5 + p % 5 = p by omega] at h1 h2
    rw [h1, h2]
  · rw [if_neg hp, List.getElem?_eq_none (by rw [flat_len]; omega)]
theorem flat_take (l : List SlotT) (i : Nat) : (l.take i).flatMap slotCells = (l.flatMap slotCells).take (i * 5) := by
  by_cases hi : i ≤ l.length
  · have h := flat_of (l := l.take i) (cur := l.flatMap slotCells) (fun k x hx j hj => by
      rw [List.getElem?_take] at hx
      split at hx
      · exact flat_at hx hj
      · cases hx)
    rw [← h, List.length_take, Nat.min_eq_left hi]
  · rw [List.take_of_length_le (by omega), List.take_of_length_le (by rw [flat_len]; omega)]
theorem flat_drop (l : List SlotT) (i : Nat) : (l.drop i).flatMap slotCells = (l.flatMap slotCells).drop (i * 5) := by
  have h1 : (l.take i).flatMap slotCells ++ (l.drop i).flatMap slotCells = l.flatMap slotCells := by rw [← List.flatMap_append, List.take_append_drop]
  by_cases hi : i ≤ l.length
  · have h2 : ((l.take i).flatMap slotCells).length = i * 5 := by rw [flat_len, List.length_take, Nat.min_eq_left hi]
    rw [← h1, List.drop_left' h2]
  · rw [List.drop_of_length_le (by omega), List.drop_of_length_le (by rw [flat_len]; omega)]
    rfl
theorem slot_rd {w : World} {F : Nat → Prop} {nm : Names} {s : SlotT} {j : Nat} {c : AV} {u : Value} (hc : (slotV s).cells[j]? = some c) (hr : Rd w F nm c u) : (slotCells s)[j]? = some u := by
  match j, hc with
  | 0, hc => cases hc; cases hr; rfl
  | 1, hc => cases hc; cases hr; rfl
  | 2, hc => cases hc; cases hr; rfl
  | 3, hc => cases hc; cases hr; rfl
  | 4, hc => cases hc; cases hr; rfl
theorem rd_slot (w : World) (F : Nat → Prop) (nm : Names) {s : SlotT} {j : Nat} {c : AV} (hc : (slotV s).cells[j]? = some c) : ∃ u, (slotCells s)[j]? = some u ∧ u.oneCell' = true ∧ Rd w F nm c u := by
  match j, hc with
  | 0, hc => cases hc; exact ⟨_, rfl, rfl, .int _ _ _⟩
  | 1, hc => cases hc; exact ⟨_, rfl, rfl, .int _ _ _⟩
  | 2, hc => cases hc; exact ⟨_, rfl, rfl, .int _ _ _⟩
  | 3, hc => cases hc; exact ⟨_, rfl, rfl, .str _ _⟩
  | 4, hc => cases hc; exact ⟨_, rfl, rfl, .bool _ _⟩
theorem slot_lt {s : SlotT} {j : Nat} {c : AV} (hc : (slotV s).cells[j]? = some c) : j < 5 := by
  have := (List.getElem?_eq_some_iff.1 hc).1
  simpa [slotV, AV.cells] using this
theorem flat_one (l : List SlotT) : ∀ v ∈ l.flatMap slotCells, v.oneCell' = true := fun v hv => by
  obtain ⟨s, _, hs⟩ := List.mem_flatMap.1 hv
  simp only [slotCells, List.mem_cons, List.not_mem_nil, or_false] at hs
  rcases hs with rfl | rfl | rfl | rfl | rfl <;> rfl
/-- A row of slots: its first cells. -/
theorem row_flat {w : World} {F : Nat → Prop} {nm : Names} {m : Nm} {ty : Nat} {l : List SlotT} (h : LiesC w F nm m ⟨true, ty, 5, l.map slotV⟩) : m.sz = 5 ∧ m.ty = ty ∧ m.cap ≤ maxLen ∧ l.length ≤ m.cap ∧ ∃ cur : Array Value, w.heap[m.g]? = some (.cells cur ty (0, 0)) ∧ cur.size = m.cap * 5 ∧ cur.toList.take (l.length * 5) = l.flatMap slotCells := by
  obtain ⟨h1, h2, h3, cs, h4, h5, h6, h7, h8, h9⟩ := h
  have h1 : m.sz = 5 := h1
  have h2 : m.ty = ty := h2
  refine ⟨h1, h2, h7, by simpa using h6, cs, by rw [← h2]; exact h4, by rw [h5, h1], flat_of fun k x hx j hj => ?_⟩
  have hc : j < (slotV x).cells.length := hj
  obtain ⟨u, hu, _, hr⟩ := h9 k (slotV x) j _ (by show (l.map slotV)[k]? = _; rw [List.getElem?_map, hx]; rfl) (List.getElem?_eq_getElem hc)
  rw [h1] at hu
  rw [Array.getElem?_toList, hu, slot_rd (List.getElem?_eq_getElem hc) hr]
end Go.Proofs.Ytjkdpahaingjjaa.Ab
