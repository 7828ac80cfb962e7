/-
  slices.Insert at slots: in the middle, where there is no room. No claim is proved here.
-/
import Derived.Test.YtngjjiblmpjbjaaQIn3
namespace Go.Proofs.Ytngjjiblmpjbjaa.Ab
open Go Go.RowKit Go.Lib
set_option linter.unusedSimpArgs false
set_option maxHeartbeats 4000000
set_option maxRecDepth 100000
theorem insert_grow (b n c i vb vc tb tv : Nat) (cur vcur : Array Value) (vs : List Value) (w : World) (hi : i < n) (hnc : n ≤ c) (hroom : c < n + 1) (hbig : n ≤ 1000000)
    (hb : w.heap[b]? = some (.cells cur tb (0, 0))) (hcs : n * 5 ≤ cur.size) (h1c : ∀ v ∈ cur.toList.take (n * 5), v.oneCell' = true)
    (hv : w.heap[vb]? = some (.cells vcur tv (0, 0))) (hvl : vs.length = 5) (hvs : ∀ (j : Nat) (v : Value), vs[j]? = some v → vcur[j]? = some v) (h1v : ∀ v ∈ vs, v.oneCell' = true) (R0 A B : List Value)
    (hR : R0 = ((cur.toList.take (i * 5)).toArray ++ Builtin.zeroCells zSlot.cells (n + 1 - i) ++ Builtin.zeroCells zSlot.cells (grownCap w (n + 1) c t_api_Slot - (n + 1))).toList)
    (hA : A = R0.take (i * 5) ++ vs ++ R0.drop (i * 5 + 5)) (hB : B = A.take (i * 5 + 5) ++ (cur.toList.drop (i * 5)).take ((n - i) * 5) ++ A.drop (i * 5 + 5 + (n - i) * 5)) :
    Calls Try.prog 15 #[.slice (some ⟨b, 0, none⟩) n c, .int .i64 i, .slice (some ⟨vb, 0, none⟩) 1 vc] w fun e w' =>
      e = .returned (.slice (some ⟨w.heap.size, 0, none⟩) (n + 1) (grownCap w (n + 1) c t_api_Slot)) ∧
      w' = (((w.alloc (.cells R0.toArray t_api_Slot)).drew.setRow w.heap.size A.toArray).drew).setRow w.heap.size B.toArray := by
  have mixed : Try.prog.follows Departure.mixedOrders = true := by kernel_rfl
  obtain ⟨i0, hi0, hz0, hzs, hzb⟩ := info_parts slot_info
  have hz2 : ¬ ((i : Int) = (n : Int)) := by omega
  have hz3 : (c : Int) < (n : Int) + 1 := by omega
  have hbw : b < w.heap.size := (Array.getElem?_eq_some_iff.1 hb).1
  have hvw : vb < w.heap.size := (Array.getElem?_eq_some_iff.1 hv).1
  have hkk : (n : Int) + 1 - (i : Int) = ((n + 1 - i : Nat) : Int) := by omega
  have hik : i + (n + 1 - i) = n + 1 := by omega
  have hol : (cur.toList.take (i * 5)).length = i * 5 := by rw [List.length_take, Array.length_toList]; omega
  have hold : (Builtin.firstCells i0.size i (.slice (some ⟨b, 0, none⟩) i c)).run Try.prog w.drew = .ok (cur.toList.take (i * 5)).toArray w.drew := by
    rw [hzs]
    exact run_firstCells_some w.drew 5 i ⟨b, 0, none⟩ i c (cur.toList.take (i * 5)) hol (fun j v hj => by
      rw [Addr.add_lit]
      rw [List.getElem?_take] at hj
      split at hj
      · rw [Array.getElem?_toList] at hj
        have hb' : w.drew.heap[b]? = some (.cells cur tb (0, 0)) := hb
        simp [World.cell?, hb', hj]
      · cases hj)
  obtain ⟨G, hG⟩ : ∃ G, G = grownCap w (n + 1) c t_api_Slot := ⟨_, rfl⟩
  have hGn : n + 1 ≤ G := by rw [hG]; exact grownCap_ge w _ _ _
  have hG63 : G ≤ 9223372036854775807 := by
    have := grownCap_le_maxLen w (n + 1) c t_api_Slot (by unfold maxLen; omega)
    rw [← hG] at this
    unfold maxLen at this
    omega
  have hR0l : R0.length = G * 5 := by
    rw [hR, ← hG]
    simp [Builtin.zeroCells, zSlot, Value.cells]
    omega
  have hrz : ∀ ty, (Builtin.append_ #[22, 3] ty #[.slice (some ⟨b, 0, none⟩) i c, .int .i64 ((n : Int) + 1 - (i : Int))]).run Try.prog w =
      .ok (.slice (some ⟨w.heap.size, 0, none⟩) (n + 1) G) (w.drew.alloc (.cells R0.toArray t_api_Slot)) := fun ty => by
    have h := Lib.run_append_grow_zeros w 22 3 ty t_api_Slot i0 _ .i64 .i64 Try.underlying22 Try.underlying3 hi0 hz0 (some ⟨b, 0, none⟩) i c (cur.toList.take (i * 5)) hold (n + 1 - i) (by omega) (by omega) (by omega) (by omega) (by rw [hzb]; omega) (by rw [hzb, hik]; exact growslice_fits hroom (by omega))
    rw [hik] at h
    rw [hkk, hR, hG]
    exact h
  have hAl : A.length = G * 5 := by
    rw [hA, List.length_append, List.length_append, hvl, List.length_take, List.length_drop, hR0l]
    omega
  have hdl : ((cur.toList.drop (i * 5)).take ((n - i) * 5)).length = (n - i) * 5 := by
    rw [List.length_take, List.length_drop, Array.length_toList]
    omega
  have hcpA : ∀ (W : World), W.heap[w.heap.size]? = some (.cells R0.toArray t_api_Slot (0, 0)) → W.heap[vb]? = some (.cells vcur tv (0, 0)) → ∀ ty dc, (Builtin.copy_ #[22, 22] ty #[.slice (some ⟨w.heap.size, i * 5, none⟩) (n + 1 - i) dc, .slice (some ⟨vb, 0, none⟩) 1 vc]).run Try.prog W = .ok (goInt (1 : Nat)) (W.setRow w.heap.size A.toArray) := fun W hWb hWv ty dc => by
    have h := run_copy_rowK W 22 22 ty t_api_Slot w.heap.size (i * 5) (n + 1 - i) dc ⟨vb, 0, none⟩ 1 vc R0.toArray t_api_Slot vs 5 1 Try.underlying22 five_info hWb
      (by simp only [Nat.min_def]; split <;> omega) hvl (fun j v hj => by
        rw [Addr.add_lit]
        have := hvs j v hj
        simp [World.cell?, hWv, this]) (by simp [hR0l, hvl]; omega) h1v
    rw [hvl] at h
    rw [hA]
    exact h
  have hcpB : ∀ (W : World), W.heap[w.heap.size]? = some (.cells A.toArray t_api_Slot (0, 0)) → W.heap[b]? = some (.cells cur tb (0, 0)) → ∀ ty dc sc, (Builtin.copy_ #[22, 22] ty #[.slice (some ⟨w.heap.size, (i + 1) * 5, none⟩) (n + 1 - (i + 1)) dc, .slice (some ⟨b, i * 5, none⟩) (n - i) sc]).run Try.prog W = .ok (goInt (n - i : Nat)) (W.setRow w.heap.size B.toArray) := fun W hWb hWc ty dc sc => by
    have h := run_copy_rowK W 22 22 ty t_api_Slot w.heap.size (i * 5 + 5) (n + 1 - (i + 1)) dc ⟨b, i * 5, none⟩ (n - i) sc A.toArray t_api_Slot ((cur.toList.drop (i * 5)).take ((n - i) * 5)) 5 (n - i) Try.underlying22 five_info hWb
      (by simp only [Nat.min_def]; split <;> omega) hdl (fun j v hj => by
        rw [Addr.add_lit]
        rw [List.getElem?_take] at hj
        split at hj
        · rw [List.getElem?_drop, Array.getElem?_toList] at hj
          simp [World.cell?, hWc, hj]
        · cases hj) (by rw [hdl]; simp [hAl]; omega) (fun v hv => h1c v (by
        obtain ⟨j, hj⟩ := List.getElem?_of_mem hv
        rw [List.getElem?_take] at hj
        split at hj
        · rw [List.getElem?_drop] at hj
          refine List.mem_of_getElem? (i := i * 5 + j) ?_
          rw [List.getElem?_take, if_pos (by omega), hj]
        · cases hj))
    rw [hdl] at h
    rw [hB, show (i + 1) * 5 = i * 5 + 5 by omega]
    exact h
  have h0 : w.heap.size ≠ b := by omega
  have h0' : w.heap.size ≠ vb := by omega
  have hX1 : ((w.alloc (.cells R0.toArray t_api_Slot)).drew).heap[w.heap.size]? = some (.cells R0.toArray t_api_Slot (0, 0)) := by
    show (w.heap.push _)[w.heap.size]? = _
    simp
  have hX2 : ((w.alloc (.cells R0.toArray t_api_Slot)).drew).heap[vb]? = some (.cells vcur tv (0, 0)) := (Below.heap_alloc w _ vb hvw).trans hv
  have hX3 : ((w.alloc (.cells R0.toArray t_api_Slot)).drew).heap[b]? = some (.cells cur tb (0, 0)) := (Below.heap_alloc w _ b hbw).trans hb
  have hcpA' := hcpA ((w.alloc (.cells R0.toArray t_api_Slot)).drew) hX1 hX2
  have hcpB' := hcpB ((((w.alloc (.cells R0.toArray t_api_Slot)).drew).setRow w.heap.size A.toArray).drew) (setRow_heap _ _ _ _ _ _ hX1) ((setRow_other _ _ _ _ h0.symm).trans hX3)
  have hcpB2 := hcpB (((w.alloc (.cells R0.toArray t_api_Slot)).drew).setRow w.heap.size A.toArray) (setRow_heap _ _ _ _ _ _ hX1) ((setRow_other _ _ _ _ h0.symm).trans hX3)
  have hGi : ¬ (G = i) := by omega
  have hGim : ¬ (G = i + 1) := by omega
  have hci : ¬ (c = i) := by omega
  have hw1 : IntKind.i64.wrap ((i : Int) + 1) = (i : Int) + 1 := by rw [IntKind.wrap_i64]; omega
  have hb1 : (0 : Int) ≤ (i : Int) + 1 := by omega
  have hin : i ≤ n := by omega
  have htn : ((i : Int) + 1).toNat = i + 1 := by omega
  have hb3 : (i : Int) ≤ (n : Int) := by omega
  rw [← hG]
  clear hkk hik hold hR hA hB hG hR0l hcpA hcpB hAl hdl hol hX1 hX2 hX3
  go_enter Try.func15, Try.ntmps15
  go_wp2_with (first
    | (at_builtin; refine Lib.wpList_append_run _ rfl _ _ _ _ rfl _ _ rfl rfl _ _ (hrz _) ?_)
    | (at_builtin; refine wpList_copy_runI _ rfl _ _ 22 22 rfl _ _ rfl rfl (hcpA' _ _) ?_)
    | (at_builtin; refine wpList_copy_runI _ rfl _ _ 22 22 rfl _ _ rfl rfl (hcpB2 _ _ _) ?_))
  go_region_law_o (refine step_copy_runI rfl _ _ 22 22 rfl (.slice (some ⟨w.heap.size, (i + 1) * 5, none⟩) (n + 1 - (i + 1)) (G - (i + 1))) (.slice (some ⟨b, i * 5, none⟩) (n - i) (c - i)) (by simp [Act.eval, Act.put]) (by simp [Act.eval, Act.put]) (hcpB' 3 (G - (i + 1)) (c - i)) ?_)
  go_wp2
  go_ret
  exact ⟨rfl, rfl⟩
end Go.Proofs.Ytngjjiblmpjbjaa.Ab
