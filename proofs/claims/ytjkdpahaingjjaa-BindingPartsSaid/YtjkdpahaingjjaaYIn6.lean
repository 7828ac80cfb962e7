/-
  slices.Insert at slots: the contract. No claim is proved here.
-/
import Derived.Test.YtjkdpahaingjjaaYIn5
namespace Go.Proofs.Ytjkdpahaingjjaa.Ab
open Go Go.RowKit Go.Lib
set_option linter.unusedSimpArgs false
set_option maxHeartbeats 4000000
set_option maxRecDepth 100000
variable {G : Nat → Option AV}
def insR (l : List SlotT) (i : Nat) (s : SlotT) : List SlotT := l.take i ++ s :: l.drop i
theorem insR_len {l : List SlotT} {i : Nat} (s : SlotT) (h : i ≤ l.length) : (insR l i s).length = l.length + 1 := by
  unfold insR
  rw [List.length_append, List.length_cons, List.length_take, List.length_drop]
  omega
theorem insR_flat (l : List SlotT) (i : Nat) (s : SlotT) : (insR l i s).flatMap slotCells = (l.flatMap slotCells).take (i * 5) ++ slotCells s ++ (l.flatMap slotCells).drop (i * 5) := by
  unfold insR
  rw [List.flatMap_append, List.flatMap_cons, flat_take, flat_drop, List.append_assoc]
/-- What is handed back, out of the row as it lies. -/
theorem insert_pack {w w' : World} {F : Nat → Prop} {nm : Names} {H : List (Nat × Box)} (l' : List SlotT) (g' cap' : Nat) (row : Array Value) (rest : List Value) (hg : Good w F G) (hH : ∀ i b, hget H i = some b → b.row = true)
    (hrow : w'.heap[g']? = some (.cells row t_api_Slot (0, 0))) (hsz : row.size = cap' * 5) (hcap : l'.length ≤ cap') (hmax : cap' ≤ maxLen) (_hpos : 0 < l'.length) (hflat : row.toList = l'.flatMap slotCells ++ rest)
    (hown : w.heap.size ≤ g' ∨ Own nm H g') (hF : ¬ F g') (hk : w'.os = w.os ∧ w'.tape = w.tape ∧ w'.output = w.output ∧ w.heap.size ≤ w'.heap.size) (hblk : ∀ k, k < w.heap.size → ¬ Own nm H k → w'.heap[k]? = w.heap[k]?) :
    ∃ v F' nm', (Ending.returned (.slice (some ⟨g', 0, none⟩) l'.length cap') = Ending.returned v) ∧ (∀ b, F b → F' b) ∧ (∀ b, F' b → F b ∨ w.heap.size ≤ b ∨ Own nm H b) ∧ (∀ b, F' b → b < w'.heap.size) ∧
      Rd w' F' nm' (.arr 1000 0 l'.length) v ∧ HB w' F' nm' [(1000, ⟨true, t_api_Slot, 5, l'.map slotV⟩)] ∧ (∀ i b, hget H i = some b → b.row = false → nm' i = nm i ∧ ∀ b', hget [(1000, (⟨true, t_api_Slot, 5, l'.map slotV⟩ : Box))] i = some b' → b'.row = false) ∧
      (∀ k, Own nm' [(1000, ⟨true, t_api_Slot, 5, l'.map slotV⟩)] k → w.heap.size ≤ k ∨ Own nm H k) ∧
      (w'.os = w.os ∧ w'.tape = w.tape ∧ w'.output = w.output ∧ w.heap.size ≤ w'.heap.size) ∧ ∀ k, k < w.heap.size → ¬ Own nm H k → w'.heap[k]? = w.heap[k]? := by
  have hget1 : ∀ i b, hget [(1000, (⟨true, t_api_Slot, 5, l'.map slotV⟩ : Box))] i = some b → i = 1000 ∧ b = ⟨true, t_api_Slot, 5, l'.map slotV⟩ := fun i b hi => by
    simp only [hget] at hi
    split at hi
    · rename_i e
      cases hi
      exact ⟨e.symm, rfl⟩
    · cases hi
  refine ⟨_, F, fun i => if i = 1000 then some ⟨g', 5, cap', t_api_Slot⟩ else none, rfl, fun _ h => h, fun b hb => .inl hb, fun b hb => Nat.lt_of_lt_of_le (hg.1 b hb) hk.2.2.2, ?_, ⟨fun i b hi => ?_, fun i j b c m m' hi hj _ _ _ => ?_, fun i b m hi hm => ?_⟩, fun i b hi hr => ?_, fun k hk' => ?_, hk, hblk⟩
  · have key := Rd.arr (w := w') (F := F) (fun i => if i = 1000 then some (⟨g', 5, cap', t_api_Slot⟩ : Nm) else none) 1000 0 l'.length ⟨g', 5, cap', t_api_Slot⟩ (by simp) (by simpa using hcap) (.inr rfl)
    simpa using key
  · obtain ⟨rfl, rfl⟩ := hget1 i b hi
    refine .inr ⟨_, by simp; rfl, .inl ⟨rfl, rfl, by show 0 < 5; decide, row, hrow, hsz, by simpa using hcap, hmax, fun e he => ?_, fun k e j c he hc => ?_⟩⟩
    · obtain ⟨s, _, rfl⟩ := List.mem_map.1 he
      rfl
    · have he : (l'.map slotV)[k]? = some e := he
      rw [List.getElem?_map] at he
      obtain ⟨x, hx, rfl⟩ := Option.map_eq_some_iff.1 he
      obtain ⟨u, hu, h1, hr⟩ := rd_slot w' F noNames hc
      refine ⟨u, ?_, h1, hr⟩
      show row[k * 5 + j]? = some u
      have hj := slot_lt hc
      have hkl := (List.getElem?_eq_some_iff.1 hx).1
      rw [← Array.getElem?_toList, hflat, List.getElem?_append_left (by rw [flat_len]; omega), flat_at hx hj, hu]
  · rw [(hget1 i b hi).1, (hget1 j c hj).1]
  · obtain ⟨rfl, rfl⟩ := hget1 i b hi
    simp only [if_true, Option.some.injEq] at hm
    subst hm
    exact hF
  · rw [hH i b hi] at hr; cases hr
  · obtain ⟨i, b, m, hi, hm, rfl⟩ := hk'
    obtain ⟨rfl, rfl⟩ := hget1 i b hi
    simp only [if_true, Option.some.injEq] at hm
    subst hm
    exact hown
theorem shift_flat {cur C vs A : List Value} {n i : Nat} (hC : cur.take (n * 5) = C) (hi : i < n) (hc : n * 5 ≤ cur.length) (hA : A = cur.take (i * 5 + 5) ++ (cur.drop (i * 5)).take ((n - i) * 5) ++ cur.drop (i * 5 + 5 + (n - i) * 5)) :
    A.take (i * 5) ++ vs ++ A.drop (i * 5 + 5) = C.take (i * 5) ++ vs ++ C.drop (i * 5) ++ cur.drop (i * 5 + 5 + (n - i) * 5) := by
  have hX : (cur.take (i * 5 + 5)).length = i * 5 + 5 := by rw [List.length_take]; omega
  have h1 : A.take (i * 5) = C.take (i * 5) := by
    rw [hA, List.append_assoc, List.take_append_of_le_length (by omega), List.take_take, ← hC, List.take_take]
    congr 1
    omega
  have h2 : A.drop (i * 5 + 5) = C.drop (i * 5) ++ cur.drop (i * 5 + 5 + (n - i) * 5) := by
    rw [hA, List.append_assoc, List.drop_left' hX, ← hC, List.drop_take]
    congr 3
    omega
  rw [h1, h2]
  simp only [List.append_assoc]
theorem grow_flat {cur C vs R0 A Z : List Value} {n i : Nat} (hC : cur.take (n * 5) = C) (hi : i < n) (hc : n * 5 ≤ cur.length) (hv : vs.length = 5) (hR : R0 = cur.take (i * 5) ++ Z)
    (hA : A = R0.take (i * 5) ++ vs ++ R0.drop (i * 5 + 5)) :
    A.take (i * 5 + 5) ++ (cur.drop (i * 5)).take ((n - i) * 5) ++ A.drop (i * 5 + 5 + (n - i) * 5) = C.take (i * 5) ++ vs ++ C.drop (i * 5) ++ A.drop (i * 5 + 5 + (n - i) * 5) := by
  have hX : (cur.take (i * 5)).length = i * 5 := by rw [List.length_take]; omega
  have h1 : R0.take (i * 5) = cur.take (i * 5) := by rw [hR, List.take_left' hX]
  have h2 : A.take (i * 5 + 5) = C.take (i * 5) ++ vs := by
    rw [hA, h1, List.take_left' (by rw [List.length_append, hX, hv]), ← hC, List.take_take, Nat.min_eq_left (by omega)]
  have h3 : (cur.drop (i * 5)).take ((n - i) * 5) = C.drop (i * 5) := by
    rw [← hC, List.drop_take]
    congr 1
    omega
  rw [h2, h3]
theorem insert_hc (l : List SlotT) (i : Nat) (s : SlotT) (hi : i ≤ l.length) (hl : l.length ≤ 1000000) : HeapC Try.prog G n_slices_Insert_api_Slot_api_Slot [.arr 1000 0 l.length, iv i, .arr 1001 0 1] [(1000, ⟨true, t_api_Slot, 5, l.map slotV⟩), (1001, ⟨true, t_api_Slot, 5, [slotV s]⟩)]
    (.arr 1000 0 (l.length + 1)) [(1000, ⟨true, t_api_Slot, 5, (insR l i s).map slotV⟩)] := by
  intro w F nm vs hg ha hB
  obtain ⟨hs, hr⟩ := ha
  obtain ⟨vl⟩ := vs
  match vl, hs with
  | [v0, v1, v2], _ =>
    have h0 := hr 0 _ v0 rfl rfl
    have h1 := hr 1 _ v1 rfl rfl
    have h2 := hr 2 _ v2 rfl rfl
    clear hr
    cases h1
    have hH : ∀ i b, hget [(1000, (⟨true, t_api_Slot, 5, l.map slotV⟩ : Box)), (1001, ⟨true, t_api_Slot, 5, [slotV s]⟩)] i = some b → b.row = true := fun i b hib => by
      simp only [hget] at hib
      split at hib
      · cases hib; rfl
      · split at hib
        · cases hib; rfl
        · cases hib
    cases h2 with
    | arr _ _ _ _ mv hiv hnv hpv =>
    rcases hB.box 1001 _ rfl with ⟨e, _⟩ | ⟨mv', e, hlv⟩
    · rw [hiv] at e; cases e
    rw [hiv] at e; cases e
    obtain ⟨a1, a2, _, _, vcur, hvh, hvsz, hvf⟩ := row_flat (l := [s]) (hlv.c (show 0 < 5 by decide))
    have hvs : ∀ (j : Nat) (v : Value), (slotCells s)[j]? = some v → vcur[j]? = some v := fun j v hj => by
      have hjl : j < 5 := by have := (List.getElem?_eq_some_iff.1 hj).1; rw [slotCells_len] at this; exact this
      have hvf' : vcur.toList.take 5 = slotCells s := by simpa using hvf
      rw [← hvf', List.getElem?_take, if_pos hjl, Array.getElem?_toList] at hj
      exact hj
    have h1v : ∀ v ∈ slotCells s, v.oneCell' = true := fun v hv => flat_one [s] v (by simpa using hv)
    have e1 : ∀ x : Nat, 0 * x = 0 := Nat.zero_mul
    obtain ⟨n, hn⟩ : ∃ n, n = l.length := ⟨_, rfl⟩
    rw [← hn] at h0 hi hl ⊢
    have hpk := insR_len (l := l) s (i := i) (by omega)
    rw [← hn] at hpk
    cases h0 with
    | arrE _ _ _ _ _ hk => omega
    | arrN =>
      obtain rfl : l = [] := List.length_eq_zero_iff.1 hn.symm
      obtain rfl : i = 0 := by omega
      rw [e1]
      refine (insert_end_grow none 0 0 mv.g (mv.cap - 0) t_api_Slot [] vcur (slotCells s) w (by omega) (by omega) (by omega) (fun _ => rfl) rfl (fun a h => by cases h) hvh (slotCells_len s) hvs h1v).mono ?_
      rintro e w' ⟨rfl, rfl⟩
      have key := insert_pack (w := w) (w' := w.drew.alloc (.cells (([] ++ slotCells s).toArray ++ Builtin.zeroCells zSlot.cells (grownCap w (0 + 1) 0 t_api_Slot - (0 + 1))) t_api_Slot)) (F := F) (nm := nm) (insR [] 0 s) w.heap.size (grownCap w (0 + 1) 0 t_api_Slot) (([] ++ slotCells s).toArray ++ Builtin.zeroCells zSlot.cells (grownCap w (0 + 1) 0 t_api_Slot - (0 + 1)))
        (Builtin.zeroCells zSlot.cells (grownCap w (0 + 1) 0 t_api_Slot - (0 + 1))).toList hg hH (by show (w.heap.push _)[w.heap.size]? = _; simp)
        (by have := grownCap_ge w (0 + 1) 0 t_api_Slot; simp only [Nat.zero_add] at this; simp [Builtin.zeroCells, zSlot, Value.cells, slotCells_len]; omega) (by rw [hpk]; exact grownCap_ge _ _ _ _) (grownCap_le_maxLen _ _ _ _ (by unfold maxLen; omega)) (by rw [hpk]; omega) (by simp [insR]) (.inl (Nat.le_refl _))
        (fun h => absurd (hg.1 _ h) (by omega)) ⟨rfl, rfl, rfl, by simp⟩ (fun k hk _ => Below.heap_alloc w _ k hk)
      rw [hpk] at key
      exact key
    | arr _ _ _ _ m hi0 hn0 hp0 =>
      rcases hB.box 1000 _ rfl with ⟨e, _⟩ | ⟨m', e, hlm⟩
      · rw [hi0] at e; cases e
      rw [hi0] at e; cases e
      obtain ⟨b1, b2, bm, bc, cur, hch, hcsz, hcf⟩ := row_flat (l := l) (hlm.c (show 0 < 5 by decide))
      have hne : mv.g ≠ m.g := fun e => absurd (hB.inj 1001 1000 _ _ mv m rfl rfl hiv hi0 e) (by decide)
      have hfr : ¬ F m.g := hB.fr 1000 _ m rfl hi0
      have hown : Own nm [(1000, (⟨true, t_api_Slot, 5, l.map slotV⟩ : Box)), (1001, ⟨true, t_api_Slot, 5, [slotV s]⟩)] m.g := ⟨1000, _, m, rfl, hi0, rfl⟩
      rw [← hn] at hcf bc
      have e2 : m.cap - 0 = m.cap := rfl
      have e3 : mv.cap - 0 = mv.cap := rfl
      rw [e1, e1, e2, e3]
      have hcl : (l.flatMap slotCells).length = n * 5 := by rw [flat_len, hn]
      have hcurl : cur.toList.length = m.cap * 5 := by rw [Array.length_toList, hcsz]
      have h1c : ∀ v ∈ cur.toList.take (n * 5), v.oneCell' = true := by rw [hcf]; exact flat_one l
      have hfl := insR_flat l i s
      by_cases hin : i < n
      · by_cases hroom : n + 1 ≤ m.cap
        · obtain ⟨A, hA⟩ : ∃ A, A = cur.toList.take (i * 5 + 5) ++ (cur.toList.drop (i * 5)).take ((n - i) * 5) ++ cur.toList.drop (i * 5 + 5 + (n - i) * 5) := ⟨_, rfl⟩
          have hsf := shift_flat (vs := slotCells s) hcf hin (by rw [hcurl]; omega) hA
          refine (insert_shift m.g n m.cap i mv.g mv.cap t_api_Slot t_api_Slot cur vcur (slotCells s) w hin hroom bm hne hch hcsz h1c hvh (slotCells_len s) hvs h1v A _ hA rfl).mono ?_
          rintro e w' ⟨rfl, rfl⟩
          have key := insert_pack (w := w) (F := F) (nm := nm) (w' := (w.drew.setRow m.g A.toArray).setRow m.g (A.take (i * 5) ++ slotCells s ++ A.drop (i * 5 + 5)).toArray) (insR l i s) m.g m.cap (A.take (i * 5) ++ slotCells s ++ A.drop (i * 5 + 5)).toArray (cur.toList.drop (i * 5 + 5 + (n - i) * 5)) hg hH
            (setRow_heap _ _ _ _ _ _ (setRow_heap w.drew _ _ _ _ _ hch)) (by rw [List.size_toArray, hsf, ← hfl, List.length_append, flat_len, hpk, List.length_drop, hcurl]; omega) (by rw [hpk]; exact hroom) bm (by rw [hpk]; omega) (by rw [hsf, hfl]) (.inr hown) hfr ⟨rfl, rfl, rfl, by simp⟩
            (fun k hk hno => by
              have hkm : k ≠ m.g := fun e => hno (e ▸ hown)
              rw [setRow_other _ _ _ _ hkm, setRow_other _ _ _ _ hkm]
              rfl)
          rw [hpk] at key
          exact key
        · obtain ⟨R0, hR⟩ : ∃ R0, R0 = ((cur.toList.take (i * 5)).toArray ++ Builtin.zeroCells zSlot.cells (n + 1 - i) ++ Builtin.zeroCells zSlot.cells (grownCap w (n + 1) m.cap t_api_Slot - (n + 1))).toList := ⟨_, rfl⟩
          obtain ⟨A, hA⟩ : ∃ A, A = R0.take (i * 5) ++ slotCells s ++ R0.drop (i * 5 + 5) := ⟨_, rfl⟩
          have hgf := grow_flat (n := n) (Z := (Builtin.zeroCells zSlot.cells (n + 1 - i) ++ Builtin.zeroCells zSlot.cells (grownCap w (n + 1) m.cap t_api_Slot - (n + 1))).toList) hcf hin (by rw [hcurl]; omega) (slotCells_len s) (by rw [hR]; simp) hA
          have hG := grownCap_ge w (n + 1) m.cap t_api_Slot
          have hRl : R0.length = grownCap w (n + 1) m.cap t_api_Slot * 5 := by
            rw [hR]
            simp [Builtin.zeroCells, zSlot, Value.cells]
            omega
          have hAl : A.length = grownCap w (n + 1) m.cap t_api_Slot * 5 := by
            rw [hA, List.length_append, List.length_append, slotCells_len, List.length_take, List.length_drop, hRl]
            omega
          refine (insert_grow m.g n m.cap i mv.g mv.cap t_api_Slot t_api_Slot cur vcur (slotCells s) w hin bc (by omega) hl hch (by rw [hcsz]; omega) h1c hvh (slotCells_len s) hvs h1v R0 A _ hR hA rfl).mono ?_
          rintro e w' ⟨rfl, rfl⟩
          have key := insert_pack (w := w) (F := F) (nm := nm) (w' := (((w.alloc (.cells R0.toArray t_api_Slot)).drew.setRow w.heap.size A.toArray).drew).setRow w.heap.size (A.take (i * 5 + 5) ++ (cur.toList.drop (i * 5)).take ((n - i) * 5) ++ A.drop (i * 5 + 5 + (n - i) * 5)).toArray) (insR l i s) w.heap.size (grownCap w (n + 1) m.cap t_api_Slot)
            (A.take (i * 5 + 5) ++ (cur.toList.drop (i * 5)).take ((n - i) * 5) ++ A.drop (i * 5 + 5 + (n - i) * 5)).toArray (A.drop (i * 5 + 5 + (n - i) * 5)) hg hH
            (setRow_heap _ _ A.toArray _ t_api_Slot _ (by show ((w.alloc (.cells R0.toArray t_api_Slot)).drew.setRow w.heap.size A.toArray).heap[w.heap.size]? = _; exact setRow_heap _ _ R0.toArray _ _ _ (by show (w.heap.push _)[w.heap.size]? = _; simp)))
            (by rw [List.size_toArray, hgf, ← hfl, List.length_append, flat_len, hpk, List.length_drop, hAl]; omega) (by rw [hpk]; exact hG) (grownCap_le_maxLen _ _ _ _ (by unfold maxLen; omega)) (by rw [hpk]; omega) (by rw [hgf, hfl]) (.inl (Nat.le_refl _))
            (fun h => absurd (hg.1 _ h) (by omega)) ⟨rfl, rfl, rfl, by simp⟩
            (fun k hk _ => by
              have hkm : k ≠ w.heap.size := by omega
              rw [setRow_other _ _ _ _ hkm]
              exact (setRow_other _ _ _ _ hkm).trans (Below.heap_alloc w _ k hk))
          rw [hpk] at key
          exact key
      · obtain rfl : i = n := by omega
        have hcd : (l.flatMap slotCells).take (i * 5) = l.flatMap slotCells := List.take_of_length_le (by omega)
        have hce : (l.flatMap slotCells).drop (i * 5) = [] := List.drop_of_length_le (by omega)
        rw [hcd, hce, List.append_nil] at hfl
        by_cases hroom : i + 1 ≤ m.cap
        · refine (insert_end_room m.g i m.cap mv.g mv.cap t_api_Slot t_api_Slot cur vcur (slotCells s) w hroom bm hch hcsz hvh (slotCells_len s) hvs h1v _ rfl).mono ?_
          rintro e w' ⟨rfl, rfl⟩
          have key := insert_pack (w := w) (F := F) (nm := nm) (w' := w.setRow m.g (cur.toList.take (i * 5) ++ slotCells s ++ cur.toList.drop (i * 5 + 5)).toArray) (insR l i s) m.g m.cap (cur.toList.take (i * 5) ++ slotCells s ++ cur.toList.drop (i * 5 + 5)).toArray (cur.toList.drop (i * 5 + 5)) hg hH
            (setRow_heap _ _ _ _ _ _ hch) (by rw [List.size_toArray, List.length_append, List.length_append, slotCells_len, List.length_take, List.length_drop, hcurl]; omega) (by rw [hpk]; exact hroom) bm (by rw [hpk]; omega) (by rw [hcf, hfl]) (.inr hown) hfr ⟨rfl, rfl, rfl, by simp⟩
            (fun k hk hno => by
              have hkm : k ≠ m.g := fun e => hno (e ▸ hown)
              exact setRow_other _ _ _ _ hkm)
          rw [hpk] at key
          exact key
        · refine (insert_end_grow (some ⟨m.g, 0, none⟩) i m.cap mv.g mv.cap t_api_Slot (l.flatMap slotCells) vcur (slotCells s) w bc (by omega) hl (fun h => by cases h) hcl (fun a h j v hj => by
            cases h
            rw [Addr.add_lit]
            rw [← hcf, List.getElem?_take] at hj
            split at hj
            · rw [Array.getElem?_toList] at hj
              simp [World.cell?, hch, hj]
            · cases hj) hvh (slotCells_len s) hvs h1v).mono ?_
          rintro e w' ⟨rfl, rfl⟩
          have hG := grownCap_ge w (i + 1) m.cap t_api_Slot
          have key := insert_pack (w := w) (F := F) (nm := nm) (w' := w.drew.alloc (.cells ((l.flatMap slotCells ++ slotCells s).toArray ++ Builtin.zeroCells zSlot.cells (grownCap w (i + 1) m.cap t_api_Slot - (i + 1))) t_api_Slot)) (insR l i s) w.heap.size (grownCap w (i + 1) m.cap t_api_Slot)
            ((l.flatMap slotCells ++ slotCells s).toArray ++ Builtin.zeroCells zSlot.cells (grownCap w (i + 1) m.cap t_api_Slot - (i + 1))) (Builtin.zeroCells zSlot.cells (grownCap w (i + 1) m.cap t_api_Slot - (i + 1))).toList hg hH (by show (w.heap.push _)[w.heap.size]? = _; simp)
            (by simp only [Array.size_append, List.size_toArray, List.length_append, hcl, slotCells_len]; simp [Builtin.zeroCells, zSlot, Value.cells]; omega) (by rw [hpk]; exact hG) (grownCap_le_maxLen _ _ _ _ (by unfold maxLen; omega)) (by rw [hpk]; omega) (by rw [hfl]; simp) (.inl (Nat.le_refl _))
            (fun h => absurd (hg.1 _ h) (by omega)) ⟨rfl, rfl, rfl, by simp⟩ (fun k hk _ => Below.heap_alloc w _ k hk)
          rw [hpk] at key
          exact key
end Go.Proofs.Ytjkdpahaingjjaa.Ab
