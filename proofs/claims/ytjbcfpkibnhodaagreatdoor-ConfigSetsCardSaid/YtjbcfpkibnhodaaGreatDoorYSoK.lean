/-
  slices.SortFunc's contract: a world that has grown. slices.SortFunc at elements of several cells: the contract. No claim is proved here.
-/
import Derived.Test.YtjbcfpkibnhodaaGreatDoorYAcR1
import Derived.Shelf.SlSortCmp.Whole1
import Derived.Test.YtjbcfpkibnhodaaGreatDoorYOd1
import Derived.Test.YtjbcfpkibnhodaaGreatDoorYDrw
import Derived.Test.YtjbcfpkibnhodaaGreatDoorYAbTrod
import Derived.Shelf.SlSortCmp.NoneTotal
namespace Go.Proofs.YtjbcfpkibnhodaaGreatDoor.Ab
open Go Go.RowKit
theorem grown_of {w w' : World} (h : Below w.heap.size w w') (hd : w.drawn ≤ w'.drawn) : ∃ q os', w' = Sort.grow (w.drewN q) os' := by
  refine ⟨w'.drawn - w.drawn, w'.heap.extract w.heap.size w'.heap.size, ?_⟩
  have hh : w'.heap = w.heap ++ w'.heap.extract w.heap.size w'.heap.size := by
    apply Array.ext_getElem?
    intro k
    rw [Array.getElem?_append]
    split
    · rename_i hk
      exact h.block k hk
    · rename_i hk
      rw [Array.getElem?_extract]
      have := h.size
      split
      · congr 1
        omega
      · rw [Array.getElem?_eq_none (by omega)]
  obtain ⟨h1, h2, h3, h4, _⟩ := h
  obtain ⟨hp, tp, dr, os, out⟩ := w'
  obtain ⟨hp0, tp0, dr0, os0, out0⟩ := w
  simp only at *
  subst h1 h2 h3
  unfold Sort.grow World.drewN
  simp only [World.mk.injEq, true_and, and_true]
  exact ⟨hh, by omega⟩
theorem sortWorld_at {α : Type} [Inhabited α] (enc : α → Value) (w : World) (blk m : Nat) (dk : Array α) (os : Array Obj) (k : Nat) (hk : k < w.heap.size) : (sortWorld enc w blk 0 m dk os).heap[k]? = if k = blk then (w.heap[k]?).map (Sort.onCells (Sort.putCells enc 0 dk)) else w.heap[k]? := by
  unfold sortWorld Sort.grow Sort.putRow Sort.mapBlock Sort.ahead
  simp only
  rw [Array.getElem?_append_left (by simpa using hk), Array.getElem?_modify]
  by_cases e : blk = k
  · rw [if_pos e, if_pos e.symm]
  · rw [if_neg e, if_neg fun h => e h.symm]
theorem sortWorld_size {α : Type} [Inhabited α] (enc : α → Value) (w : World) (blk m : Nat) (dk : Array α) (os : Array Obj) : w.heap.size ≤ (sortWorld enc w blk 0 m dk os).heap.size := by
  unfold sortWorld Sort.grow Sort.putRow Sort.mapBlock Sort.ahead
  simp
theorem rd_arr_pos {w : World} {F : Nat → Prop} {nm : Names} {i n : Nat} {v : Value} (h : Rd w F nm (.arr i 0 n) v) (h0 : 0 < n) : ∃ m, nm i = some m ∧ n ≤ m.cap ∧ v = .slice (some ⟨m.g, 0, none⟩) n m.cap := by
  generalize hk : (0 : Nat) = k at h
  cases h with
  | arr _ _ _ _ m hi hn hp => subst hk; exact ⟨m, hi, by omega, by simp⟩
  | arrE _ _ _ _ _ hk2 => omega
  | arrN => omega
end Go.Proofs.YtjbcfpkibnhodaaGreatDoor.Ab
namespace Go.Proofs.YtjbcfpkibnhodaaGreatDoor.Ab
open Go Go.RowKit
set_option linter.unusedSimpArgs false
set_option maxHeartbeats 4000000
set_option maxRecDepth 100000
variable {G : Nat → Option AV}
section
variable {P : Program} {ρ : Go.Shelf.Ren} {α : Type}
abbrev ElK (e : α → AV) (k : Nat) (okX : α → Prop) (w : World) (F : Nat → Prop) : Type :=
  {p : List Value × α // Rd w F noNames (e p.2) (.agg p.1.toArray) ∧ p.1.length = k ∧ (∀ v ∈ p.1, v.oneCell' = true) ∧ okX p.2}
theorem elK_lt {e : α → AV} {k : Nat} {okX : α → Prop} {lt : α → α → Bool} {cf : α → α → Int} (hcf : ∀ x y, okX x → okX y → decide (cf x y < 0) = lt x y) {w : World} {F : Nat → Prop} (x y : ElK e k okX w F) : ltOf (fun (x y : ElK e k okX w F) => cf x.1.2 y.1.2) x y = lt x.1.2 y.1.2 := hcf _ _ x.2.2.2.2 y.2.2.2.2
theorem elK_swo [DecidableEq α] {e : α → AV} {k : Nat} {okX : α → Prop} {lt : α → α → Bool} (T : TO lt okX) {cf : α → α → Int} (hcf : ∀ x y, okX x → okX y → decide (cf x y < 0) = lt x y) (w : World) (F : Nat → Prop) : Sort.SWO (ltOf fun (x y : ElK e k okX w F) => cf x.1.2 y.1.2) := by
  refine ⟨fun x => ?_, fun x y z h1 h2 => ?_, fun x y z h1 h2 => ?_⟩
  · rw [elK_lt hcf]; exact T.irr _
  · rw [elK_lt hcf] at *; exact T.trans h1 h2
  · rw [elK_lt hcf] at *; exact T.ntrans x.2.2.2.2 y.2.2.2.2 h1 h2
structure SortPostK (e : α → AV) (lt : α → α → Bool) (row : Bool) (ty k : Nat) (w : World) (F : Nat → Prop) (nm : Names) (l : List α) (w' : World) : Prop where
  hb : HB w' F nm [(1000, ⟨row, ty, k, (sortO lt l).map e⟩)]
  keep : w'.os = w.os ∧ w'.tape = w.tape ∧ w'.output = w.output ∧ w.heap.size ≤ w'.heap.size
  blk : ∀ j, j < w.heap.size → ¬ Own nm [(1000, (⟨row, ty, k, l.map e⟩ : Box))] j → w'.heap[j]? = w.heap[j]?
theorem sortK_calls [DecidableEq α] (L : Go.Proofs.SlLaysF0.n6 P ρ) {k : Nat} (hk0 : 0 < k) (aE : ∀ w, (isAgg (ρ.t 24)).run P w = .ok true w) (zE : ∀ w, (Go.sizeOf (ρ.t 24)).run P w = .ok k w)
    {e : α → AV} {ce : α → List AV} (he : ∀ x, e x = .agg (ce x)) (hce : ∀ x, (ce x).length = k) (hcl : ∀ x, clean.go (ce x) = true) {lt : α → α → Bool} {okX : α → Prop} (T : TO lt okX) (cf : α → α → Int) (hcf : ∀ x y, okX x → okX y → decide (cf x y < 0) = lt x y)
    {g : Nat} (eg : ∀ args w, (callFunc g args).run P w = .ok (.enter g args) w) (hpc : ∀ x y, okX x → okX y → PureC P G g [e x, e y] (iv (cf x y))) (row : Bool) (ty : Nat)
    (l : List α) (h0 : 0 < l.length) (hl : l.length ≤ 1000000) (hx : ∀ x ∈ l, okX x) {w : World} {F : Nat → Prop} {nm : Names} {m : Nm} (hg : Good w F G) (hi : nm 1000 = some m) (hB : HB w F nm [(1000, ⟨row, ty, k, l.map e⟩)]) :
    Calls P (ρ.f 6) #[.slice (some ⟨m.g, 0, none⟩) l.length m.cap, .func (.func g) #[] #[]] w fun e' w' => e' = .returned (.tuple #[]) ∧ SortPostK e lt row ty k w F nm l w' := by
    rcases hB.box 1000 _ rfl with ⟨hn, _⟩ | ⟨m', hm', hlies⟩
    · rw [hi] at hn; cases hn
    rw [hi] at hm'; cases hm'
    obtain ⟨h1, h2, h3, cs, h4, h5, h6, h7, h8, h9⟩ := hlies.c hk0
    have hFr : ¬ F m.g := hB.fr 1000 _ m rfl hi
    have hblk : m.g < w.heap.size := (Array.getElem?_eq_some_iff.1 h4).1
    have h1' : m.sz = k := h1
    have h6' : l.length ≤ m.cap := by simpa using h6
    have hcs : cs.size = m.cap * k := by rw [h5, h1']
    have hel : ∀ (j : Nat) (x : α) (q : Nat) (c : AV), l[j]? = some x → (ce x)[q]? = some c → ∃ u, cs[j * k + q]? = some u ∧ u.oneCell' = true ∧ Rd w F noNames c u := fun j x q c hj hc => by
      obtain ⟨u, a1, a2, a3⟩ := h9 j (e x) q c (by show (l.map e)[j]? = _; rw [List.getElem?_map, hj]; rfl) (by rw [he]; exact hc)
      rw [h1'] at a1
      have hcc := clean.go_at (hcl x) q c hc
      refine ⟨u, a1, a2, ?_⟩
      dsimp only at a3
      split at a3
      · exact a3
      · exact a3.clean hcc
    have hex : ∀ j, j < l.length → ∃ el : ElK e k okX w F, (∀ q, q < k → cs[j * k + q]? = some (el.1.1[q]!)) ∧ l[j]? = some el.1.2 := fun j hj => by
      obtain ⟨x, hxj, hxm⟩ := od_some hj
      have hq : ∀ q : Fin k, ∃ u, cs[j * k + q.1]? = some u ∧ u.oneCell' = true ∧ ∀ c, (ce x)[q.1]? = some c → Rd w F noNames c u := fun q => by
        have hlt : q.1 < (ce x).length := by rw [hce]; exact q.2
        obtain ⟨u, a1, a2, a3⟩ := hel j x q.1 _ hxj (List.getElem?_eq_getElem hlt)
        exact ⟨u, a1, a2, fun c hc => by rw [List.getElem?_eq_getElem hlt] at hc; cases hc; exact a3⟩
      have hspec := fun q : Fin k => Classical.choose_spec (hq q)
      generalize hch : (fun q : Fin k => Classical.choose (hq q)) = ch at *
      have hchq : ∀ q, Classical.choose (hq q) = ch q := fun q => by rw [← hch]
      simp only [hchq] at hspec
      refine ⟨⟨(List.ofFn ch, x), ?_, by simp, ?_, hx x hxm⟩, fun q hqk => ?_, hxj⟩
      · show Rd w F noNames (e x) _
        rw [he]
        refine .agg _ _ _ (by rw [List.length_ofFn, hce]) fun q c u hc hu => ?_
        have hqk : q < k := by have := (List.getElem?_eq_some_iff.1 hc).1; rwa [hce] at this
        rw [List.getElem?_eq_getElem (by simpa using hqk), List.getElem_ofFn] at hu
        cases hu
        exact (hspec ⟨q, hqk⟩).2.2 c hc
      · intro v hv
        obtain ⟨q, rfl⟩ := (List.mem_ofFn).1 hv
        exact (hspec q).2.1
      · show cs[j * k + q]? = some ((List.ofFn ch)[q]!)
        rw [getElem!_pos (List.ofFn ch) q (by simpa using hqk), List.getElem_ofFn]
        exact (hspec ⟨q, hqk⟩).1
    haveI : Inhabited (ElK e k okX w F) := ⟨Classical.choose (hex 0 h0)⟩
    obtain ⟨d, hds, hd⟩ : ∃ d : Array (ElK e k okX w F), d.size = l.length ∧ ∀ j, j < l.length → (∀ q, q < k → cs[j * k + q]? = some ((d[j]!).1.1[q]!)) ∧ l[j]? = some (d[j]!).1.2 := by
      refine ⟨Array.ofFn (n := l.length) fun j => Classical.choose (hex j.1 j.2), by simp, fun j hj => ?_⟩
      have := Classical.choose_spec (hex j hj)
      rw [getElem!_pos _ j (by simpa using hj), Array.getElem_ofFn]
      exact this
    have hdl : d.toList.map (fun x => x.1.2) = l := by
      apply List.ext_getElem?
      intro j
      rw [List.getElem?_map]
      by_cases hj : j < l.length
      · have := (hd j hj).2
        rw [this, Array.getElem?_toList, Array.getElem?_eq_getElem (by omega), getElem!_pos d j (by omega)]
        rfl
      · rw [List.getElem?_eq_none (by simpa using by omega), List.getElem?_eq_none (by omega)]
        rfl
    have eqW : ∀ (mm : Nat) (dk : Array (ElK e k okX w F)) (os : Array Obj), sortWorldK (fun x : ElK e k okX w F => x.1.1) k w m.g 0 mm dk os = sortWorld id w m.g 0 mm (Sort.flatK (fun x : ElK e k okX w F => x.1.1) k dk) os := fun _ _ _ => rfl
    -- in each world of the sort's
    have hFW : ∀ (mm : Nat) (os : Array Obj) (dk : Array (ElK e k okX w F)), ∀ b, F b → (sortWorldK (fun x : ElK e k okX w F => x.1.1) k w m.g 0 mm dk os).heap[b]? = w.heap[b]? := fun mm os dk b hb => by
      rw [eqW, sortWorld_at _ _ _ _ _ _ _ (hg.1 b hb), if_neg fun (e : b = m.g) => hFr (by rw [← e]; exact hb)]
    have hcmp : CmpLays P g #[] (fun x : ElK e k okX w F => x.1.1) k (fun x y => cf x.1.2 y.1.2) m.g 0 d.size w := fun mm os dk hdk x y => by
      have hW : w.heap.size ≤ (sortWorldK (fun x : ElK e k okX w F => x.1.1) k w m.g 0 mm dk os).heap.size := by rw [eqW]; exact sortWorld_size _ _ _ _ _ _
      have hFw := hFW mm os dk
      generalize sortWorldK (fun x : ElK e k okX w F => x.1.1) k w m.g 0 mm dk os = W at *
      have hgW : Good W F G := hg.mono hFw (fun _ h => h) fun b hb => Nat.lt_of_lt_of_le (hg.1 b hb) hW
      have hp := hpc x.1.2 y.1.2 x.2.2.2.2 y.2.2.2.2 W F #[.agg x.1.1.toArray, .agg y.1.1.toArray] hgW (argsR_cons (x.2.1.mono hFw fun _ h => h) (argsR_cons (y.2.1.mono hFw fun _ h => h) argsR_nil))
      refine (Drw.calls_drawn hp fun w' ⟨v, F', h, _⟩ => by cases h).mono ?_
      rintro e' w' ⟨⟨v, F', rfl, _, _, _, hrv, hb⟩, hdr⟩
      cases hrv
      exact ⟨rfl, grown_of hb hdr⟩
    have idx : ∀ t, t < l.length * k → t / k < l.length ∧ t % k < k ∧ t / k * k + t % k = t := fun t ht => by
      refine ⟨?_, Nat.mod_lt _ hk0, Nat.div_add_mod' t k⟩
      rw [Nat.div_lt_iff_lt_mul hk0]; exact ht
    have hH : Sort.HoldsK (fun x : ElK e k okX w F => x.1.1) k w m.g 0 d := fun t ht => by
      rw [Sort.size_flatK, hds] at ht
      obtain ⟨i1, i2, i3⟩ := idx t ht
      have := (hd (t / k) i1).1 (t % k) i2
      rw [i3] at this
      rw [Sort.get_flatK _ _ _ _ (by rw [hds]; exact ht)]
      refine ⟨?_, ?_⟩
      · simp only [World.cell?, h4, Nat.zero_add]
        simpa using this
      · simp [World.frozen?, h4]
    have main := AnyQ.slices_SortFunc (P := P) (ρ := ρ) L k aE zE (fun x : ElK e k okX w F => x.1.1) (fun x => x.2.2.1) (fun x => x.2.2.2.1) (fun x y => cf x.1.2 y.1.2) (elK_swo T hcf w F) g #[] m.g 0 m.cap d w eg hcmp hH hblk (by omega)
    rw [hds] at main
    refine Calls.mono main ?_
    rintro e' w' ⟨rfl, d', nn, os, hp, hsrt, rfl⟩
    have hds' : d'.size = l.length := hp.1.trans hds
    have hperm : (d'.toList.map fun x => x.1.2).Perm l := by
      have := hp.2.2
      rw [Array.extract_eq_self_of_le (by omega), Array.extract_eq_self_of_le (by omega)] at this
      rw [← hdl]
      exact this.map _
    have hsorted : (d'.toList.map fun x => x.1.2).Pairwise fun a b => lt b a = false := by
      rw [List.pairwise_map, List.pairwise_iff_getElem]
      intro i j hi' hj' hij
      have hj2 : j < l.length := by rw [← hds']; simpa using hj'
      have := hsrt i j (Nat.zero_le _) hij hj2
      rw [elK_lt hcf] at this
      rw [getElem!_pos d' i (by omega), getElem!_pos d' j (by omega)] at this
      simpa using this
    have hsb : (d'.toList.map fun x => x.1.2) = sortO lt l := T.sorted_uniq (hperm.trans (sortO_perm lt l).symm) (fun x h => hx x (hperm.subset h)) hsorted (T.sortO_sorted fun x h => hx x h)
    have hW : w.heap.size ≤ (sortWorldK (fun x : ElK e k okX w F => x.1.1) k w m.g 0 nn d' os).heap.size := by rw [eqW]; exact sortWorld_size _ _ _ _ _ _
    have hFw := hFW nn os d'
    have hat : ∀ j, j < w.heap.size → j ≠ m.g → (sortWorldK (fun x : ElK e k okX w F => x.1.1) k w m.g 0 nn d' os).heap[j]? = w.heap[j]? := fun j hj hne => by
      rw [eqW, sortWorld_at _ _ _ _ _ _ _ hj, if_neg hne]
    have hrow : (sortWorldK (fun x : ElK e k okX w F => x.1.1) k w m.g 0 nn d' os).heap[m.g]? = some (.cells (Sort.putCells id 0 (Sort.flatK (fun x : ElK e k okX w F => x.1.1) k d') cs) m.ty (0, 0)) := by
      rw [eqW, sortWorld_at _ _ _ _ _ _ _ hblk, if_pos rfl, h4]
      rfl
    have hkeep : (sortWorldK (fun x : ElK e k okX w F => x.1.1) k w m.g 0 nn d' os).os = w.os ∧ (sortWorldK (fun x : ElK e k okX w F => x.1.1) k w m.g 0 nn d' os).tape = w.tape ∧ (sortWorldK (fun x : ElK e k okX w F => x.1.1) k w m.g 0 nn d' os).output = w.output := ⟨rfl, rfl, rfl⟩
    generalize sortWorldK (fun x : ElK e k okX w F => x.1.1) k w m.g 0 nn d' os = W at *
    have hget1 : ∀ (L : List AV) i b, hget [(1000, (⟨row, ty, k, L⟩ : Box))] i = some b → i = 1000 ∧ b = ⟨row, ty, k, L⟩ := fun L i b hi => by
      simp only [hget] at hi
      split at hi
      · rename_i e; cases hi; exact ⟨e.symm, rfl⟩
      · cases hi
    have own : Own nm [(1000, (⟨row, ty, k, l.map e⟩ : Box))] m.g := ⟨1000, _, m, rfl, hi, rfl⟩
    refine ⟨rfl, ⟨fun i b hi' => ?_, fun i j b c m1 m2 hi' hj' _ _ _ => ?_, fun i b m1 hi' hm1 => ?_⟩, ⟨hkeep.1, hkeep.2.1, hkeep.2.2, hW⟩, fun j hj hno => hat j hj fun e => hno (e ▸ own)⟩
    · obtain ⟨rfl, rfl⟩ := hget1 _ i b hi'
      refine .inr ⟨m, hi, .inl ⟨h1, h2, hk0, _, hrow, ?_, ?_, h7, fun x hx => ?_, fun j x q c hx hc => ?_⟩⟩
      · rw [h1', ← hcs]
        simp [Sort.putCells]
      · show ((sortO lt l).map e).length ≤ m.cap
        rw [List.length_map, (sortO_perm lt l).length_eq]
        exact h6'
      · obtain ⟨s, _, rfl⟩ := List.mem_map.1 hx
        rw [he]
        exact hce s
      · have hx : ((sortO lt l).map e)[j]? = some x := hx
        rw [← hsb, List.map_map, List.getElem?_map, Array.getElem?_toList] at hx
        obtain ⟨y, hy', rfl⟩ := Option.map_eq_some_iff.1 hx
        have hkd := (Array.getElem?_eq_some_iff.1 hy').1
        have hyc : (ce y.1.2)[q]? = some c := by
          have : (e y.1.2).cells[q]? = some c := hc
          rw [he] at this
          exact this
        have hqk : q < k := by have := (List.getElem?_eq_some_iff.1 hyc).1; rwa [hce] at this
        have hqy : q < y.1.1.length := by rw [y.2.2.1]; exact hqk
        have hlt : j * k + q < l.length * k := by
          have := Nat.mul_le_mul_right k (show j + 1 ≤ l.length by omega)
          rw [Nat.add_mul, Nat.one_mul] at this
          omega
        have hcm : l.length * k ≤ m.cap * k := Nat.mul_le_mul_right k h6'
        have hry := y.2.1
        rw [he] at hry
        have hrd : Rd w F noNames c (y.1.1[q]) := by
          cases hry with
          | agg _ _ us hl' hh => exact hh q c _ hyc (by rw [List.getElem?_eq_getElem hqy])
        refine ⟨y.1.1[q], ?_, y.2.2.2.1 _ (List.getElem_mem hqy), ?_⟩
        · rw [h1']
          unfold Sort.putCells
          rw [Array.getElem?_mapIdx, Array.getElem?_eq_getElem (by omega)]
          simp only [Option.map_some, Nat.zero_le, Nat.zero_add, true_and, Nat.sub_zero, Sort.size_flatK, id]
          rw [if_pos (by rw [hds']; exact hlt), Sort.get_flatK _ _ _ _ (by rw [hds']; exact hlt)]
          have e1 : (j * k + q) / k = j := (Sort.blk_iff k j _ hk0).1 ⟨by omega, by omega⟩
          have e2 : (j * k + q) % k = q := by rw [Nat.mod_eq_sub_div_mul, e1]; omega
          rw [e1, e2, getElem!_pos d' j hkd, (Array.getElem?_eq_some_iff.1 hy').2, getElem!_pos y.1.1 q hqy]
        · have := (hrd.mono hFw fun _ h => h)
          dsimp only
          split
          · exact this
          · exact this.any nm
    · rw [(hget1 _ i b hi').1, (hget1 _ j c hj').1]
    · obtain ⟨rfl, rfl⟩ := hget1 _ i b hi'
      rw [hi] at hm1; cases hm1
      exact hFr
theorem sortK_hc [DecidableEq α] (L : Go.Proofs.SlLaysF0.n6 P ρ) {k : Nat} (hk0 : 0 < k) (aE : ∀ w, (isAgg (ρ.t 24)).run P w = .ok true w) (zE : ∀ w, (Go.sizeOf (ρ.t 24)).run P w = .ok k w)
    {e : α → AV} {ce : α → List AV} (he : ∀ x, e x = .agg (ce x)) (hce : ∀ x, (ce x).length = k) (hcl : ∀ x, clean.go (ce x) = true) {lt : α → α → Bool} {okX : α → Prop} (T : TO lt okX) (cf : α → α → Int) (hcf : ∀ x y, okX x → okX y → decide (cf x y < 0) = lt x y)
    {g : Nat} (eg : ∀ args w, (callFunc g args).run P w = .ok (.enter g args) w) (hpc : ∀ x y, okX x → okX y → PureC P G g [e x, e y] (iv (cf x y))) (ty : Nat)
    (l : List α) (h0 : 0 < l.length) (hl : l.length ≤ 1000000) (hx : ∀ x ∈ l, okX x) :
    HeapC P G (ρ.f 6) [.arr 1000 0 l.length, .fn g []] [(1000, ⟨false, ty, k, l.map e⟩)] (.tup []) [(1000, ⟨false, ty, k, (sortO lt l).map e⟩)] := by
  intro w F nm vs hg ha hB
  obtain ⟨hs, hr⟩ := ha
  obtain ⟨vl⟩ := vs
  match vl, hs with
  | [u, f], _ =>
    have hu := hr 0 _ u rfl rfl
    have hf := hr 1 _ f rfl rfl
    obtain ⟨m, hi, hcap, rfl⟩ := rd_arr_pos hu h0
    obtain rfl : f = .func (.func g) #[] #[] := by
      cases hf with
      | fn _ _ _ us hl' h' =>
        obtain rfl : us = [] := List.eq_nil_of_length_eq_zero (by simpa using hl'.symm)
        rfl
    refine (sortK_calls L hk0 aE zE he hce hcl T cf hcf eg hpc false ty l h0 hl hx hg hi hB).mono ?_
    rintro e' w' ⟨rfl, h1⟩
    have own : ∀ k', Own nm [(1000, (⟨false, ty, k, (sortO lt l).map e⟩ : Box))] k' → Own nm [(1000, (⟨false, ty, k, l.map e⟩ : Box))] k' := fun k' ⟨i, b, m, hi, hm, e2⟩ => by
      simp only [hget] at hi
      split at hi
      · rename_i e3
        subst e3
        exact ⟨1000, _, m, rfl, hm, e2⟩
      · cases hi
    refine ⟨_, F, nm, rfl, fun _ h => h, fun _ h => .inl h, fun b hb => Nat.lt_of_lt_of_le (hg.1 b hb) h1.keep.2.2.2, .tup _ [] [] rfl (by simp), h1.hb, fun i b hi' hrow => ⟨rfl, fun b' hb' => ?_⟩, fun k' hk' => .inr (own k' hk'), h1.keep, h1.blk⟩
    simp only [hget] at hb'
    split at hb'
    · cases hb'; rfl
    · cases hb'
theorem sortK_none (L : Go.Proofs.SlLaysF0.n6 P ρ) (sz g : Nat) : PureC P G (ρ.f 6) [.seq sz [], .fn g []] (.tup []) := by
  intro w F vs hg ha
  obtain ⟨hs, hr⟩ := ha
  obtain ⟨vl⟩ := vs
  match vl, hs with
  | [u, f], _ =>
    have hu := hr 0 _ u rfl rfl
    have hu' : ∃ p cap, u = .slice p 0 cap := by
      generalize hz : AV.seq sz [] = z at hu
      cases hu <;> cases hz
      · exact ⟨_, _, rfl⟩
      · exact ⟨_, _, rfl⟩
    obtain ⟨p, cap, rfl⟩ := hu'
    refine (AnyF.slices_SortFunc_none (P := P) (ρ := ρ) L p cap f w).mono ?_
    rintro e' w' ⟨rfl, rfl⟩
    exact ⟨_, F, rfl, fun _ h => h, fun _ h => .inl h, fun b hb => hg.1 b hb, .tup _ [] [] rfl (by simp), Below.refl _ _⟩
end
end Go.Proofs.YtjbcfpkibnhodaaGreatDoor.Ab
