/-
  DERIVED: THE SHELF's CONTRACTS AT THIS DUMP, IN PLAIN WORDS (tools/lay-plain.mjs out of 'TryShelfS.lean', which tools/lay-shelf.mjs wrote): THE SAME DECLARATIONS UNDER THE SAME NAMES: 'import', 'namespace', 'open', 'def', 'theorem' AND NOTHING ELSE: no command of the shelf's: FOR A HAND-IN. Each laying: the table of numbers ('.._ren') and one theorem, a field a fact of the dump's own or the kernel's comparison; each contract: ONE APPLICATION. slices.SortFunc at bindings: the contract. binding.order: the contract. No claim is proved here.
-/
import Derived.Shelf.SlLaysF
import Derived.Shelf.SlGeneric
import Derived.Test.YtjkdpahaingjjaaProg
import Derived.Test.YtjkdpahaingjjaaYSo1
import Derived.Test.YtjkdpahaingjjaaYMo3
import Derived.Test.YtjkdpahaingjjaaYDrw
import Derived.Shelf.SlSortCmp.Whole1
import Derived.Shelf.SlSortCmp.NoneTotal
import Derived.Deep.Cut
import Derived.Outline
import Derived.WalkSpells
import Derived.Lib.Walk
namespace Go.Proofs
open Go.Shelf
def Try.sortSl_ren : Go.Shelf.Ren := ⟨fun | 6 => 54 | 15 => 68 | 14 => 67 | 28 => 78 | 29 => 79 | 20 => 70 | 21 => 71 | 22 => 72 | 23 => 73 | 24 => 74 | 25 => 75 | 26 => 76 | 27 => 77 | 46 => 81 | 47 => 82 | 48 => 83 | 49 => 84 | 50 => 85 | 57 => 86 | n => n, fun | 22 => 30 | 24 => 22 | 25 => 71 | 3 => 3 | 39 => 84 | 0 => 0 | 53 => 94 | 55 => 57 | 4 => 4 | 46 => 88 | 45 => 87 | 50 => 62 | 5 => 5 | 9 => 9 | 66 => 97 | 70 => 101 | 76 => 103 | 77 => 104 | n => n, fun | n => n⟩
theorem Try.sortSl : Go.Proofs.SlLaysF.n6 Try.prog Try.sortSl_ren := {
  mixed := by kernel_rfl
  f6 := ⟨Try.f54.name, by decide, Try.func54.trans (congrArg some (by kernel_rfl))⟩
  f14 := ⟨Try.f67.name, by decide, Try.func67.trans (congrArg some (by kernel_rfl))⟩
  f15 := Try.func68.trans (congrArg some (by kernel_rfl))
  f20 := ⟨Try.f70.name, by decide, Try.func70.trans (congrArg some (by kernel_rfl))⟩
  f21 := ⟨Try.f71.name, by decide, Try.func71.trans (congrArg some (by kernel_rfl))⟩
  f22 := ⟨Try.f72.name, by decide, Try.func72.trans (congrArg some (by kernel_rfl))⟩
  f23 := ⟨Try.f73.name, by decide, Try.func73.trans (congrArg some (by kernel_rfl))⟩
  f24 := ⟨Try.f74.name, by decide, Try.func74.trans (congrArg some (by kernel_rfl))⟩
  f25 := ⟨Try.f75.name, by decide, Try.func75.trans (congrArg some (by kernel_rfl))⟩
  f26 := ⟨Try.f76.name, by decide, Try.func76.trans (congrArg some (by kernel_rfl))⟩
  f27 := ⟨Try.f77.name, by decide, Try.func77.trans (congrArg some (by kernel_rfl))⟩
  f28 := Try.func78.trans (congrArg some (by kernel_rfl))
  f29 := Try.func79.trans (congrArg some (by kernel_rfl))
  f46 := ⟨Try.f81.name, by decide, Try.func81.trans (congrArg some (by kernel_rfl))⟩
  f47 := Try.func82.trans (congrArg some (by kernel_rfl))
  f48 := Try.func83.trans (congrArg some (by kernel_rfl))
  f49 := ⟨Try.f84.name, by decide, Try.func84.trans (congrArg some (by kernel_rfl))⟩
  f50 := ⟨Try.f85.name, by decide, Try.func85.trans (congrArg some (by kernel_rfl))⟩
  f57 := ⟨Try.f86.name, by decide, Try.func86.trans (congrArg some (by kernel_rfl))⟩
  t0 := Try.underlying0
  a0 := Try.isAgg0
  z0 := Try.sizeOf0
  v0 := Try.zeroValue0
  t3 := Try.underlying3
  a3 := Try.isAgg3
  z3 := Try.sizeOf3
  v3 := Try.zeroValue3
  t4 := Try.underlying4
  a4 := Try.isAgg4
  z4 := Try.sizeOf4
  v4 := Try.zeroValue4
  t5 := Try.underlying5
  a5 := Try.isAgg5
  z5 := Try.sizeOf5
  v5 := Try.zeroValue5
  t9 := Try.underlying9
  a9 := Try.isAgg9
  z9 := Try.sizeOf9
  v9 := Try.zeroValue9
  t22 := Try.underlying30
  a22 := Try.isAgg30
  z22 := Try.sizeOf30
  v22 := Try.zeroValue30
  a24 := Try.isAgg22
  z24 := Try.sizeOf22
  t25 := Try.underlying71
  a25 := Try.isAgg71
  z25 := Try.sizeOf71
  v25 := Try.zeroValue71
  t39 := Try.underlying84
  a39 := Try.isAgg84
  z39 := Try.sizeOf84
  v39 := Try.zeroValue84
  t45 := Try.underlying87
  a45 := Try.isAgg87
  z45 := Try.sizeOf87
  v45 := Try.zeroValue87
  t46 := Try.underlying88
  a46 := Try.isAgg88
  z46 := Try.sizeOf88
  v46 := Try.zeroValue88
  t50 := Try.underlying62
  a50 := Try.isAgg62
  z50 := Try.sizeOf62
  v50 := Try.zeroValue62
  t53 := Try.underlying94
  a53 := Try.isAgg94
  z53 := Try.sizeOf94
  v53 := Try.zeroValue94
  t55 := Try.underlying57
  a55 := Try.isAgg57
  z55 := Try.sizeOf57
  v55 := Try.zeroValue57
  t66 := Try.underlying97
  a66 := Try.isAgg97
  z66 := Try.sizeOf97
  v66 := Try.zeroValue97
  t70 := Try.underlying101
  a70 := Try.isAgg101
  z70 := Try.sizeOf101
  v70 := Try.zeroValue101
  t76 := Try.underlying103
  a76 := Try.isAgg103
  z76 := Try.sizeOf103
  v76 := Try.zeroValue103
  t77 := Try.underlying104
  a77 := Try.isAgg104
  z77 := Try.sizeOf104
  v77 := Try.zeroValue104 }
end Go.Proofs
namespace Go.Proofs.Ytjkdpahaingjjaa.Ab
open Go Go.RowKit
set_option linter.unusedSimpArgs false
set_option maxHeartbeats 4000000
set_option maxRecDepth 100000
variable {G : Nat → Option AV}
def cmpB (a b : List SlotT) : Int := if lessB a b then -1 else if lessB b a then 1 else 0
theorem order_1_pc (a b : List SlotT) (ha : a.length ≤ 1000) (hb : b.length ≤ 1000) : PureC Try.prog G n_binding_order_1 [slotsV a, slotsV b] (iv (cmpB a b)) := by
  have h1 := binding_Less_pc (G := G) a b ha hb
  have h2 := binding_Less_pc (G := G) b a hb ha
  refine pc_binding_order_1 (Runs.of fun Φ h => ?_)
  unfold c_binding_order_1
  unfold cmpB at h
  simp only [slotsV] at h1 h2
  generalize lessB a b = x at *
  generalize lessB b a = y at *
  cases x <;> cases y
  all_goals
    (try (simp -implicitDefEqProofs only [go_sem, Nat.reduceAdd, Nat.reduceSub, Nat.reduceMul, Nat.reduceLT, Nat.reduceLeDiff, Nat.reduceEqDiff, Nat.reduceBEq, Int.reduceNeg, Int.reduceAdd, Int.reduceLT, Int.reduceLE, Int.reduceToNat, Int.reduceEq, Int.reduceNe, Int.reduceBEq, Int.reduceBNe, Int.reduceMul, Int.reduceSub, reduceIte, reduceCtorEq, slotsV])); repeat' ((first | refine at_guard (fun hb => ?_) (fun hb => ?_) | refine ⟨fun hb => ?_, fun hb => ?_⟩ | refine at_call (h1) rfl rfl ?_ | refine at_call (h2) rfl rfl ?_ | fail) <;> (try (simp -implicitDefEqProofs only [go_sem, Nat.reduceAdd, Nat.reduceSub, Nat.reduceMul, Nat.reduceLT, Nat.reduceLeDiff, Nat.reduceEqDiff, Nat.reduceBEq, Int.reduceNeg, Int.reduceAdd, Int.reduceLT, Int.reduceLE, Int.reduceToNat, Int.reduceEq, Int.reduceNe, Int.reduceBEq, Int.reduceBNe, Int.reduceMul, Int.reduceSub, reduceIte, reduceCtorEq, slotsV])))
    exact h _ ⟨_, _, rfl, rfl, .refl _⟩
theorem grown_of {w w' : World} (h : Below w.heap.size w w') (hd : w.drawn ≤ w'.drawn) : ∃ q os', w' = Sort.grow (w.drewN q) os' := by
  refine ⟨w'.drawn - w.drawn, w'.heap.extract w.heap.size w'.heap.size, ?_⟩
  have hh : w'.heap = w.heap ++ w'.heap.extract w.heap.size w'.heap.size := by
    apply Array.ext_getElem?
    intro k
    rw [Array.getElem?_append]
    split
    · rename_i hk
      exact h.block k hk
    · rename_i hk
      rw [Array.getElem?_extract]
      have := h.size
      split
      · congr 1
        omega
      · rw [Array.getElem?_eq_none (by omega)]
  obtain ⟨h1, h2, h3, h4, _⟩ := h
  obtain ⟨hp, tp, dr, os, out⟩ := w'
  obtain ⟨hp0, tp0, dr0, os0, out0⟩ := w
  simp only at *
  subst h1 h2 h3
  unfold Sort.grow World.drewN
  simp only [World.mk.injEq, true_and, and_true]
  exact ⟨hh, by omega⟩
/-- An element of a row of bindings: its cell, and what it is. -/
abbrev ElB (w : World) (F : Nat → Prop) : Type := {p : Value × List SlotT // Rd w F noNames (slotsV p.2) p.1 ∧ p.1.oneCell' = true ∧ okL p.2 ∧ p.2.length ≤ 1000}
instance (w : World) (F : Nat → Prop) : Inhabited (ElB w F) := ⟨⟨(.slice none 0 0, []), .seq0 _ _ _ _, rfl, (fun s h => by cases h), by simp⟩⟩
theorem elB_swo (w : World) (F : Nat → Prop) : Sort.SWO (ltOf fun (x y : ElB w F) => cmpB x.1.2 y.1.2) := by
  have e : ∀ x y : ElB w F, ltOf (fun (x y : ElB w F) => cmpB x.1.2 y.1.2) x y = lessB x.1.2 y.1.2 := fun x y => by
    unfold ltOf cmpB
    dsimp only
    split
    · rename_i h; rw [h]; rfl
    · rename_i h
      have h : lessB x.1.2 y.1.2 = false := by simpa using h
      rw [h]
      split <;> rfl
  refine ⟨fun x => ?_, fun x y z h1 h2 => ?_, fun x y z h1 h2 => ?_⟩
  · rw [e]; exact lessB_irr _
  · rw [e] at *; exact lessB_trans h1 h2
  · rw [e] at *; exact lessB_ntrans x.2.2.2.1 y.2.2.2.1 z.2.2.2.1 h1 h2
theorem lt_elB {w : World} {F : Nat → Prop} (x y : ElB w F) : ltOf (fun (x y : ElB w F) => cmpB x.1.2 y.1.2) x y = lessB x.1.2 y.1.2 := by
  unfold ltOf cmpB
  dsimp only
  split
  · rename_i h; rw [h]; rfl
  · rename_i h
    have h : lessB x.1.2 y.1.2 = false := by simpa using h
    rw [h]
    split <;> rfl
theorem sortWorld_at {α : Type} [Inhabited α] (enc : α → Value) (w : World) (blk m : Nat) (dk : Array α) (os : Array Obj) (k : Nat) (hk : k < w.heap.size) : (sortWorld enc w blk 0 m dk os).heap[k]? = if k = blk then (w.heap[k]?).map (Sort.onCells (Sort.putCells enc 0 dk)) else w.heap[k]? := by
  unfold sortWorld Sort.grow Sort.putRow Sort.mapBlock Sort.ahead
  simp only
  rw [Array.getElem?_append_left (by simpa using hk), Array.getElem?_modify]
  by_cases e : blk = k
  · rw [if_pos e, if_pos e.symm]
  · rw [if_neg e, if_neg fun h => e h.symm]
theorem sortWorld_size {α : Type} [Inhabited α] (enc : α → Value) (w : World) (blk m : Nat) (dk : Array α) (os : Array Obj) : w.heap.size ≤ (sortWorld enc w blk 0 m dk os).heap.size := by
  unfold sortWorld Sort.grow Sort.putRow Sort.mapBlock Sort.ahead
  simp
theorem rd_arr_pos {w : World} {F : Nat → Prop} {nm : Names} {i n : Nat} {v : Value} (h : Rd w F nm (.arr i 0 n) v) (h0 : 0 < n) : ∃ m, nm i = some m ∧ n ≤ m.cap ∧ v = .slice (some ⟨m.g, 0, none⟩) n m.cap := by
  generalize hk : (0 : Nat) = k at h
  cases h with
  | arr _ _ _ _ m hi hn hp => subst hk; exact ⟨m, hi, by omega, by simp⟩
  | arrE _ _ _ _ _ hk2 => omega
  | arrN => omega
/-- What is left of the sort. -/
structure SortPost (w : World) (F : Nat → Prop) (nm : Names) (l : List (List SlotT)) (w' : World) : Prop where
  hb : HB w' F nm [(1000, ⟨true, t_Sapi_Slot, 1, (sortB l).map slotsV⟩)]
  keep : w'.os = w.os ∧ w'.tape = w.tape ∧ w'.output = w.output ∧ w.heap.size ≤ w'.heap.size
  blk : ∀ k, k < w.heap.size → ¬ Own nm [(1000, (⟨true, t_Sapi_Slot, 1, l.map slotsV⟩ : Box))] k → w'.heap[k]? = w.heap[k]?
theorem sort_calls (l : List (List SlotT)) (h0 : 0 < l.length) (hl : l.length ≤ 1000000) (hx : ∀ x ∈ l, okL x ∧ x.length ≤ 1000) {w : World} {F : Nat → Prop} {nm : Names} {m : Nm} (hg : Good w F G) (hi : nm 1000 = some m) (hcap : l.length ≤ m.cap) (hB : HB w F nm [(1000, ⟨true, t_Sapi_Slot, 1, l.map slotsV⟩)]) :
    Calls Try.prog n_slices_SortFunc_api_Slot_api_Slot #[.slice (some ⟨m.g, 0, none⟩) l.length m.cap, .func (.func n_binding_order_1) #[] #[]] w fun e w' => e = .returned (.tuple #[]) ∧ SortPost w F nm l w' := by
    have _ := h0
    rcases hB.box 1000 _ rfl with ⟨hn, _⟩ | ⟨m', hm', hlies⟩
    · rw [hi] at hn; cases hn
    rw [hi] at hm'; cases hm'
    obtain ⟨h1, h2, h3, cs, h4, h5, h6, h7, h8, h9⟩ := hlies.c (show 0 < 1 by decide)
    have hFr : ¬ F m.g := hB.fr 1000 _ m rfl hi
    have hblk : m.g < w.heap.size := (Array.getElem?_eq_some_iff.1 h4).1
    have h1' : m.sz = 1 := h1
    have h6' : l.length ≤ m.cap := by simpa using h6
    have hcs : cs.size = m.cap := by rw [h5, h1', Nat.mul_one]
    have hel : ∀ (j : Nat) (x : List SlotT), l[j]? = some x → ∃ c, cs[j]? = some c ∧ c.oneCell' = true ∧ Rd w F noNames (slotsV x) c := fun j x hj => by
      obtain ⟨c, a1, a2, a3⟩ := h9 j (slotsV x) 0 (slotsV x) (by show (l.map slotsV)[j]? = _; rw [List.getElem?_map, hj]; rfl) rfl
      rw [h1', Nat.mul_one, Nat.add_zero] at a1
      exact ⟨c, a1, a2, a3⟩
    have hex : ∀ j, j < l.length → ∃ e : ElB w F, cs[j]? = some e.1.1 ∧ l[j]? = some e.1.2 := fun j hj => by
      obtain ⟨x, hxj, hxm⟩ := at_some hj
      obtain ⟨c, a1, a2, a3⟩ := hel j x hxj
      exact ⟨⟨(c, x), a3, a2, hx x hxm⟩, a1, hxj⟩
    obtain ⟨d, hds, hd⟩ : ∃ d : Array (ElB w F), d.size = l.length ∧ ∀ j, j < l.length → cs[j]? = some (d[j]!).1.1 ∧ l[j]? = some (d[j]!).1.2 := by
      refine ⟨Array.ofFn (n := l.length) fun j => Classical.choose (hex j.1 j.2), by simp, fun j hj => ?_⟩
      have := Classical.choose_spec (hex j hj)
      rw [getElem!_pos _ j (by simpa using hj), Array.getElem_ofFn]
      exact this
    have hdl : d.toList.map (fun x => x.1.2) = l := by
      apply List.ext_getElem?
      intro j
      rw [List.getElem?_map]
      by_cases hj : j < l.length
      · have := (hd j hj).2
        rw [this, Array.getElem?_toList, Array.getElem?_eq_getElem (by omega), getElem!_pos d j (by omega)]
        rfl
      · rw [List.getElem?_eq_none (by simpa using by omega), List.getElem?_eq_none (by omega)]
        rfl
    -- in each world of the sort's
    have hFW : ∀ (mm : Nat) (os : Array Obj) (dk : Array (ElB w F)), ∀ b, F b → (sortWorld (fun x : ElB w F => x.1.1) w m.g 0 mm dk os).heap[b]? = w.heap[b]? := fun mm os dk b hb => by
      rw [sortWorld_at _ _ _ _ _ _ _ (hg.1 b hb), if_neg fun (e : b = m.g) => hFr (by rw [← e]; exact hb)]
    have hcmp : CmpLays1 Try.prog n_binding_order_1 #[] (fun x : ElB w F => x.1.1) (fun x y => cmpB x.1.2 y.1.2) m.g 0 d.size w := fun mm os dk hdk x y => by
      have hW := sortWorld_size (fun x : ElB w F => x.1.1) w m.g mm dk os
      have hFw := hFW mm os dk
      generalize sortWorld (fun x : ElB w F => x.1.1) w m.g 0 mm dk os = W at *
      have hgW : Good W F G := hg.mono hFw (fun _ h => h) fun b hb => Nat.lt_of_lt_of_le (hg.1 b hb) hW
      have hp := order_1_pc (G := G) x.1.2 y.1.2 x.2.2.2.2 y.2.2.2.2 W F #[x.1.1, y.1.1] hgW (argsR_cons (x.2.1.mono hFw fun _ h => h) (argsR_cons (y.2.1.mono hFw fun _ h => h) argsR_nil))
      refine (Drw.calls_drawn hp fun w' ⟨v, F', h, _⟩ => by cases h).mono ?_
      rintro e w' ⟨⟨v, F', rfl, _, _, _, hrv, hb⟩, hdr⟩
      cases hrv
      exact ⟨rfl, grown_of hb hdr⟩
    have hH : Sort.Holds (fun x : ElB w F => x.1.1) w m.g 0 d := fun j hj => by
      rw [hds] at hj
      have := (hd j hj).1
      refine ⟨?_, ?_⟩
      · simp only [World.cell?, h4, Nat.zero_add]
        simpa using this
      · simp [World.frozen?, h4]
    have main := Any.slices_SortFunc (P := Try.prog) (ρ := Try.sortSl_ren) Try.sortSl (fun x : ElB w F => x.1.1) (fun x => x.2.2.1) (fun x y => cmpB x.1.2 y.1.2) (elB_swo w F) n_binding_order_1 #[] m.g 0 m.cap d w (enters_of Try.func55 (by kernel_rfl) rfl) hcmp hH hblk (by omega)
    rw [hds] at main
    refine Calls.mono main ?_
    rintro e w' ⟨rfl, d', nn, os, hp, hsrt, rfl⟩
    have hds' : d'.size = l.length := hp.1.trans hds
    have hperm : (d'.toList.map fun x => x.1.2).Perm l := by
      have := hp.2.2
      rw [Array.extract_eq_self_of_le (by omega), Array.extract_eq_self_of_le (by omega)] at this
      rw [← hdl]
      exact this.map _
    have hsorted : (d'.toList.map fun x => x.1.2).Pairwise fun a b => lessB b a = false := by
      rw [List.pairwise_map, List.pairwise_iff_getElem]
      intro i j hi' hj' hij
      have hj2 : j < l.length := by rw [← hds']; simpa using hj'
      have := hsrt i j (Nat.zero_le _) hij hj2
      rw [lt_elB] at this
      rw [getElem!_pos d' i (by omega), getElem!_pos d' j (by omega)] at this
      simpa using this
    have hsb : (d'.toList.map fun x => x.1.2) = sortB l := sorted_uniq (hperm.trans (sortB_perm l).symm) (fun x h => (hx x (hperm.subset h)).1) hsorted (sortB_sorted fun x h => (hx x h).1)
    have hW := sortWorld_size (fun x : ElB w F => x.1.1) w m.g nn d' os
    have hFw := hFW nn os d'
    have hat : ∀ k, k < w.heap.size → k ≠ m.g → (sortWorld (fun x : ElB w F => x.1.1) w m.g 0 nn d' os).heap[k]? = w.heap[k]? := fun k hk hne => by
      rw [sortWorld_at _ _ _ _ _ _ _ hk, if_neg hne]
    have hrow : (sortWorld (fun x : ElB w F => x.1.1) w m.g 0 nn d' os).heap[m.g]? = some (.cells (Sort.putCells (fun x : ElB w F => x.1.1) 0 d' cs) m.ty (0, 0)) := by
      rw [sortWorld_at _ _ _ _ _ _ _ hblk, if_pos rfl, h4]
      rfl
    have hkeep : (sortWorld (fun x : ElB w F => x.1.1) w m.g 0 nn d' os).os = w.os ∧ (sortWorld (fun x : ElB w F => x.1.1) w m.g 0 nn d' os).tape = w.tape ∧ (sortWorld (fun x : ElB w F => x.1.1) w m.g 0 nn d' os).output = w.output := ⟨rfl, rfl, rfl⟩
    generalize sortWorld (fun x : ElB w F => x.1.1) w m.g 0 nn d' os = W at *
    have hget1 : ∀ (L : List AV) i b, hget [(1000, (⟨true, t_Sapi_Slot, 1, L⟩ : Box))] i = some b → i = 1000 ∧ b = ⟨true, t_Sapi_Slot, 1, L⟩ := fun L i b hi => by
      simp only [hget] at hi
      split at hi
      · rename_i e; cases hi; exact ⟨e.symm, rfl⟩
      · cases hi
    have own : Own nm [(1000, (⟨true, t_Sapi_Slot, 1, l.map slotsV⟩ : Box))] m.g := ⟨1000, _, m, rfl, hi, rfl⟩
    refine ⟨rfl, ⟨fun i b hi' => ?_, fun i j b c m1 m2 hi' hj' _ _ _ => ?_, fun i b m1 hi' hm1 => ?_⟩, ⟨hkeep.1, hkeep.2.1, hkeep.2.2, hW⟩, fun k hk hno => hat k hk fun e => hno (e ▸ own)⟩
    · obtain ⟨rfl, rfl⟩ := hget1 _ i b hi'
      refine .inr ⟨m, hi, .inl ⟨h1, h2, by show 0 < 1; decide, _, hrow, ?_, ?_, h7, fun e he => ?_, fun k e j c he hc => ?_⟩⟩
      · rw [h1', Nat.mul_one, ← hcs]
        simp [Sort.putCells]
      · show ((sortB l).map slotsV).length ≤ m.cap
        rw [List.length_map, (sortB_perm l).length_eq]
        exact h6'
      · obtain ⟨s, _, rfl⟩ := List.mem_map.1 he
        rfl
      · have he : ((sortB l).map slotsV)[k]? = some e := he
        rw [← hsb, List.map_map, List.getElem?_map, Array.getElem?_toList] at he
        obtain ⟨x, hx', rfl⟩ := Option.map_eq_some_iff.1 he
        have hkd := (Array.getElem?_eq_some_iff.1 hx').1
        match j, hc with
        | 0, hc =>
          cases hc
          refine ⟨x.1.1, ?_, x.2.2.1, x.2.1.mono hFw fun _ h => h⟩
          rw [h1', Nat.mul_one, Nat.add_zero]
          unfold Sort.putCells
          rw [Array.getElem?_mapIdx, Array.getElem?_eq_getElem (by omega)]
          simp only [Option.map_some, Nat.zero_le, Nat.zero_add, true_and, Nat.sub_zero]
          rw [if_pos hkd, getElem!_pos d' k hkd, (Array.getElem?_eq_some_iff.1 hx').2]
    · rw [(hget1 _ i b hi').1, (hget1 _ j c hj').1]
    · obtain ⟨rfl, rfl⟩ := hget1 _ i b hi'
      rw [hi] at hm1; cases hm1
      exact hFr
end Go.Proofs.Ytjkdpahaingjjaa.Ab
namespace Go.Proofs.Ytjkdpahaingjjaa.Ab
open Go Go.RowKit
set_option linter.unusedSimpArgs false
set_option maxHeartbeats 4000000
set_option maxRecDepth 100000
variable {G : Nat → Option AV}
theorem sort_none_calls (p : Option Addr) (cap : Nat) (v : Value) (w : World) : Calls Try.prog n_slices_SortFunc_api_Slot_api_Slot #[.slice p 0 cap, v] w fun e w' => e = .returned (.tuple #[]) ∧ w' = w :=
  AnyF.slices_SortFunc_none (P := Try.prog) (ρ := Try.sortSl_ren) { Try.sortSl with } p cap v w
theorem order_walk {w : World} {u : Value} {Q1 : World → Prop} {Q : Ending → World → Prop} (h1 : Calls Try.prog n_slices_SortFunc_api_Slot_api_Slot #[u, .func (.func n_binding_order_1) #[] #[]] w fun e w' => e = .returned (.tuple #[]) ∧ Q1 w')
    (h2 : ∀ w1, Q1 w1 → Calls Try.prog n_slices_CompactFunc_api_Slot_api_Slot #[u, .func (.func n_binding_Same) #[] #[]] w1 fun e w' => ∃ v, e = .returned v ∧ Q (.returned v) w') : Calls Try.prog n_binding_order #[u] w Q := by
  go_enter Try.func39, Try.ntmps39
  go_wp2_with (go_at_fn 54)
  refine h1.mono ?_
  rintro e w' ⟨rfl, hq⟩
  go_wp2_with (go_at_fn 56)
  refine (h2 _ hq).mono ?_
  rintro e w' ⟨v, rfl, hq2⟩
  go_wp2
  exact hq2
theorem rd_arr0 {w : World} {F : Nat → Prop} {nm : Names} {i n : Nat} {v : Value} (h : Rd w F nm (.arr i 0 n) v) (h0 : n = 0) : ∃ p cap, v = .slice p 0 cap := by
  subst h0
  generalize hk : (0 : Nat) = k at h
  generalize hn : (0 : Nat) = n at h
  cases h with
  | arr _ _ _ _ m hi hc hp => subst hn; exact ⟨_, _, rfl⟩
  | arrE _ _ _ a cap hk2 => exact ⟨_, _, rfl⟩
  | arrN => exact ⟨_, _, rfl⟩
theorem order_hc : OrderC Try.prog G n_binding_order := by
  intro l hl hx w F nm vs hg ha hB
  obtain ⟨hs, hr⟩ := ha
  obtain ⟨vl⟩ := vs
  match vl, hs with
  | [u], _ =>
    have hu := hr 0 _ u rfl rfl
    have hp := sortB_perm l
    have hsort : Calls Try.prog n_slices_SortFunc_api_Slot_api_Slot #[u, .func (.func n_binding_order_1) #[] #[]] w fun e w' => e = .returned (.tuple #[]) ∧ SortPost w F nm l w' := by
      by_cases h0 : 0 < l.length
      · obtain ⟨m, hi, hcap, rfl⟩ := rd_arr_pos hu h0
        exact sort_calls l h0 (by omega) hx hg hi hcap hB
      · have hnil : l = [] := List.eq_nil_of_length_eq_zero (by omega)
        subst hnil
        obtain ⟨p, cap, rfl⟩ := rd_arr0 hu rfl
        refine (sort_none_calls p cap _ w).mono ?_
        rintro e w' ⟨rfl, rfl⟩
        exact ⟨rfl, hB, ⟨rfl, rfl, rfl, Nat.le_refl _⟩, fun _ _ _ => rfl⟩
    refine order_walk hsort fun w1 h1 => ?_
    have hgetH : ∀ (L : List AV) i b, hget [(1000, (⟨true, t_Sapi_Slot, 1, L⟩ : Box))] i = some b → i = 1000 := fun L i b hi => by
      simp only [hget] at hi
      split at hi
      · rename_i e; exact e.symm
      · cases hi
    have ownS : ∀ (L L' : List AV) k, Own nm [(1000, (⟨true, t_Sapi_Slot, 1, L⟩ : Box))] k → Own nm [(1000, (⟨true, t_Sapi_Slot, 1, L'⟩ : Box))] k := fun L L' k ⟨i, b, m, hi, hm, e⟩ => by
      obtain rfl := hgetH L i b hi
      exact ⟨1000, _, m, rfl, hm, e⟩
    have hno : ∀ b, F b → ¬ Own nm [(1000, (⟨true, t_Sapi_Slot, 1, l.map slotsV⟩ : Box))] b := fun b hb ⟨i, bx, m, hi, hm, e⟩ => hB.fr i bx m hi hm (e ▸ hb)
    have hg1 : Good w1 F G := hg.mono (fun b hb => h1.blk b (hg.1 b hb) (hno b hb)) (fun _ h => h) fun b hb => Nat.lt_of_lt_of_le (hg.1 b hb) h1.keep.2.2.2
    have hu1 : Rd w1 F nm (.arr 1000 0 (sortB l).length) u := by
      rw [hp.length_eq]
      exact hu.mono (fun b hb => h1.blk b (hg.1 b hb) (hno b hb)) fun _ h => h
    have hc := compact_hc (G := G) (sortB l) (by rw [hp.length_eq]; omega) (fun x h => by have := (hx x (hp.subset h)).2; omega) w1 F nm #[u, .func (.func n_binding_Same) #[] #[]] hg1
      ⟨rfl, fun j c v hc hv => by
        match j, hc, hv with
        | 0, hc, hv => cases hc; cases hv; exact hu1
        | 1, hc, hv => cases hc; cases hv; exact .fn _ _ [] [] rfl fun j c u h => by simp at h⟩ h1.hb
    rw [show compA (sortB l) = orderB l from rfl, hp.length_eq] at hc
    refine hc.mono ?_
    rintro e w' ⟨v, F', nm', rfl, a1, a2, a3, a4, a5, a6, a7, a8, a9⟩
    refine ⟨v, rfl, v, F', nm', rfl, a1, fun b hb => ?_, a3, a4, a5, fun i b hi hrow => ?_, fun k hk => ?_, ⟨a8.1.trans h1.keep.1, a8.2.1.trans h1.keep.2.1, a8.2.2.1.trans h1.keep.2.2.1, Nat.le_trans h1.keep.2.2.2 a8.2.2.2⟩, fun k hk hk2 => ?_⟩
    · rcases a2 b hb with h | h | h
      · exact .inl h
      · exact .inr (.inl (Nat.le_trans h1.keep.2.2.2 h))
      · exact .inr (.inr (ownS _ _ _ h))
    · obtain rfl := hgetH _ i b hi
      cases hi
      cases hrow
    · rcases a7 k hk with h | h
      · exact .inl (Nat.le_trans h1.keep.2.2.2 h)
      · exact .inr (ownS _ _ _ h)
    · rw [a9 k (Nat.lt_of_lt_of_le hk h1.keep.2.2.2) fun h => hk2 (ownS _ _ _ h), h1.blk k hk hk2]
end Go.Proofs.Ytjkdpahaingjjaa.Ab
