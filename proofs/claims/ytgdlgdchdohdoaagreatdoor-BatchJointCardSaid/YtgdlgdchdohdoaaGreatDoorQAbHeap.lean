/-
  The contract of a function to which rows and variables are handed over, to read and to write, and what a call of it does to a state. No claim is proved here.
-/
import Derived.Test.YtgdlgdchdohdoaaGreatDoorQAbCall2
namespace Go.Proofs.YtgdlgdchdohdoaaGreatDoor.Ab
open Go Go.RowKit
structure HB (w : World) (F : Nat → Prop) (nm : Names) (H : List (Nat × Box)) : Prop where
  box : ∀ i b, hget H i = some b → BoxR w F nm i b
  inj : ∀ i j b c m m', hget H i = some b → hget H j = some c → nm i = some m → nm j = some m' → m.g = m'.g → i = j
  fr : ∀ i b m, hget H i = some b → nm i = some m → ¬ F m.g
/-- Called with such values and such rows and variables, the function hands back such a value, and leaves such rows and variables; what else was there is as it was. -/
def HeapC (P : Program) (G : Nat → Option AV) (f : Nat) (args : List AV) (H : List (Nat × Box)) (r : AV) (H' : List (Nat × Box)) : Prop :=
  ∀ (w : World) (F : Nat → Prop) (nm : Names) (vs : Array Value), Good w F G → (vs.size = args.length ∧ ∀ (j : Nat) c u, args[j]? = some c → vs[j]? = some u → Rd w F nm c u) → HB w F nm H →
    Calls P f vs w fun e w' => ∃ v F' nm', e = .returned v ∧ (∀ b, F b → F' b) ∧ (∀ b, F' b → F b ∨ w.heap.size ≤ b ∨ Own nm H b) ∧ (∀ b, F' b → b < w'.heap.size) ∧
      Rd w' F' nm' r v ∧ HB w' F' nm' H' ∧ (∀ i b, hget H i = some b → b.row = false → nm' i = nm i ∧ ∀ b', hget H' i = some b' → b'.row = false) ∧ (∀ k, Own nm' H' k → w.heap.size ≤ k ∨ Own nm H k) ∧
      (w'.os = w.os ∧ w'.tape = w.tape ∧ w'.output = w.output ∧ w.heap.size ≤ w'.heap.size) ∧ ∀ k, k < w.heap.size → ¬ Own nm H k → w'.heap[k]? = w.heap[k]?
def look : List (Nat × Nat) → Nat → Option Nat
  | [], _ => none
  | (a, b) :: r, i => if a = i then some b else look r i
def renO (I : List (Nat × Nat)) : AV → Option AV
  | .arr i k n => (look I i).map (.arr · k n)
  | .ref i k off => (look I i).map (.ref · k off)
  | .agg cs => (go I cs).map .agg
  | .tup cs => (go I cs).map .tup
  | .fn f cs => (go I cs).map (.fn f)
  | .iface t v => (renO I v).map (.iface t)
  | .mapv i => (look I i).map .mapv
  | v => some v
where
  go (I : List (Nat × Nat)) : List AV → Option (List AV)
  | [] => some []
  | c :: cs => match renO I c, go I cs with | some x, some xs => some (x :: xs) | _, _ => none
def renB (I : List (Nat × Nat)) (b : Box) : Option Box := if b.row then some b else (renO.go I b.es).map fun es => { b with es := es }
theorem renO.go_at {I : List (Nat × Nat)} : ∀ {cs cs' : List AV}, renO.go I cs = some cs' → cs.length = cs'.length ∧ ∀ (j : Nat) c, cs[j]? = some c → ∃ c', renO I c = some c' ∧ cs'[j]? = some c'
  | [], cs', h => by simp only [renO.go, Option.some.injEq] at h; subst h; simp
  | c :: cs, cs', h => by
    simp only [renO.go] at h
    split at h
    · rename_i x xs hx hxs
      simp only [Option.some.injEq] at h
      subst h
      obtain ⟨h1, h2⟩ := renO.go_at hxs
      refine ⟨by simp [h1], fun j d hd => ?_⟩
      cases j with
      | zero => simp at hd; subst hd; exact ⟨x, hx, rfl⟩
      | succ j => simp at hd ⊢; exact h2 j d hd
    · cases h
theorem renO.go_back {I : List (Nat × Nat)} {cs cs' : List AV} (h : renO.go I cs = some cs') {j : Nat} {c' : AV} (hj : cs'[j]? = some c') : ∃ c, cs[j]? = some c ∧ renO I c = some c' := by
  obtain ⟨h1, h2⟩ := renO.go_at h
  have hlt : j < cs.length := by rw [h1]; exact (List.getElem?_eq_some_iff.1 hj).1
  obtain ⟨x, hx, hx'⟩ := h2 j _ (List.getElem?_eq_getElem hlt)
  rw [hj] at hx'
  cases hx'
  exact ⟨_, List.getElem?_eq_getElem hlt, hx⟩
theorem renO_cells {I : List (Nat × Nat)} {c c' : AV} (h : renO I c = some c') : renO.go I c.cells = some c'.cells := by
  cases c <;> simp only [renO, Option.map_eq_some_iff, Option.some.injEq] at h
  case agg cs => obtain ⟨x, h1, rfl⟩ := h; exact h1
  case tup cs => obtain ⟨x, h1, rfl⟩ := h; simp [AV.cells, renO.go, renO, h1]
  case fn f cs => obtain ⟨x, h1, rfl⟩ := h; simp [AV.cells, renO.go, renO, h1]
  case iface t v => obtain ⟨x, h1, rfl⟩ := h; simp [AV.cells, renO.go, renO, h1]
  case arr i k n => obtain ⟨x, h1, rfl⟩ := h; simp [AV.cells, renO.go, renO, h1]
  case ref i k n => obtain ⟨x, h1, rfl⟩ := h; simp [AV.cells, renO.go, renO, h1]
  case mapv i => obtain ⟨x, h1, rfl⟩ := h; simp [AV.cells, renO.go, renO, h1]
  all_goals subst h; simp [AV.cells, renO.go, renO]
section
variable {w : World} {F : Nat → Prop} {nm nm' : Names} {I : List (Nat × Nat)}
/-- From our names to theirs. -/
theorem Rd.unren (hn : ∀ i j, look I i = some j → nm' i = nm j) : ∀ {c c' : AV} {v : Value}, renO I c = some c' → Rd w F nm c' v → Rd w F nm' c v := by
  suffices h : ∀ (n : Nat) (c : AV), SizeOf.sizeOf c < n → ∀ {c' : AV} {v : Value}, renO I c = some c' → Rd w F nm c' v → Rd w F nm' c v from fun {c _ _} h1 h2 => h (SizeOf.sizeOf c + 1) c (by omega) h1 h2
  intro n
  induction n with
  | zero => intro c h; omega
  | succ n ih =>
    have go : ∀ (cs cs' : List AV) (us : List Value), SizeOf.sizeOf cs < n + 1 → renO.go I cs = some cs' → (∀ (j : Nat) c u, cs'[j]? = some c → us[j]? = some u → Rd w F nm c u) → ∀ (j : Nat) c u, cs[j]? = some c → us[j]? = some u → Rd w F nm' c u := by
      intro cs cs' us hs h hr j c u hc hu
      obtain ⟨x, hx, hx'⟩ := (renO.go_at h).2 j c hc
      have := List.sizeOf_lt_of_mem (List.mem_of_getElem? hc)
      exact ih c (by omega) hx (hr j x u hx' hu)
    intro c hs c' v h hr
    cases c <;> simp only [renO, Option.map_eq_some_iff, Option.some.injEq] at h
    case top => exact .top _ _
    case undef => subst h; cases hr; exact .undef _
    case bool => subst h; cases hr; exact .bool _ _
    case int => subst h; cases hr; exact .int _ _ _
    case str => subst h; cases hr; exact .str _ _
    case agg cs =>
      obtain ⟨x, h1, rfl⟩ := h
      cases hr with
      | agg _ _ us hl hr => exact .agg _ _ _ ((renO.go_at h1).1.trans hl) (go cs x us (by simp at hs; omega) h1 hr)
    case tup cs =>
      obtain ⟨x, h1, rfl⟩ := h
      cases hr with
      | tup _ _ us hl hr => exact .tup _ _ _ ((renO.go_at h1).1.trans hl) (go cs x us (by simp at hs; omega) h1 hr)
    case fn f cs =>
      obtain ⟨x, h1, rfl⟩ := h
      cases hr with
      | fn _ _ _ us hl hr => exact .fn _ _ _ _ ((renO.go_at h1).1.trans hl) (go cs x us (by simp at hs; omega) h1 hr)
    case iface t x =>
      obtain ⟨y, h1, rfl⟩ := h
      cases hr with
      | iface _ _ _ _ hr => exact .iface _ _ _ _ (ih x (by simp at hs; omega) h1 hr)
    case arr i k m =>
      obtain ⟨j, h1, rfl⟩ := h
      cases hr with
      | arr _ _ _ _ m' hi hn' hp => exact .arr _ _ _ _ m' (by rw [hn i j h1]; exact hi) hn' hp
      | arrE _ _ _ _ _ hk => exact .arrE _ _ _ _ _ hk
      | arrN => exact .arrN _ _
    case ref i k off =>
      obtain ⟨j, h1, rfl⟩ := h
      cases hr with
      | ref _ _ _ _ m' hi => exact .ref _ _ _ _ m' (by rw [hn i j h1]; exact hi)
    case seq => subst h; cases hr with
      | seq0 => exact .seq0 _ _ _ _
      | seq _ _ _ g o cap u h0 hF hc hm hsz hw h1 hr => exact .seq _ _ _ _ _ _ u h0 hF hc hm hsz hw h1 hr
    case full => subst h; cases hr with
      | full _ _ _ g o u h0 hF hm hsz hw h1 hr => exact .full _ _ _ _ _ u h0 hF hm hsz hw h1 hr
    case nils => subst h; cases hr; exact .nils _
    case eptr => subst h; cases hr with
      | eptr _ _ _ g o u hF hw h1 hr => exact .eptr _ _ _ _ _ u hF hw h1 hr
    case nilp => subst h; cases hr; exact .nilp _
    case nilfn => subst h; cases hr; exact .nilfn _
    case nili => subst h; cases hr; exact .nili _
    case nilm => subst h; cases hr; exact .nilm _
    case rawp b o => subst h; cases hr; exact .rawp _ _ _
    case mapc es => subst h; cases hr with
      | mapc _ _ g ents clock hF hh hl ht hk hv => exact .mapc _ _ _ ents clock hF hh hl ht hk hv
    case mapv i =>
      obtain ⟨j, h1, rfl⟩ := h
      cases hr with
      | mapv _ _ m' hi => exact .mapv _ _ m' (by rw [hn i j h1]; exact hi)
/-- From their names to ours. -/
theorem Rd.ren (hn : ∀ i j, look I i = some j → nm' j = nm i) : ∀ {c c' : AV} {v : Value}, renO I c = some c' → Rd w F nm c v → Rd w F nm' c' v := by
  intro c c' v h hr
  induction hr generalizing c' with
  | top nm v => simp only [renO, Option.some.injEq] at h; subst h; exact .top _ _
  | undef nm => simp only [renO, Option.some.injEq] at h; subst h; exact .undef _
  | bool nm b => simp only [renO, Option.some.injEq] at h; subst h; exact .bool _ _
  | int nm k n => simp only [renO, Option.some.injEq] at h; subst h; exact .int _ _ _
  | str nm s => simp only [renO, Option.some.injEq] at h; subst h; exact .str _ _
  | agg nm cs us hl hr ih =>
    simp only [renO, Option.map_eq_some_iff] at h
    obtain ⟨x, h1, rfl⟩ := h
    refine .agg _ _ _ ((renO.go_at h1).1.symm.trans hl) fun j c u hc hu => ?_
    obtain ⟨d, hd, hd'⟩ := renO.go_back h1 hc
    exact ih j d u hd hu hn hd'
  | tup nm cs us hl hr ih =>
    simp only [renO, Option.map_eq_some_iff] at h
    obtain ⟨x, h1, rfl⟩ := h
    refine .tup _ _ _ ((renO.go_at h1).1.symm.trans hl) fun j c u hc hu => ?_
    obtain ⟨d, hd, hd'⟩ := renO.go_back h1 hc
    exact ih j d u hd hu hn hd'
  | seq0 nm sz a cap => simp only [renO, Option.some.injEq] at h; subst h; exact .seq0 _ _ _ _
  | full nm sz es g o u h0 hFg hm hs hw' h1 hr ih => simp only [renO, Option.some.injEq] at h; subst h; exact .full _ _ _ _ _ u h0 hFg hm hs hw' h1 hr
  | seq nm sz es g o cap u h0 hFg hc hm hs hw' h1 hr ih => simp only [renO, Option.some.injEq] at h; subst h; exact .seq _ _ _ _ _ _ u h0 hFg hc hm hs hw' h1 hr
  | nils nm => simp only [renO, Option.some.injEq] at h; subst h; exact .nils _
  | arr nm i k n m hi hk hp =>
    simp only [renO, Option.map_eq_some_iff] at h
    obtain ⟨j, h1, rfl⟩ := h
    exact .arr _ _ _ _ m (by rw [hn i j h1]; exact hi) hk hp
  | arrE nm i k a cap hk =>
    simp only [renO, Option.map_eq_some_iff] at h
    obtain ⟨j, h1, rfl⟩ := h
    exact .arrE _ _ _ _ _ hk
  | arrN nm i =>
    simp only [renO, Option.map_eq_some_iff] at h
    obtain ⟨j, h1, rfl⟩ := h
    exact .arrN _ _
  | ref nm i k off m hi =>
    simp only [renO, Option.map_eq_some_iff] at h
    obtain ⟨j, h1, rfl⟩ := h
    exact .ref _ _ _ _ m (by rw [hn i j h1]; exact hi)
  | eptr nm e off g o u hFg hw' h1 hr ih => simp only [renO, Option.some.injEq] at h; subst h; exact .eptr _ _ _ _ _ u hFg hw' h1 hr
  | nilp nm => simp only [renO, Option.some.injEq] at h; subst h; exact .nilp _
  | fn nm f cs us hl hr ih =>
    simp only [renO, Option.map_eq_some_iff] at h
    obtain ⟨x, h1, rfl⟩ := h
    refine .fn _ _ _ _ ((renO.go_at h1).1.symm.trans hl) fun j c u hc hu => ?_
    obtain ⟨d, hd, hd'⟩ := renO.go_back h1 hc
    exact ih j d u hd hu hn hd'
  | nilfn nm => simp only [renO, Option.some.injEq] at h; subst h; exact .nilfn _
  | nili nm => simp only [renO, Option.some.injEq] at h; subst h; exact .nili _
  | nilm nm => simp only [renO, Option.some.injEq] at h; subst h; exact .nilm _
  | rawp nm b o => simp only [renO, Option.some.injEq] at h; subst h; exact .rawp _ _ _
  | mapc nm es g ents clock hFg hh hl ht hk hv ihk ihv => simp only [renO, Option.some.injEq] at h; subst h; exact .mapc _ _ _ ents clock hFg hh hl ht hk hv
  | mapv nm i m hi =>
    simp only [renO, Option.map_eq_some_iff] at h
    obtain ⟨j, h1, rfl⟩ := h
    exact .mapv _ _ m (by rw [hn i j h1]; exact hi)
  | iface nm t c u hr ih =>
    simp only [renO, Option.map_eq_some_iff] at h
    obtain ⟨x, h1, rfl⟩ := h
    exact .iface _ _ _ _ (ih hn h1)
theorem renB_spec {b b2 : Box} (h : renB I b = some b2) : b2.row = b.row ∧ b2.ty = b.ty ∧ b2.sz = b.sz ∧ b.es.length = b2.es.length ∧ (b.row = true → b2.es = b.es) ∧ (b.row = false → renO.go I b.es = some b2.es) := by
  unfold renB at h
  split at h
  · rename_i hr
    simp only [Option.some.injEq] at h
    subst h
    simp [hr]
  · rename_i hr
    obtain ⟨es, h1, rfl⟩ := Option.map_eq_some_iff.1 h
    exact ⟨rfl, rfl, rfl, (renO.go_at h1).1, fun e => absurd e hr, fun _ => h1⟩
theorem Lies.unren (hn : ∀ i j, look I i = some j → nm' i = nm j) {m : Nm} {b b2 : Box} (hb : renB I b = some b2) (h : Lies w F nm m b2) : Lies w F nm' m b := by
  obtain ⟨r1, r2, r3, r4, r5, r6⟩ := renB_spec hb
  rcases h with h | h
  case inr =>
    have hr : b.row = true := r1 ▸ h.2.1
    have : b2 = b := by simp only [renB, hr, if_true, Option.some.injEq] at hb; exact hb.symm
    subst this
    exact .inr h
  obtain ⟨h1, h2, h3, cs, h4, h5, h6, h7, h8, h9⟩ := h
  refine .inl ⟨by rw [h1, r3], by rw [h2, r2], by rw [← r3]; exact h3, cs, h4, h5, by rw [r4]; exact h6, h7, ?_, ?_⟩
  · intro e he
    by_cases hr : b.row = true
    · rw [← r3]; exact h8 e (by rw [r5 hr]; exact he)
    · obtain ⟨k, hk⟩ := List.getElem?_of_mem he
      obtain ⟨x, hx, hx'⟩ := (renO.go_at (r6 (by simpa using hr))).2 k e hk
      rw [← r3, ← h8 x (List.mem_of_getElem? hx'), (renO.go_at (renO_cells hx)).1]
  · intro k e j c he hc
    by_cases hr : b.row = true
    · obtain ⟨u, hu, hu1, hrd⟩ := h9 k e j c (by rw [r5 hr]; exact he) hc
      rw [if_pos (by rw [r1]; exact hr)] at hrd
      rw [if_pos hr]
      exact ⟨u, hu, hu1, hrd⟩
    · obtain ⟨x, hx, hx'⟩ := (renO.go_at (r6 (by simpa using hr))).2 k e he
      obtain ⟨y, hy, hy'⟩ := (renO.go_at (renO_cells hx)).2 j c hc
      obtain ⟨u, hu, hu1, hrd⟩ := h9 k x j y hx' hy'
      rw [if_neg (by rw [r1]; exact hr)] at hrd
      rw [if_neg hr]
      exact ⟨u, hu, hu1, hrd.unren hn hy⟩
theorem Lies.ren (hn : ∀ i j, look I i = some j → nm' j = nm i) {m : Nm} {b b2 : Box} (hb : renB I b = some b2) (h : Lies w F nm m b) : Lies w F nm' m b2 := by
  obtain ⟨r1, r2, r3, r4, r5, r6⟩ := renB_spec hb
  rcases h with h | h
  case inr =>
    have : b2 = b := by simp only [renB, h.2.1, if_true, Option.some.injEq] at hb; exact hb.symm
    subst this
    exact .inr h
  obtain ⟨h1, h2, h3, cs, h4, h5, h6, h7, h8, h9⟩ := h
  refine .inl ⟨by rw [h1, r3], by rw [h2, r2], by rw [r3]; exact h3, cs, h4, h5, by rw [← r4]; exact h6, h7, ?_, ?_⟩
  · intro e he
    by_cases hr : b.row = true
    · rw [r3]; exact h8 e (by rw [← r5 hr]; exact he)
    · obtain ⟨k, hk⟩ := List.getElem?_of_mem he
      obtain ⟨x, hx, hx'⟩ := renO.go_back (r6 (by simpa using hr)) hk
      rw [r3, ← h8 x (List.mem_of_getElem? hx), (renO.go_at (renO_cells hx')).1]
  · intro k e j c he hc
    by_cases hr : b.row = true
    · obtain ⟨u, hu, hu1, hrd⟩ := h9 k e j c (by rw [← r5 hr]; exact he) hc
      rw [if_pos hr] at hrd
      rw [if_pos (by rw [r1]; exact hr)]
      exact ⟨u, hu, hu1, hrd⟩
    · obtain ⟨x, hx, hx'⟩ := renO.go_back (r6 (by simpa using hr)) he
      obtain ⟨y, hy, hy'⟩ := renO.go_back (renO_cells hx') hc
      obtain ⟨u, hu, hu1, hrd⟩ := h9 k x j y hx hy
      rw [if_neg hr] at hrd
      rw [if_neg (by rw [r1]; exact hr)]
      exact ⟨u, hu, hu1, hrd.ren hn hy'⟩
end
end Go.Proofs.YtgdlgdchdohdoaaGreatDoor.Ab
