/-
  The greatest bindings: in order, each once: two ways. The law BindingMost. No claim is proved here.
-/
import Derived.Test.YtjkdpahaingjjaaYMo3
namespace Go.Proofs.Ytjkdpahaingjjaa.Ab
open Go
set_option linter.unusedSimpArgs false
theorem strict_ext : ∀ {l k : List (List SlotT)}, l.Pairwise (fun a b => lessB a b = true) → k.Pairwise (fun a b => lessB a b = true) → (∀ x, x ∈ l ↔ x ∈ k) → l = k
  | [], [], _, _, _ => rfl
  | [], y :: k, _, _, h => by have := (h y).2 (by simp); cases this
  | x :: l, [], _, _, h => by have := (h x).1 (by simp); cases this
  | x :: l, y :: k, hl, hk, h => by
    rw [List.pairwise_cons] at hl hk
    have hxy : x = y := by
      rcases List.mem_cons.1 ((h x).1 (by simp)) with e | e
      · exact e
      · rcases List.mem_cons.1 ((h y).2 (by simp)) with e2 | e2
        · exact e2.symm
        · have h1 := hk.1 x e
          have h2 := hl.1 y e2
          rw [lessB_asy h1] at h2
          cases h2
    subst hxy
    rw [strict_ext hl.2 hk.2 fun z => ?_]
    constructor
    · intro hz
      rcases List.mem_cons.1 ((h z).1 (by simp [hz])) with e | e
      · subst e
        have := hl.1 z hz
        rw [lessB_irr] at this
        cases this
      · exact e
    · intro hz
      rcases List.mem_cons.1 ((h z).2 (by simp [hz])) with e | e
      · subst e
        have := hk.1 z hz
        rw [lessB_irr] at this
        cases this
      · exact e
theorem compT_mem {α : Type} [DecidableEq α] : ∀ (r : List α) (p x : α), x ∈ p :: compT p r ↔ x ∈ p :: r
  | [], p, x => by simp [compT]
  | y :: r, p, x => by
    rw [compT]
    by_cases e : p = y
    · subst e
      rw [if_pos rfl, compT_mem r p x]
      simp
    · rw [if_neg e, List.mem_cons, compT_mem r y x]
      simp
theorem compA_mem {α : Type} [DecidableEq α] (l : List α) (x : α) : x ∈ compA l ↔ x ∈ l := by
  cases l with
  | nil => simp [compA]
  | cons y r => exact compT_mem r y x
theorem compT_strict : ∀ (r : List (List SlotT)) (p : List SlotT), (∀ x ∈ p :: r, okL x) → (p :: r).Pairwise (fun a b => lessB b a = false) → (p :: compT p r).Pairwise fun a b => lessB a b = true
  | [], p, _, _ => by simp [compT]
  | y :: r, p, ok, h => by
    rw [List.pairwise_cons] at h
    rw [compT]
    by_cases e : p = y
    · subst e
      rw [if_pos rfl]
      exact compT_strict r p (fun x hx => ok x (List.mem_cons_of_mem _ hx)) h.2
    · rw [if_neg e]
      have h2 := compT_strict r y (fun x hx => ok x (List.mem_cons_of_mem _ hx)) h.2
      rw [List.pairwise_cons]
      refine ⟨fun z hz => ?_, h2⟩
      have hpy : lessB p y = true := by
        rcases lessB_tot (ok p (by simp)) (ok y (by simp)) e with h3 | h3
        · exact h3
        · rw [h.1 y (by simp)] at h3; cases h3
      rcases List.mem_cons.1 hz with e2 | e2
      · rw [e2]; exact hpy
      · rw [List.pairwise_cons] at h2
        exact lessB_trans hpy (h2.1 z e2)
theorem orderB_strict {l : List (List SlotT)} (ok : ∀ x ∈ l, okL x) : (orderB l).Pairwise fun a b => lessB a b = true := by
  unfold orderB
  have h := sortB_sorted ok
  have hp := sortB_perm l
  cases hs : sortB l with
  | nil => simp [compA]
  | cons y r =>
    rw [hs] at h hp
    exact compT_strict r y (fun x hx => ok x (hp.subset hx)) h
theorem orderB_mem {l : List (List SlotT)} {x : List SlotT} : x ∈ orderB l ↔ x ∈ l := by
  unfold orderB
  rw [compA_mem]
  exact (sortB_perm l).mem_iff
theorem goPut_spec {b : List SlotT} {l : List (List SlotT)} : ∀ (n : Nat), n ≤ l.length → (∀ j x, goPut b l n ≤ j → j < n → l[j]? = some x → lessB b x = true) ∧ (∀ j x, j + 1 = goPut b l n → l[j]? = some x → lessB b x = false)
  | 0, _ => ⟨fun j x _ h => by omega, fun j x h => by simp [goPut] at h⟩
  | n + 1, hn => by
    obtain ⟨y, hy, _⟩ := at_some (l := l) (i := n) (by omega)
    have he : goPut b l (n + 1) = if lessB b y then goPut b l n else n + 1 := by rw [goPut, hy]
    cases h : lessB b y with
    | true =>
      rw [he, h, if_pos rfl]
      obtain ⟨h1, h2⟩ := goPut_spec (b := b) (l := l) n (by omega)
      refine ⟨fun j x hj hjn hx => ?_, h2⟩
      by_cases e : j = n
      · subst e; rw [hy] at hx; cases hx; exact h
      · exact h1 j x hj (by omega) hx
    | false =>
      rw [he, h, if_neg (by simp)]
      refine ⟨fun j x hj hjn => by omega, fun j x hj hx => ?_⟩
      have : j = n := by omega
      subst this
      rw [hy] at hx; cases hx
      exact h
theorem putB_mem {l : List (List SlotT)} {b x : List SlotT} : x ∈ putB l b ↔ x ∈ l ∨ x = b := by
  unfold putB
  split
  · rename_i h
    exact ⟨.inl, fun h2 => h2.elim id fun e => e ▸ h⟩
  · unfold insP
    have e : x ∈ l ↔ x ∈ l.take (goPut b l l.length) ∨ x ∈ l.drop (goPut b l l.length) := by rw [← List.mem_append, List.take_append_drop]
    rw [List.mem_append, List.mem_cons, e]
    constructor
    · rintro (h | h | h)
      · exact .inl (.inl h)
      · exact .inr h
      · exact .inl (.inr h)
    · rintro ((h | h) | h)
      · exact .inl h
      · exact .inr (.inr h)
      · exact .inr (.inl h)
theorem putB_strict {l : List (List SlotT)} {b : List SlotT} (ok : ∀ x ∈ l, okL x) (okb : okL b) (h : l.Pairwise fun a b => lessB a b = true) : (putB l b).Pairwise fun a b => lessB a b = true := by
  unfold putB
  split
  · exact h
  · rename_i hb
    obtain ⟨h1, h2⟩ := goPut_spec (b := b) (l := l) l.length (Nat.le_refl _)
    have hle := goPut_le b l l.length
    unfold insP
    generalize goPut b l l.length = g at *
    have hd : ∀ y ∈ l.drop g, lessB b y = true := fun y hy => by
      obtain ⟨j, hj⟩ := List.getElem?_of_mem hy
      rw [List.getElem?_drop] at hj
      exact h1 (g + j) y (by omega) (List.getElem?_eq_some_iff.1 hj).1 hj
    have ht : ∀ y ∈ l.take g, lessB y b = true := fun y hy => by
      obtain ⟨j, hj⟩ := List.getElem?_of_mem hy
      rw [List.getElem?_take] at hj
      split at hj
      · rename_i hjg
        obtain ⟨z, hz, hzm⟩ := at_some (l := l) (i := g - 1) (by omega)
        have hzb := h2 (g - 1) z (by omega) hz
        have hzb2 : lessB z b = true := by
          rcases lessB_tot (ok z hzm) okb (fun e => hb (e ▸ hzm)) with h3 | h3
          · exact h3
          · rw [hzb] at h3; cases h3
        by_cases e : j = g - 1
        · subst e
          rw [hz] at hj; cases hj
          exact hzb2
        · obtain ⟨a1, a2⟩ := List.getElem?_eq_some_iff.1 hj
          obtain ⟨b1, b2⟩ := List.getElem?_eq_some_iff.1 hz
          have := (List.pairwise_iff_getElem.1 h) j (g - 1) a1 b1 (by omega)
          rw [a2, b2] at this
          exact lessB_trans this hzb2
      · cases hj
    rw [List.pairwise_append, List.pairwise_cons]
    refine ⟨h.sublist (List.take_sublist _ _), ⟨hd, h.sublist (List.drop_sublist _ _)⟩, fun a ha c hc => ?_⟩
    rcases List.mem_cons.1 hc with e | e
    · rw [e]; exact ht a ha
    · exact lessB_trans (ht a ha) (hd c e)
theorem puts_strict : ∀ (m w : List (List SlotT)), (∀ x ∈ m, okL x) → (∀ x ∈ w, okL x) → w.Pairwise (fun a b => lessB a b = true) → (m.foldl putB w).Pairwise (fun a b => lessB a b = true) ∧ ∀ x, x ∈ m.foldl putB w ↔ x ∈ w ∨ x ∈ m
  | [], w, _, _, h => ⟨h, fun x => by simp⟩
  | b :: m, w, hm, hw, h => by
    obtain ⟨h1, h2⟩ := puts_strict m (putB w b) (fun x hx => hm x (by simp [hx])) (fun x hx => (putB_mem.1 hx).elim (hw x) fun e => e ▸ hm b (by simp)) (putB_strict hw (hm b (by simp)) h)
    refine ⟨h1, fun x => ?_⟩
    rw [List.foldl_cons, h2, putB_mem, List.mem_cons]
    exact ⟨fun h => h.elim (fun h => h.elim .inl fun h => .inr (.inl h)) fun h => .inr (.inr h), fun h => h.elim (fun h => .inl (.inl h)) fun h => h.elim (fun h => .inl (.inr h)) .inr⟩
theorem order_puts {m : List (List SlotT)} (ok : ∀ x ∈ m, okL x) : orderB m = m.foldl putB [] := by
  obtain ⟨h1, h2⟩ := puts_strict m [] ok (fun x h => by cases h) List.Pairwise.nil
  refine strict_ext (orderB_strict ok) h1 fun x => ?_
  rw [orderB_mem, h2]
  simp
end Go.Proofs.Ytjkdpahaingjjaa.Ab
namespace Go.Proofs.Ytjkdpahaingjjaa.Ab
open Go Go.RowKit
set_option linter.unusedSimpArgs false
set_option linter.unusedVariables false
set_option maxHeartbeats 4000000
set_option maxRecDepth 100000
variable {G : Nat → Option AV}
theorem puts_mem : ∀ (m w : List (List SlotT)) (x : List SlotT), x ∈ m.foldl putB w → x ∈ w ∨ x ∈ m
  | [], w, x, h => .inl h
  | b :: m, w, x, h => by
    rw [List.foldl_cons] at h
    rcases puts_mem m (putB w b) x h with h | h
    · rcases putB_mem.1 h with h | h
      · exact .inl h
      · exact .inr (by simp [h])
    · exact .inr (by simp [h])
theorem puts_len : ∀ (m w : List (List SlotT)), (m.foldl putB w).length ≤ w.length + m.length
  | [], w => by simp
  | b :: m, w => by
    have h := puts_len m (putB w b)
    have h2 : (putB w b).length ≤ w.length + 1 := by
      unfold putB
      split
      · omega
      · have := goPut_le b w w.length
        simp only [insP, List.length_append, List.length_cons, List.length_take, List.length_drop]
        omega
    rw [List.foldl_cons, List.length_cons]
    omega
end Go.Proofs.Ytjkdpahaingjjaa.Ab
