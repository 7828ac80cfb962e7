/-
  The binding of slots: the search's one is the document's (the end). No claim is proved here.
-/
import Derived.Test.YtjkdpahaingjjaaQBp1
namespace Go.Proofs.Ytjkdpahaingjjaa.Ab
open Go
set_option linter.unusedSimpArgs false
theorem mem_unionN {a b : List SlotT} {n : Nat} {x : SlotT} : x ∈ unionN a b n ↔ ∃ v, v < n ∧ x ∈ unionOne a b v := by
  unfold unionN
  rw [List.mem_flatMap]
  constructor
  · rintro ⟨v, hv, h⟩
    exact ⟨v, List.mem_range.1 hv, h⟩
  · rintro ⟨v, hv, h⟩
    exact ⟨v, List.mem_range.2 hv, h⟩
theorem unionOne_var {a b : List SlotT} {v : Nat} {x : SlotT} (h : x ∈ unionOne a b v) : x.var = v := by
  unfold unionOne at h
  split at h
  · simp only [List.mem_singleton] at h
    rw [h]
  · split at h
    · simp only [List.mem_singleton] at h
      rw [h]
    · cases h
theorem unionN_srt (a b : List SlotT) : ∀ n, (unionN a b n).Pairwise fun x y => x.var < y.var
  | 0 => by simp [unionN]
  | n + 1 => by
    rw [unionN_succ, List.pairwise_append]
    refine ⟨unionN_srt a b n, ?_, fun x hx y hy => ?_⟩
    · unfold unionOne
      split
      · simp
      · split <;> simp
    · obtain ⟨v, hv, h⟩ := mem_unionN.1 hx
      rw [unionOne_var h, unionOne_var hy]
      omega
theorem getR_yes2 {m : List SlotT} {v : Int} (h : (getR m v).2 = true) : ∃ y ∈ m, y.var = v ∧ (getR m v).1 = y.value := by
  unfold getR at h ⊢
  split at h
  · rename_i s hs
    refine ⟨s, List.mem_of_find?_eq_some hs, by simpa using List.find?_some hs, rfl⟩
  · cases h
theorem getR_no2 {m : List SlotT} {v : Int} (h : (getR m v).2 = false) : ∀ y ∈ m, y.var ≠ v := by
  intro y hy e
  unfold getR at h
  split at h
  · cases h
  · rename_i hn
    have := List.find?_eq_none.1 hn y hy
    simp [e] at this
theorem mem_union {m : List SlotT} {s : SlotT} (h : Can m) (hs : goodS s) {x : SlotT} : x ∈ unionR m [s] ↔ x ∈ m ∨ (x = s ∧ ∀ y ∈ m, y.var ≠ s.var) := by
  show x ∈ unionN m [s] 8 ↔ _
  rw [mem_unionN]
  constructor
  · rintro ⟨v, hv, hx⟩
    unfold unionOne at hx
    split at hx
    · rename_i h1
      obtain ⟨y, hy, e1, e2⟩ := getR_yes2 h1
      simp only [List.mem_singleton] at hx
      left
      rw [hx, e2, ← e1]
      exact hy
    · rename_i h1
      split at hx
      · rename_i h2
        obtain ⟨y, hy, e1, e2⟩ := getR_yes2 h2
        simp only [List.mem_singleton] at hx hy
        subst hy
        right
        refine ⟨by rw [hx, e2, ← e1], fun z hz => ?_⟩
        rw [e1]
        exact getR_no2 (by simpa using h1) z hz
      · cases hx
  · have key : ∀ y : SlotT, goodS y → ∃ v : Nat, v < 8 ∧ (v : Int) = y.var := fun y hy => ⟨y.var.toNat, by have := hy.1; have := hy.2.1; omega, by have := hy.1; omega⟩
    rintro (hx | ⟨rfl, hn⟩)
    · obtain ⟨v, hv, e⟩ := key x (h.good x hx)
      refine ⟨v, hv, ?_⟩
      unfold unionOne
      rw [e, getR_some h hx]
      simp
    · obtain ⟨v, hv, e⟩ := key x hs
      refine ⟨v, hv, ?_⟩
      unfold unionOne
      rw [e, getR_none hn]
      simp [getR]
theorem bs_ok {p : SlotT → Bool} {l : List SlotT} (mono : ∀ (i j : Nat) x y, i ≤ j → l[i]? = some x → l[j]? = some y → p y = true → p x = true) : ∀ (k i j : Nat), j ≤ l.length → i ≤ j → j - i ≤ k →
    (∀ t x, t < i → l[t]? = some x → p x = true) → (∀ t x, j ≤ t → l[t]? = some x → p x = false) →
    (∀ t x, t < bsGo p l k i j → l[t]? = some x → p x = true) ∧ (∀ t x, bsGo p l k i j ≤ t → l[t]? = some x → p x = false)
  | 0, i, j, hj, hij, hk, h1, h2 => by
    have : i = j := by omega
    subst this
    exact ⟨h1, h2⟩
  | k + 1, i, j, hj, hij, hk, h1, h2 => by
    by_cases hlt : i < j
    · obtain ⟨x, hx, _⟩ := at_some (l := l) (i := (i + j) / 2) (by omega)
      rw [bsGo_step hlt hx]
      cases hp : p x with
      | true =>
        rw [if_pos rfl]
        refine bs_ok mono k _ j hj (by omega) (by omega) (fun t y ht hy => ?_) h2
        exact mono t ((i + j) / 2) y x (by omega) hy hx hp
      | false =>
        rw [if_neg (by simp)]
        refine bs_ok mono k i _ (by omega) (by omega) (by omega) h1 fun t y ht hy => ?_
        cases hq : p y with
        | false => rfl
        | true => rw [mono ((i + j) / 2) t x y ht hx hy hq] at hp; cases hp
    · have : i = j := by omega
      subst this
      rw [bsGo_end (by omega)]
      exact ⟨h1, h2⟩
theorem cmpS_eq {x : SlotT} {v : Int} (hx : goodS x) (h0 : 0 ≤ v) (h7 : v ≤ 7) : cmpS x v = x.var - v := by
  unfold cmpS
  have := hx.1
  have := hx.2.1
  exact wrap_i64 (by omega) (by omega)
theorem find_ok {m : List SlotT} (h : Can m) {v : Int} (h0 : 0 ≤ v) (h7 : v ≤ 7) : (∀ t x, t < findI m v → m[t]? = some x → x.var < v) ∧ (∀ t x, findI m v ≤ t → m[t]? = some x → v ≤ x.var) := by
  have hp : ∀ t x, m[t]? = some x → (ltS v x = true ↔ x.var < v) := fun t x hx => by
    unfold ltS
    rw [cmpS_eq (h.good x (List.mem_of_getElem? hx)) h0 h7, decide_eq_true_eq]
    omega
  obtain ⟨h1, h2⟩ := bs_ok (p := ltS v) (l := m) (fun i j x y hij hx hy hpy => by
    rw [hp i x hx]
    rw [hp j y hy] at hpy
    rcases Nat.lt_or_ge i j with hlt | hge
    · obtain ⟨hi1, hi2⟩ := List.getElem?_eq_some_iff.1 hx
      obtain ⟨hj1, hj2⟩ := List.getElem?_eq_some_iff.1 hy
      have := (List.pairwise_iff_getElem.1 h.srt) i j hi1 hj1 hlt
      rw [hi2, hj2] at this
      omega
    · have : i = j := by omega
      subst this
      rw [hx] at hy
      cases hy
      exact hpy) m.length 0 m.length (Nat.le_refl _) (Nat.zero_le _) (by omega) (fun t x ht => by omega) (fun t x ht hx => by have := (List.getElem?_eq_some_iff.1 hx).1; omega)
  refine ⟨fun t x ht hx => (hp t x hx).1 (h1 t x ht hx), fun t x ht hx => ?_⟩
  have h3 := h2 t x ht hx
  have h4 := hp t x hx
  rw [h3] at h4
  simp only [Bool.false_eq_true, false_iff] at h4
  omega
theorem findB_iff {m : List SlotT} (h : Can m) {v : Int} (h0 : 0 ≤ v) (h7 : v ≤ 7) : findB m v = true ↔ ∃ y, m[findI m v]? = some y ∧ y.var = v := by
  unfold findB
  constructor
  · intro hb
    split at hb
    · rename_i x hx
      refine ⟨x, hx, ?_⟩
      rw [cmpS_eq (h.good x (List.mem_of_getElem? hx)) h0 h7, beq_iff_eq] at hb
      omega
    · cases hb
  · rintro ⟨y, hy, e⟩
    rw [hy]
    simp only
    rw [cmpS_eq (h.good y (List.mem_of_getElem? hy)) h0 h7, beq_iff_eq]
    omega
theorem findB_no {m : List SlotT} (h : Can m) {v : Int} (h0 : 0 ≤ v) (h7 : v ≤ 7) (hb : findB m v = false) : ∀ y ∈ m, y.var ≠ v := by
  intro y hy e
  obtain ⟨h1, h2⟩ := find_ok h h0 h7
  obtain ⟨t, ht⟩ := List.getElem?_of_mem hy
  have htl := (List.getElem?_eq_some_iff.1 ht).1
  have hge : findI m v ≤ t := by
    rcases Nat.lt_or_ge t (findI m v) with hlt | hge
    · have := h1 t y hlt ht
      omega
    · exact hge
  obtain ⟨z, hz, _⟩ := at_some (l := m) (i := findI m v) (by omega)
  have h3 := h2 _ z (Nat.le_refl _) hz
  have hzv : z.var = v := by
    rcases Nat.lt_or_ge (findI m v) t with hlt | hge2
    · obtain ⟨hi1, hi2⟩ := List.getElem?_eq_some_iff.1 hz
      obtain ⟨hj1, hj2⟩ := List.getElem?_eq_some_iff.1 ht
      have := (List.pairwise_iff_getElem.1 h.srt) _ _ hi1 hj1 hlt
      rw [hi2, hj2] at this
      omega
    · have : findI m v = t := by omega
      rw [this, ht] at hz
      cases hz
      exact e
  have := (findB_iff h h0 h7).2 ⟨z, hz, hzv⟩
  rw [hb] at this
  cases this
end Go.Proofs.Ytjkdpahaingjjaa.Ab
