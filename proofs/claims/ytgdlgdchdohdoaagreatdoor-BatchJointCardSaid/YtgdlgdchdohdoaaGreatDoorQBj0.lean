/-
  What verdicts have together, plainly: the greatest of them. No claim is proved here.
-/
import Derived.Test.YtgdlgdchdohdoaaGreatDoorQAbRun
namespace Go.Proofs.YtgdlgdchdohdoaaGreatDoor.Ab
open Go
/-- The first of 4, 3, 2 that stands among them, else 1. -/
def jnt (l : List Int) : Int := if 4 ∈ l then 4 else if 3 ∈ l then 3 else if 2 ∈ l then 2 else 1
theorem fm_spec : ∀ (l : List Int) (a : Int), (∀ v ∈ l, v ≤ l.foldl max a) ∧ a ≤ l.foldl max a ∧ (l.foldl max a = a ∨ l.foldl max a ∈ l)
  | [], a => ⟨fun v hv => (by cases hv), Int.le_refl _, .inl rfl⟩
  | x :: l, a => by
    obtain ⟨h1, h2, h3⟩ := fm_spec l (max a x)
    rw [List.foldl_cons]
    refine ⟨fun v hv => ?_, by omega, ?_⟩
    · rcases List.mem_cons.1 hv with rfl | hv
      · omega
      · exact h1 v hv
    · rcases h3 with h3 | h3
      · by_cases h : x ≤ a
        · exact .inl (by omega)
        · exact .inr (by rw [h3, show max a x = x by omega]; exact List.mem_cons_self)
      · exact .inr (List.mem_cons_of_mem _ h3)
theorem jnt_max (l : List Int) (h : ∀ v ∈ l, 1 ≤ v ∧ v ≤ 4) : jnt l = l.foldl max 1 := by
  obtain ⟨h1, h2, h3⟩ := fm_spec l 1
  generalize l.foldl max 1 = m at *
  have hm : m = 1 ∨ (m ∈ l ∧ m ≤ 4) := by
    rcases h3 with h3 | h3
    · exact .inl h3
    · exact .inr ⟨h3, (h m h3).2⟩
  unfold jnt
  by_cases h4 : (4 : Int) ∈ l
  · rw [if_pos h4]; have := h1 4 h4; omega
  rw [if_neg h4]
  by_cases h5 : (3 : Int) ∈ l
  · rw [if_pos h5]
    have := h1 3 h5
    rcases hm with hm | ⟨hm, hle⟩
    · omega
    · by_cases e : m = 4
      · subst e; exact absurd hm h4
      · omega
  rw [if_neg h5]
  by_cases h6 : (2 : Int) ∈ l
  · rw [if_pos h6]
    have := h1 2 h6
    rcases hm with hm | ⟨hm, hle⟩
    · omega
    · by_cases e : m = 4
      · subst e; exact absurd hm h4
      · by_cases e : m = 3
        · subst e; exact absurd hm h5
        · omega
  rw [if_neg h6]
  rcases hm with hm | ⟨hm, hle⟩
  · exact hm.symm
  · have := h m hm
    by_cases e : m = 4
    · subst e; exact absurd hm h4
    by_cases e : m = 3
    · subst e; exact absurd hm h5
    by_cases e : m = 2
    · subst e; exact absurd hm h6
    omega
/-- The k-th verdicts of the first outcomes. -/
def colV (ls : List (List Int)) (k : Nat) : List Int := ls.map fun l => l.getD k 0
theorem colV_right {ls : List (List Int)} {k : Nat} (h : ∀ l ∈ ls, k < l.length ∧ ∀ v ∈ l, 1 ≤ v ∧ v ≤ 4) : ∀ v ∈ colV ls k, 1 ≤ v ∧ v ≤ 4 := by
  intro v hv
  obtain ⟨l, hl, rfl⟩ := List.mem_map.1 hv
  obtain ⟨h1, h2⟩ := h l hl
  rw [List.getD_eq_getElem?_getD, List.getElem?_eq_getElem h1]
  exact h2 _ (List.getElem_mem h1)
/-- How many all have. -/
def leastN (a : Nat) (ls : List (List Int)) : Nat := ls.foldl (fun n l => min n l.length) a
theorem leastN_spec : ∀ (ls : List (List Int)) (a : Nat), leastN a ls ≤ a ∧ ∀ l ∈ ls, leastN a ls ≤ l.length
  | [], a => ⟨Nat.le_refl _, fun l hl => (by cases hl)⟩
  | x :: ls, a => by
    obtain ⟨h1, h2⟩ := leastN_spec ls (min a x.length)
    have e : leastN a (x :: ls) = leastN (min a x.length) ls := rfl
    rw [e]
    refine ⟨by omega, fun l hl => ?_⟩
    rcases List.mem_cons.1 hl with rfl | hl
    · omega
    · exact h2 l hl
end Go.Proofs.YtgdlgdchdohdoaaGreatDoor.Ab
