/-
  Lists of values, and functions handed over: what proofs about loops share. No claim is proved here.
-/
import Derived.Test.YtgdlgdchdohdoaaGreatDoorQAbRun
namespace Go.Proofs.YtgdlgdchdohdoaaGreatDoor.Ab
open Go
abbrev iv (n : Int) : AV := .int .i64 n
theorem fitB {a b : Bool} (h : a = b) : Fit (.bool a) (.bool b) := h ▸ .refl _
theorem fitI {a b : Int} (h : a = b) : Fit (iv a) (iv b) := h ▸ .refl _
theorem aiaddr_map {α : Type} {e : α → AV} {H : List (Nat × Box)} {sz : Nat} {l : List α} {i : Nat} {x : α} (h : l[i]? = some x) : aiaddr H sz (.seq sz (l.map e)) (.int .i64 (i : Int)) = some (.eptr (e x) 0) :=
  aiaddr_seq _ (by omega) (by simp [h])
theorem wrap_succ {i n : Nat} (h : i < n) (hn : n < 9223372036854775808) : IntKind.i64.wrap ((i : Int) + 1) = ((i + 1 : Nat) : Int) := by rw [wrap_i64 (by omega) (by omega)]; omega
theorem at_some {α : Type} {l : List α} {i : Nat} (h : i < l.length) : ∃ x, l[i]? = some x ∧ x ∈ l := ⟨l[i], List.getElem?_eq_getElem h, List.getElem_mem h⟩
/-- The place of the first one that is such; -1: there is none. -/
def idxF {α : Type} (p : α → Bool) (l : List α) : Int := match l.findIdx? p with | some i => (i : Int) | none => -1
theorem idxF_at {α : Type} {p : α → Bool} {l : List α} {i : Nat} {x : α} (hx : l[i]? = some x) (hp : p x = true) (hno : ∀ j y, j < i → l[j]? = some y → p y = false) : idxF p l = i := by
  have : l.findIdx? p = some i := by
    rw [List.findIdx?_eq_some_iff_getElem]
    obtain ⟨hlt, rfl⟩ := List.getElem?_eq_some_iff.1 hx
    exact ⟨hlt, hp, fun j hj => by simp [hno j _ hj (List.getElem?_eq_getElem (by omega))]⟩
  simp [idxF, this]
theorem idxF_none {α : Type} {p : α → Bool} {l : List α} (hno : ∀ j y, j < l.length → l[j]? = some y → p y = false) : idxF p l = -1 := by
  have : l.findIdx? p = none := by
    rw [List.findIdx?_eq_none_iff]
    intro x hx
    obtain ⟨j, hj⟩ := List.getElem?_of_mem hx
    exact hno j x (List.getElem?_eq_some_iff.1 hj).1 hj
  simp [idxF, this]
theorem idxF_any {α : Type} (p : α → Bool) (l : List α) : decide (0 ≤ idxF p l) = l.any p := by
  unfold idxF
  cases h : l.findIdx? p with
  | none =>
    rw [List.findIdx?_eq_none_iff] at h
    rw [show l.any p = false by rw [List.any_eq_false]; intro x hx; simp [h x hx]]
    rfl
  | some i =>
    rw [List.findIdx?_eq_some_iff_getElem] at h
    obtain ⟨hlt, hp, _⟩ := h
    rw [show l.any p = true by rw [List.any_eq_true]; exact ⟨l[i], List.getElem_mem hlt, hp⟩]
    simp
end Go.Proofs.YtgdlgdchdohdoaaGreatDoor.Ab
