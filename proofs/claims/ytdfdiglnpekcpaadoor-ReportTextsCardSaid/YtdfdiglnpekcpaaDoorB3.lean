/-
  report.Best and report.Worst: what they hand back. No claim is proved here.
-/
import Derived.Test.YtdfdiglnpekcpaaDoorB2
namespace Go.Proofs.YtdfdiglnpekcpaaDoor.Ab
open Go
set_option linter.unusedSimpArgs false

/-- The place of the best of the first i. -/
def bestAt {α : Type} (bet : α → α → Bool) (l : List α) : Nat → Option Nat
  | 0 => none
  | i + 1 => match bestAt bet l i, l[i]? with
    | none, _ => some i
    | some p, some x => match l[p]? with
      | some y => if bet x y then some i else some p
      | none => some p
    | some p, none => some p
def place : Option Nat → Int
  | none => -1
  | some p => p

theorem bestAt_lt {α : Type} (bet : α → α → Bool) (l : List α) : ∀ i p, bestAt bet l i = some p → p < i
  | 0, p, h => by simp [bestAt] at h
  | i + 1, p, h => by
    have ih := bestAt_lt bet l i
    simp only [bestAt] at h
    split at h
    · cases h; omega
    · rename_i p' x e1 e2
      have := ih p' e1
      split at h
      · split at h <;> cases h <;> omega
      · cases h; omega
    · rename_i p' e1 e2
      have := ih p' e1
      cases h; omega
end Go.Proofs.YtdfdiglnpekcpaaDoor.Ab
