/-
  Lists of values, and functions handed over: what proofs about loops share. Numbers as texts, in plain words. No claim is proved here.
-/
import Derived.Test.YtdfdiglnpekcpabDoorWAbRun
import Derived.Lib.ItoaNum
namespace Go.Proofs.YtdfdiglnpekcpabDoor.Ab
open Go
abbrev iv (n : Int) : AV := .int .i64 n
abbrev Str := List UInt8
theorem fit_eq {a b : AV} (h : a = b) : Fit a b := h ▸ .refl _
theorem fitB {a b : Bool} (h : a = b) : Fit (.bool a) (.bool b) := h ▸ .refl _
theorem fitI {a b : Int} (h : a = b) : Fit (iv a) (iv b) := h ▸ .refl _
theorem aiaddr_map {α : Type} {e : α → AV} {H : List (Nat × Box)} {sz : Nat} {l : List α} {i : Nat} {x : α} (h : l[i]? = some x) : aiaddr H sz (.seq sz (l.map e)) (.int .i64 (i : Int)) = some (.eptr (e x) 0) :=
  aiaddr_seq _ (by omega) (by simp [h])
theorem wrap_succ {i n : Nat} (h : i < n) (hn : n < 9223372036854775808) : IntKind.i64.wrap ((i : Int) + 1) = ((i + 1 : Nat) : Int) := by rw [wrap_i64 (by omega) (by omega)]; omega
theorem at_some {α : Type} {l : List α} {i : Nat} (h : i < l.length) : ∃ x, l[i]? = some x ∧ x ∈ l := ⟨l[i], List.getElem?_eq_getElem h, List.getElem_mem h⟩
end Go.Proofs.YtdfdiglnpekcpabDoor.Ab
namespace Go.Proofs.YtdfdiglnpekcpabDoor.Ab
open Go
set_option linter.unusedSimpArgs false
theorem abin_adds {a b : Str} (h : a.length + b.length ≤ 9223372036854775807) : abin .add (.str a) (.str b) = some (.str (a ++ b)) := by simp [abin, h]
def i64 (n : Int) : Prop := -9223372036854775808 ≤ n ∧ n < 9223372036854775808
end Go.Proofs.YtdfdiglnpekcpabDoor.Ab
