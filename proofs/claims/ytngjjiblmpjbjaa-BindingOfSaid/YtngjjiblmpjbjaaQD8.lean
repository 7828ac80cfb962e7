/-
  num.Op, value.truth, text, Less, Op: what operators make of values. proctorref03: the order of texts and values, what operators make of values. Automata's parts as values; slices' and core's generic functions over them. Names, in plain words: bytes, signs, words. strings, schema, proctorref07: names and declarations. schema, proctorref07: declarations. proctorref01, proctorref03, proctorref13.Type: what operators make of empty values. core: expressions. core: the expressions of all nodes. No claim is proved here.
-/
import Derived.Test.YtngjjiblmpjbjaaQD1
import Derived.Test.YtngjjiblmpjbjaaQN0
namespace Go.Proofs.Ytngjjiblmpjbjaa.Ab
open Go
set_option linter.unusedSimpArgs false
set_option maxHeartbeats 4000000
set_option maxRecDepth 100000
variable {G : Nat → Option AV}
theorem val_beq (k n : Int) (s : Str) (t : Bool) (k' n' : Int) (s' : Str) (t' : Bool) : ((⟨k, n, s, t⟩ : Val) == ⟨k', n', s', t'⟩) = (k == k' && (n == n' && (s == s' && t == t'))) := by
  rw [Bool.eq_iff_iff]
  simp
end Go.Proofs.Ytngjjiblmpjbjaa.Ab
namespace Go.Proofs.Ytngjjiblmpjbjaa.Ab
open Go
set_option linter.unusedSimpArgs false
set_option maxHeartbeats 4000000
set_option maxRecDepth 100000
variable {G : Nat → Option AV}
theorem drop_at {α : Type} {l : List α} {i : Nat} {x : α} (h : l[i]? = some x) : l.drop i = x :: l.drop (i + 1) := by
  obtain ⟨hlt, rfl⟩ := List.getElem?_eq_some_iff.1 h
  exact List.drop_eq_getElem_cons hlt
end Go.Proofs.Ytngjjiblmpjbjaa.Ab
namespace Go.Proofs.Ytngjjiblmpjbjaa.Ab
open Go
set_option linter.unusedSimpArgs false
set_option maxHeartbeats 4000000
variable {G : Nat → Option AV}
end Go.Proofs.Ytngjjiblmpjbjaa.Ab
namespace Go.Proofs.Ytngjjiblmpjbjaa.Ab
open Go
/-- A letter, a digit or _. -/
def nb (c : UInt8) : Bool := c.toNat == 95 || (decide (48 ≤ c.toNat) && decide (c.toNat ≤ 57) || (decide (65 ≤ c.toNat) && decide (c.toNat ≤ 90) || decide (97 ≤ c.toNat) && decide (c.toNat ≤ 122)))
end Go.Proofs.Ytngjjiblmpjbjaa.Ab
namespace Go.Proofs.Ytngjjiblmpjbjaa.Ab
open Go
set_option linter.unusedSimpArgs false
set_option maxHeartbeats 4000000
variable {G : Nat → Option AV}
end Go.Proofs.Ytngjjiblmpjbjaa.Ab
namespace Go.Proofs.Ytngjjiblmpjbjaa.Ab
open Go
set_option linter.unusedSimpArgs false
set_option maxHeartbeats 4000000
variable {G : Nat → Option AV}
end Go.Proofs.Ytngjjiblmpjbjaa.Ab
namespace Go.Proofs.Ytngjjiblmpjbjaa.Ab
open Go
set_option linter.unusedSimpArgs false
set_option maxHeartbeats 4000000
variable {G : Nat → Option AV}
end Go.Proofs.Ytngjjiblmpjbjaa.Ab
namespace Go.Proofs.Ytngjjiblmpjbjaa.Ab
open Go
set_option linter.unusedSimpArgs false
set_option maxHeartbeats 4000000
variable {G : Nat → Option AV}
structure ExT where
  kind : Int
  depth : Int
  from_ : Int
deriving DecidableEq
abbrev e0 : ExT := ⟨0, 0, 0⟩
end Go.Proofs.Ytngjjiblmpjbjaa.Ab
namespace Go.Proofs.Ytngjjiblmpjbjaa.Ab
open Go
set_option linter.unusedSimpArgs false
set_option maxHeartbeats 4000000
variable {G : Nat → Option AV}
theorem aiaddr_arr {H : List (Nat × Box)} {sz i k m n : Nat} (hn : n < m) : aiaddr H sz (.arr i k m) (.int .i64 (n : Int)) = (hget H i).bind fun b => if b.sz = sz then some (.ref i (k + n) 0) else none := by
  simp only [aiaddr]
  cases hget H i with
  | none => rfl
  | some b => simp [show (n : Int) < m by omega]
end Go.Proofs.Ytngjjiblmpjbjaa.Ab
