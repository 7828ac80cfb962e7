/-
  eval's panics and errors, walked: must; the deferred function; errors.As, errors.Is. No claim is proved here.
-/
import Derived.Test.YtdfdiglnpekcpabDoorProg
import Derived.WalkKit
import Derived.WalkLawsBesides
import Derived.Defers
import Derived.Recover
import Derived.LaidEql
import Derived.Stop.Asserts
import Derived.RowKitTokens
import Derived.Outline
import Derived.RegionTactic
import Derived.Deep.Cut
import Derived.ChangeAlike
namespace Go.Proofs.YtdfdiglnpekcpabDoor.Ab
open Go Go.RowKit Go.Extern.Stop Go.Stop Go.Extern
set_option linter.unusedSimpArgs false
set_option maxHeartbeats 1000000
set_option maxRecDepth 100000
theorem must_walk (a k n e : Int) (s : ByteArray) (t : Bool) (he : (e != 0) = true) (w : World) : Calls Tryd.prog 93 #[.int .i64 a, .agg #[.int .i64 k, .int .i64 n, .string s, .bool t], .int .i64 e] w fun ev w' =>
    ev = .panicked [{ v := .iface 128 (.agg #[.int .i64 a, .iface 47 (.int .i64 e)]), recovered := false }] ∧ Below w.heap.size w w' := by
  go_enter Tryd.func93, Tryd.ntmps93
  go_wp2
  exact ⟨rfl, rfl, ((Below.refl _ _).alloc (Nat.le_refl _) _).alloc (by simp) _⟩
abbrev wrongX (a e : Int) : Value := .iface 128 (.agg #[.int .i64 a, .iface 47 (.int .i64 e)])
theorem run1_pan (vb eb n0 : Nat) (at_ e : Int) (x0 x1 x2 x3 y : Value) (w : World) (hne : vb ≠ eb) (hv : w.heap[vb]? = some (.cells #[x0, x1, x2, x3] 46 (0, 0))) (he : w.heap[eb]? = some (.cells #[y] 92 (0, 0))) (h0 : n0 ≤ vb ∧ n0 ≤ eb ∧ n0 ≤ w.heap.size) :
    CallsD Tryd.prog 65 #[.pointer (some ⟨vb, 0, none⟩), .pointer (some ⟨eb, 0, none⟩)] (.panicking [{ v := wrongX at_ e, recovered := false }]) w fun ev u' w' => ev = .returned (.tuple #[]) ∧ u' = .panicking [{ v := wrongX at_ e, recovered := true }] ∧
      (w'.cell? ⟨vb, 0, none⟩ = some (.int .i64 0) ∧ w'.cell? ⟨vb, 1, none⟩ = some (.int .i64 0) ∧ w'.cell? ⟨vb, 2, none⟩ = some (.string ⟨#[]⟩) ∧ w'.cell? ⟨vb, 3, none⟩ = some (.bool false) ∧ w'.cell? ⟨eb, 0, none⟩ = some (wrongX at_ e)) ∧ Below n0 w w' := by
  have v0 : w.cell? ⟨vb, 0, none⟩ = some x0 := by simp [World.cell?, hv]
  have v1 : w.cell? ⟨vb, 1, none⟩ = some x1 := by simp [World.cell?, hv]
  have v2 : w.cell? ⟨vb, 2, none⟩ = some x2 := by simp [World.cell?, hv]
  have v3 : w.cell? ⟨vb, 3, none⟩ = some x3 := by simp [World.cell?, hv]
  have e0 : w.cell? ⟨eb, 0, none⟩ = some y := by simp [World.cell?, he]
  have f0 : w.frozen? ⟨vb, 0, none⟩ = false := by simp [World.frozen?, hv]
  have f1 : w.frozen? ⟨vb, 1, none⟩ = false := by simp [World.frozen?, hv]
  have f2 : w.frozen? ⟨vb, 2, none⟩ = false := by simp [World.frozen?, hv]
  have f3 : w.frozen? ⟨vb, 3, none⟩ = false := by simp [World.frozen?, hv]
  have f4 : w.frozen? ⟨eb, 0, none⟩ = false := by simp [World.frozen?, he]
  have hvl : vb < w.heap.size := (Array.getElem?_eq_some_iff.1 hv).1
  have hel : eb < w.heap.size := (Array.getElem?_eq_some_iff.1 he).1
  have hvn : ¬ vb = w.heap.size := by omega
  have hen : ¬ eb = w.heap.size := by omega
  have hve : ¬ eb = vb := fun e => hne e.symm
  have hta : ∀ (v : Value) (w : World), (Instr.typeAssert (.iface 128 v) 20 128 true).run Tryd.prog w = .ok (.tuple #[v, .bool true]) w := fun _ _ => by kernel_rfl
  refine callsD_of_wpS Tryd.func65 rfl fun c₀ cs hu => ?_
  apply wpS_seq
  apply wpS_region
  simp [wpOpsS, go_sem, recoverD, hu, Tryd.ntmps65, Exit.thenS]
  rw [show (#[Value.pointer (some ⟨vb, 0, none⟩), Value.pointer (some ⟨eb, 0, none⟩)] ++ ((Array.replicate 16 undef).setIfInBounds 3 (wrongX at_ e)).setIfInBounds 0 (wrongX at_ e) : Array Value) = #[Value.pointer (some ⟨vb, 0, none⟩), Value.pointer (some ⟨eb, 0, none⟩), wrongX at_ e, undef, undef, wrongX at_ e, undef, undef, undef, undef, undef, undef, undef, undef, undef, undef, undef, undef] from rfl]
  apply wpS_of_wp
  go_wp2
  go_region
  go_wp2
  refine ⟨rfl, _, rfl, .tuple #[], results_none rfl _ _ _, rfl, rfl, ?_, ?_⟩
  · simp [go_sem, v0, v1, v2, v3, e0, hvn, hen, hve, hne, hvl, hel]
  · exact ((((((((Below.refl n0 w).setCell h0.1 _).setCell h0.1 _).setCell h0.1 _).setCell h0.1 _).setCell h0.2.1 _).alloc (by simpa using h0.2.2) _)).drew
theorem run1_idle (vb eb : Nat) (w : World) : CallsD Tryd.prog 65 #[.pointer (some ⟨vb, 0, none⟩), .pointer (some ⟨eb, 0, none⟩)] .returning w fun ev u' w' => ev = .returned (.tuple #[]) ∧ u' = .returning ∧ w' = w := by
  refine callsD_of_wpS Tryd.func65 rfl fun c₀ cs hu => ?_
  apply wpS_seq
  apply wpS_region
  simp [wpOpsS, go_sem, recoverD, hu, Tryd.ntmps65, Exit.thenS]
  rw [show (#[Value.pointer (some ⟨vb, 0, none⟩), Value.pointer (some ⟨eb, 0, none⟩)] ++ ((Array.replicate 16 undef).setIfInBounds 3 Value.nilIface).setIfInBounds 0 Value.nilIface : Array Value) = #[Value.pointer (some ⟨vb, 0, none⟩), Value.pointer (some ⟨eb, 0, none⟩), Value.nilIface, undef, undef, Value.nilIface, undef, undef, undef, undef, undef, undef, undef, undef, undef, undef, undef, undef] from rfl]
  apply wpS_of_wp
  go_wp2
  cases c₀
  simp only at hu
  subst hu
  exact ⟨rfl, _, rfl, .tuple #[], results_none rfl _ _ _, rfl, rfl, rfl⟩
end Go.Proofs.YtdfdiglnpekcpabDoor.Ab
