/-
  eval.frame.run, walked. No claim is proved here.
-/
import Derived.Test.YtdfdiglnpekcpabDoorWK1
import Derived.Below
import Derived.Lib.Hide
namespace Go.Proofs.YtdfdiglnpekcpabDoor.Ab
open Go Go.RowKit Go.Extern.Stop Go.Stop Go.Extern
set_option linter.unusedSimpArgs false
set_option maxHeartbeats 4000000
set_option maxRecDepth 100000
theorem bcell {W w1 : World} (hb : Below W.heap.size W w1) : (∀ b o, b < W.heap.size → w1.cell? ⟨b, o, none⟩ = W.cell? ⟨b, o, none⟩) ∧ (∀ b o, b < W.heap.size → w1.frozen? ⟨b, o, none⟩ = W.frozen? ⟨b, o, none⟩) :=
  ⟨fun b o h => hb.cell (p := ⟨b, o, none⟩) h, fun b o h => hb.frozen (p := ⟨b, o, none⟩) h⟩
theorem heap_at (w : World) (x : Obj) {g : Nat} (h : g = w.heap.size) : (w.alloc x).heap[g]? = some x := by
  subst h
  unfold World.alloc
  rw [Array.getElem?_push, if_pos rfl]
theorem heap_lt (w : World) (x : Obj) {g : Nat} {y : Obj} (h : w.heap[g]? = some y) : (w.alloc x).heap[g]? = some y := by
  have := (Array.getElem?_eq_some_iff.1 h).1
  unfold World.alloc
  rw [Array.getElem?_push, if_neg (by omega)]
  exact h
section
variable (u0 u1 u2 u3 u4 u5 u6 u7 u8 u9 u10 : Value) (n : Int) (w : World)
/-- The world at the call of the node. -/
abbrev runW : World := ((w.alloc (.cells #[u0, u1, u2, u3, u4, u5, u6, u7, u8, u9, u10] 95)).alloc (.cells #[.int .i64 0, .int .i64 0, .string ⟨#[]⟩, .bool false] 46)).alloc (.cells #[.nilIface] 92)
theorem runW_below : Below w.heap.size w (runW u0 u1 u2 u3 u4 u5 u6 u7 u8 u9 u10 w) := (((Below.refl _ _).alloc (Nat.le_refl _) _).alloc (by simp) _).alloc (by simp; omega) _
theorem runW_v (j : Nat) (v : Value) (h : (#[.int .i64 0, .int .i64 0, .string ⟨#[]⟩, .bool false] : Array Value)[j]? = some v) : (runW u0 u1 u2 u3 u4 u5 u6 u7 u8 u9 u10 w).cell? ⟨w.heap.size + 1, j, none⟩ = some v := by
  unfold runW
  rw [World.cell?_alloc_lt _ _ ⟨w.heap.size + 1, j, none⟩ (by simp), World.cell?_alloc_at _ _ _ _ (by simp)]
  exact h
theorem run_walk_ok (k m : Int) (s : ByteArray) (t : Bool)
    (hn : ∀ W : World, Below w.heap.size w W → Calls Tryd.prog 66 #[.agg #[u0, u1, u2, u3, u4, u5, u6, u7, u8, u9, u10], .int .i64 n] W fun e W' => e = .returned (.agg #[.int .i64 k, .int .i64 m, .string s, .bool t]) ∧ Below W.heap.size W W') :
    Calls Tryd.prog 40 #[.agg #[u0, u1, u2, u3, u4, u5, u6, u7, u8, u9, u10], .int .i64 n] w fun e w' => e = .returned (.tuple #[.agg #[.int .i64 k, .int .i64 m, .string s, .bool t], .nilIface]) ∧ Below w.heap.size w w' := by
  have hmf : ∀ (fn : Fn) (first cap : Array Value) (w : World), (Instr.makeFunc fn first cap).run Tryd.prog w = .ok (.func fn first cap) w := fun _ _ _ _ => rfl
  have hn := hn _ (runW_below u0 u1 u2 u3 u4 u5 u6 u7 u8 u9 u10 w)
  have hb0 := Lib.hid (runW_below u0 u1 u2 u3 u4 u5 u6 u7 u8 u9 u10 w)
  go_enter_defers Tryd.func40, Tryd.ntmps40
  go_wp2_with (go_at_call 66; refine hn.mono ?_; rintro e W' ⟨rfl, hb⟩; (obtain ⟨hc, hf⟩ := bcell hb); (have hB := Lib.hid hb); clear hb)
  have z0 : W'.cell? ⟨w.heap.size + 1, 0, none⟩ = some (.int .i64 0) := by rw [hc _ _ (by simp)]; exact runW_v u0 u1 u2 u3 u4 u5 u6 u7 u8 u9 u10 w 0 _ rfl
  have z1 : W'.cell? ⟨w.heap.size + 1, 1, none⟩ = some (.int .i64 0) := by rw [hc _ _ (by simp)]; exact runW_v u0 u1 u2 u3 u4 u5 u6 u7 u8 u9 u10 w 1 _ rfl
  have z2 : W'.cell? ⟨w.heap.size + 1, 2, none⟩ = some (.string ⟨#[]⟩) := by rw [hc _ _ (by simp)]; exact runW_v u0 u1 u2 u3 u4 u5 u6 u7 u8 u9 u10 w 2 _ rfl
  have z3 : W'.cell? ⟨w.heap.size + 1, 3, none⟩ = some (.bool false) := by rw [hc _ _ (by simp)]; exact runW_v u0 u1 u2 u3 u4 u5 u6 u7 u8 u9 u10 w 3 _ rfl
  have z4 : W'.cell? ⟨w.heap.size + 1 + 1, 0, none⟩ = some .nilIface := by rw [hc _ _ (by simp)]; exact World.cell?_alloc_at _ _ _ _ (by simp)
  clear hc hf
  refine leaves_cons (f := 65) (args := #[.pointer (some ⟨w.heap.size + 1, 0, none⟩), .pointer (some ⟨w.heap.size + 1 + 1, 0, none⟩)]) (by simp) (by simp [go_sem]) ?_
  refine (run1_idle _ _ _).mono ?_
  rintro e u' w'' ⟨rfl, rfl, rfl⟩
  simp [Leaves, settle, results, Tryd.results40, go_sem, z0, z1, z2, z3, z4]
  exact (((((hb0.out.trans (hB.out.mono (by simp; omega))).setCell (by simp) _).setCell (by simp) _).setCell (by simp) _).setCell (by simp) _).setCell (by simp; omega) _
theorem run_walk_err (at_ e : Int)
    (hn : ∀ W : World, Below w.heap.size w W → Calls Tryd.prog 66 #[.agg #[u0, u1, u2, u3, u4, u5, u6, u7, u8, u9, u10], .int .i64 n] W fun ev W' => ev = .panicked [{ v := wrongX at_ e, recovered := false }] ∧ Below W.heap.size W W') :
    Calls Tryd.prog 40 #[.agg #[u0, u1, u2, u3, u4, u5, u6, u7, u8, u9, u10], .int .i64 n] w fun ev w' => ev = .returned (.tuple #[.agg #[.int .i64 0, .int .i64 0, .string ⟨#[]⟩, .bool false], wrongX at_ e]) ∧ Below w.heap.size w w' := by
  have hmf : ∀ (fn : Fn) (first cap : Array Value) (w : World), (Instr.makeFunc fn first cap).run Tryd.prog w = .ok (.func fn first cap) w := fun _ _ _ _ => rfl
  have hn := hn _ (runW_below u0 u1 u2 u3 u4 u5 u6 u7 u8 u9 u10 w)
  have hb0 := Lib.hid (runW_below u0 u1 u2 u3 u4 u5 u6 u7 u8 u9 u10 w)
  go_enter_defers Tryd.func40, Tryd.ntmps40
  go_wp2_with (go_at_call 66; refine hn.mono ?_; rintro e W' ⟨rfl, hb⟩; (obtain ⟨hc, hf⟩ := bcell hb); (have hB := Lib.hid hb))
  have h1 : W'.heap[w.heap.size + 1]? = some (.cells #[.int .i64 0, .int .i64 0, .string ⟨#[]⟩, .bool false] 46 (0, 0)) := by
    rw [hb.block _ (by simp)]
    exact heap_lt _ _ (heap_at _ _ (by simp))
  have h2 : W'.heap[w.heap.size + 1 + 1]? = some (.cells #[.nilIface] 92 (0, 0)) := by
    rw [hb.block _ (by simp)]
    exact heap_at _ _ (by simp)
  have hsz : w.heap.size + 1 + 1 < W'.heap.size := (Array.getElem?_eq_some_iff.1 h2).1
  clear hc hf
  refine leaves_cons (f := 65) (args := #[.pointer (some ⟨w.heap.size + 1, 0, none⟩), .pointer (some ⟨w.heap.size + 1 + 1, 0, none⟩)]) (by simp) (by simp [go_sem]) ?_
  refine (run1_pan _ _ w.heap.size at_ e _ _ _ _ _ _ (by omega) h1 h2 (by omega)).mono ?_
  rintro ev u' w'' ⟨rfl, rfl, ⟨z0, z1, z2, z3, z4⟩, hb2⟩
  simp [Leaves, settle, results, Tryd.results40, go_sem, z0, z1, z2, z3, z4]
  exact (hb0.out.trans (hB.out.mono (by simp; omega))).trans hb2
end
end Go.Proofs.YtdfdiglnpekcpabDoor.Ab
