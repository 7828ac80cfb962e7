/-
  Variables that are laid, as the reading of known variables has them. binding.both's function: each slot with what the other binding has. No claim is proved here.
-/
import Derived.Test.YtjkdpahaingjjaaZAbTrod
import Derived.FnData
import Derived.Test.YtjkdpahaingjjaaZN0
import Derived.Test.YtjkdpahaingjjaaZRf2
import Derived.Shelf.Abstract
import Derived.Shelf.RegionOpen
namespace Go.Proofs.Ytjkdpahaingjjaa.Ab
open Go Go.RowKit Go.ChangeShapes Go.WideShapes
theorem cell_lt {W : World} {g o : Nat} {v : Value} (h : W.cell? ⟨g, o, none⟩ = some v) : g < W.heap.size := by
  unfold World.cell? at h
  split at h
  · rename_i c _ _ hb
    exact (Array.getElem?_eq_some_iff.1 hb).1
  · cases h
/-- A law's contract, in the row's words, where variables are known. -/
theorem PureC.calls_trueG {P : Program} {G : Nat → Option AV} {f : Nat} {args : List AV} (h : PureC P G f args (.bool true)) {w : World} {F : Nat → Prop} {vs : Array Value} (hg : Good w F G) (ha : ArgsR w F args vs) :
    Calls P f vs w fun e w' => e = .returned (.bool true) ∧ Below w.heap.size w w' := by
  refine (h w F vs hg ha).mono ?_
  rintro e w' ⟨v, F', rfl, _, _, _, hr, hb⟩
  cases hr
  exact ⟨rfl, hb⟩
end Go.Proofs.Ytjkdpahaingjjaa.Ab
namespace Go.Proofs.Ytjkdpahaingjjaa.Ab
open Go Go.RowKit Go.Shelf
set_option linter.unusedSimpArgs false
set_option maxHeartbeats 4000000
set_option maxRecDepth 100000
/-- What a round is handed: nothing, or the place of a value. -/
def OkP (p : Value) (W : World) (r : Val × Bool) : Prop :=
  (r.2 = false ∧ p = .pointer none) ∨ (r.2 = true ∧ ∃ B, p = .pointer (some ⟨B, 0, none⟩) ∧ B < W.heap.size ∧ W.cell? ⟨B, 0, none⟩ = some (.int .i64 r.1.kind) ∧ W.cell? ⟨B, 1, none⟩ = some (.int .i64 r.1.int) ∧ W.cell? ⟨B, 2, none⟩ = some (.string ⟨r.1.str.toArray⟩) ∧ W.cell? ⟨B, 3, none⟩ = some (.bool r.1.bool))
theorem both1_in (n l Ba Bb : Nat) (hn : 2 ≤ n) (a b : List SlotT) (ba bb : Option Addr) (ca nb cb : Nat) (hal : a.length ≤ 1000000) (J : Nat → World → Prop) (Jx : World → Prop)
    (hA : ∀ W, J 0 W → W.cell? ⟨Ba, 0, none⟩ = some (.slice ba a.length ca)) (hB : ∀ i W, J i W → W.cell? ⟨Bb, 0, none⟩ = some (.slice bb nb cb)) (hS : ∀ i W, J i W → SlotsAt W a ba)
    (hG : ∀ i W W', J i W → Below W.heap.size W W' → ∀ x, Calls Try.prog n_binding_Get #[.slice bb nb cb, .int .i64 x] W' fun e w2 => e = .returned (.tuple #[valC (getR b x).1, .bool (getR b x).2]) ∧ Below W'.heap.size W' w2)
    (hJ : ∀ i W W', J i W → Below W.heap.size W W' → J i W')
    (hY : ∀ i x W p, J i W → a[i]? = some x → OkP p W (getR b x.var) → YieldAt Fence.wide (n - 1) Try.prog l #[.agg (slotCells x).toArray, p] W fun e W' => (e = .returned (.bool true) ∧ J (i + 1) W') ∨ (e = .returned (.bool false) ∧ Jx W'))
    (W : World) (h0 : J 0 W) :
    CallsIn Fence.wide n Try.prog 49 #[.func (.yield l) #[] #[], .pointer (some ⟨Ba, 0, none⟩), .pointer (some ⟨Bb, 0, none⟩)] W fun e W' => (∃ v, e = .returned v) ∧ (J a.length W' ∨ Jx W') := by
  have hc := hA W h0
  refine callsIn_of_wp Try.func49 rfl trivial ?_ rfl
  simp only [Try.ntmps49, List.size_toArray, List.length_cons, List.length_nil, Nat.reduceAdd, Nat.reduceSub, Array.replicate_succ, Array.replicate_zero, List.push_toArray, List.append_toArray, List.nil_append, List.cons_append]
  gi_wp2
  gi_loopw [11] (fun i wr => ∃ k : Nat, k ≤ a.length ∧ i = .int .i64 k ∧ J k wr) (fun i _ => a.length - (intOf i).toNat)
  case atStart => exact ⟨0, Nat.zero_le _, rfl, h0⟩
  case round =>
    obtain ⟨k, hk, rfl, hJs⟩ := hrel
    by_cases hlt : k < a.length
    · obtain ⟨x, hx, _⟩ := at_some hlt
      rcases hS k wr hJs with e | ⟨g, o, rfl, hg, hcells⟩
      · subst e; simp at hlt
      obtain ⟨c0, c1, c2, c3, c4⟩ := hcells k x hx
      have hbc := hB k wr hJs
      have hbl : Bb < wr.heap.size := cell_lt hbc
      have hbc2 : ∀ o, (wr.alloc o).cell? ⟨Bb, 0, none⟩ = some (.slice bb nb cb) := fun o => (World.cell?_of_block (w := wr) (Below.heap_alloc wr o Bb hbl)).trans hbc
      obtain ⟨v, ⟨kd, nn, ss, tt⟩⟩ := x
      have hGk := fun W' (hw : Below wr.heap.size wr W') => hG k wr W' hJs hw v
      have hYk := fun W' p (hw : Below wr.heap.size wr W') (hok : OkP p W' (getR b v)) => hY k _ W' p (hJ k wr W' hJs hw) hx hok
      simp only at c0 c1 c2 c3 c4
      clear hx hY hG hA hB hS hcells hc h0
      generalize getR b v = r at *
      obtain ⟨⟨rk, rn, rs, rt⟩, ro⟩ := r
      simp only [valC] at hGk
      gi_wp2_with (gi_at_call 50)
      refine ⟨trivial, fun _ => by omega, ?_⟩
      refine (callsIn_wide.2 (hGk _ ((Below.refl _ wr).alloc (Nat.le_refl _) _))).mono ?_
      rintro e w2 ⟨rfl, hb2⟩
      have hbw := ((Below.refl wr.heap.size wr).alloc (Nat.le_refl _) (.cells #[.int .i64 v, .int .i64 kd, .int .i64 nn, .string ⟨ss.toArray⟩, .bool tt] 40)).trans (hb2.mono (by simp))
      have hsb : w2.heap[wr.heap.size]? = some (.cells #[.int .i64 v, .int .i64 kd, .int .i64 nn, .string ⟨ss.toArray⟩, .bool tt] 40 (0, 0)) := (hb2.block _ (by simp)).trans (by show (wr.heap.push _)[wr.heap.size]? = _; simp)
      have hsl : wr.heap.size < w2.heap.size := (Array.getElem?_eq_some_iff.1 hsb).1
      have d0 : w2.cell? ⟨wr.heap.size, 0, none⟩ = some (.int .i64 v) := by simp [World.cell?, hsb]
      have d1 : w2.cell? ⟨wr.heap.size, 1, none⟩ = some (.int .i64 kd) := by simp [World.cell?, hsb]
      have d2 : w2.cell? ⟨wr.heap.size, 2, none⟩ = some (.int .i64 nn) := by simp [World.cell?, hsb]
      have d3 : w2.cell? ⟨wr.heap.size, 3, none⟩ = some (.string ⟨ss.toArray⟩) := by simp [World.cell?, hsb]
      have d4 : w2.cell? ⟨wr.heap.size, 4, none⟩ = some (.bool tt) := by simp [World.cell?, hsb]
      have hal2 : ∀ o j, (w2.alloc o).cell? ⟨wr.heap.size, j, none⟩ = w2.cell? ⟨wr.heap.size, j, none⟩ := fun o j => World.cell?_of_block (w := w2) (Below.heap_alloc w2 o _ hsl)
      have f0 := fun o => (hal2 o 0).trans d0
      have f1 := fun o => (hal2 o 1).trans d1
      have f2 := fun o => (hal2 o 2).trans d2
      have f3 := fun o => (hal2 o 3).trans d3
      have f4 := fun o => (hal2 o 4).trans d4
      clear hal2 hsb hb2 hGk
      have hnew : ∀ j, (w2.alloc (.cells #[.int .i64 rk, .int .i64 rn, .string ⟨rs.toArray⟩, .bool rt] 38)).cell? ⟨w2.heap.size, j, none⟩ = (#[.int .i64 rk, .int .i64 rn, .string ⟨rs.toArray⟩, .bool rt] : Array Value)[j]? := fun j => by
        show (match (w2.heap.push _)[w2.heap.size]? with | some (.cells c _ _) => c[j]? | _ => none) = _
        simp
      have hsz : w2.heap.size < (w2.alloc (.cells #[.int .i64 rk, .int .i64 rn, .string ⟨rs.toArray⟩, .bool rt] 38)).heap.size := by simp
      cases ro with
      | false =>
        obtain ⟨fn, tmps, assign, body, hy, hR⟩ := hYk (w2.alloc (.cells #[.int .i64 rk, .int .i64 rn, .string ⟨rs.toArray⟩, .bool rt] 38)) (.pointer none) (hbw.trans ((Below.refl _ w2).alloc (Nat.le_of_lt hsl) _)) (.inl ⟨rfl, rfl⟩)
        simp only [slotCells] at hy
        gi_wp2
        refine ⟨fun _ => by omega, hR.mono ?_⟩
        rintro e W3 (⟨rfl, hJ3⟩ | ⟨rfl, hJx3⟩)
        · gi_wp2
          go_roundw
          case rel => exact ⟨k + 1, by omega, by simp, hJ3⟩
          case measure => simp [intOf]; omega
        · gi_wp2
          refine bodyPost_ret (results_none rfl _ _ _) rfl ?_
          exact ⟨⟨_, rfl⟩, .inr hJx3⟩
      | true =>
        obtain ⟨fn, tmps, assign, body, hy, hR⟩ := hYk (w2.alloc (.cells #[.int .i64 rk, .int .i64 rn, .string ⟨rs.toArray⟩, .bool rt] 38)) (.pointer (some ⟨w2.heap.size, 0, none⟩)) (hbw.trans ((Below.refl _ w2).alloc (Nat.le_of_lt hsl) _)) (.inr ⟨rfl, w2.heap.size, rfl, hsz, hnew 0, hnew 1, hnew 2, hnew 3⟩)
        simp only [slotCells] at hy
        gi_wp2
        refine ⟨fun _ => by omega, hR.mono ?_⟩
        rintro e W3 (⟨rfl, hJ3⟩ | ⟨rfl, hJx3⟩)
        · gi_wp2
          go_roundw
          case rel => exact ⟨k + 1, by omega, by simp, hJ3⟩
          case measure => simp [intOf]; omega
        · gi_wp2
          refine bodyPost_ret (results_none rfl _ _ _) rfl ?_
          exact ⟨⟨_, rfl⟩, .inr hJx3⟩
    · obtain rfl : k = a.length := by omega
      gi_wp2
      go_end0
      exact ⟨⟨_, rfl⟩, .inl hJs⟩
end Go.Proofs.Ytjkdpahaingjjaa.Ab
