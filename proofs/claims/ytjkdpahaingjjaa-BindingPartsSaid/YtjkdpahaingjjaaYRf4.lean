/-
  Variables that are laid, as the reading of known variables has them. binding.both's function: each slot with what the other binding has. binding.Under, walked. No claim is proved here.
-/
import Derived.Test.YtjkdpahaingjjaaYAbTrod
import Derived.FnData
import Derived.Test.YtjkdpahaingjjaaYN0
import Derived.Test.YtjkdpahaingjjaaYRf2
import Derived.Shelf.Abstract
import Derived.Shelf.RegionOpen
import Derived.Laws.CopyOwn
namespace Go.Proofs.Ytjkdpahaingjjaa.Ab
open Go Go.RowKit Go.ChangeShapes Go.WideShapes
theorem cell_lt {W : World} {g o : Nat} {v : Value} (h : W.cell? ⟨g, o, none⟩ = some v) : g < W.heap.size := by
  unfold World.cell? at h
  split at h
  · rename_i c _ _ hb
    exact (Array.getElem?_eq_some_iff.1 hb).1
  · cases h
/-- A law's contract, in the row's words, where variables are known. -/
theorem PureC.calls_trueG {P : Program} {G : Nat → Option AV} {f : Nat} {args : List AV} (h : PureC P G f args (.bool true)) {w : World} {F : Nat → Prop} {vs : Array Value} (hg : Good w F G) (ha : ArgsR w F args vs) :
    Calls P f vs w fun e w' => e = .returned (.bool true) ∧ Below w.heap.size w w' := by
  refine (h w F vs hg ha).mono ?_
  rintro e w' ⟨v, F', rfl, _, _, _, hr, hb⟩
  cases hr
  exact ⟨rfl, hb⟩
end Go.Proofs.Ytjkdpahaingjjaa.Ab
namespace Go.Proofs.Ytjkdpahaingjjaa.Ab
open Go Go.RowKit Go.Shelf
set_option linter.unusedSimpArgs false
set_option maxHeartbeats 4000000
set_option maxRecDepth 100000
/-- What a round is handed: nothing, or the place of a value. -/
def OkP (p : Value) (W : World) (r : Val × Bool) : Prop :=
  (r.2 = false ∧ p = .pointer none) ∨ (r.2 = true ∧ ∃ B, p = .pointer (some ⟨B, 0, none⟩) ∧ B < W.heap.size ∧ W.cell? ⟨B, 0, none⟩ = some (.int .i64 r.1.kind) ∧ W.cell? ⟨B, 1, none⟩ = some (.int .i64 r.1.int) ∧ W.cell? ⟨B, 2, none⟩ = some (.string ⟨r.1.str.toArray⟩) ∧ W.cell? ⟨B, 3, none⟩ = some (.bool r.1.bool))
theorem both1_in (n l Ba Bb : Nat) (hn : 2 ≤ n) (a b : List SlotT) (ba bb : Option Addr) (ca nb cb : Nat) (hal : a.length ≤ 1000000) (J : Nat → World → Prop) (Jx : World → Prop)
    (hA : ∀ W, J 0 W → W.cell? ⟨Ba, 0, none⟩ = some (.slice ba a.length ca)) (hB : ∀ i W, J i W → W.cell? ⟨Bb, 0, none⟩ = some (.slice bb nb cb)) (hS : ∀ i W, J i W → SlotsAt W a ba)
    (hG : ∀ i W W', J i W → Below W.heap.size W W' → ∀ x, Calls Try.prog n_binding_Get #[.slice bb nb cb, .int .i64 x] W' fun e w2 => e = .returned (.tuple #[valC (getR b x).1, .bool (getR b x).2]) ∧ Below W'.heap.size W' w2)
    (hJ : ∀ i W W', J i W → Below W.heap.size W W' → J i W')
    (hY : ∀ i x W p, J i W → a[i]? = some x → OkP p W (getR b x.var) → YieldAt Fence.wide (n - 1) Try.prog l #[.agg (slotCells x).toArray, p] W fun e W' => (e = .returned (.bool true) ∧ J (i + 1) W') ∨ (e = .returned (.bool false) ∧ Jx W'))
    (W : World) (h0 : J 0 W) :
    CallsIn Fence.wide n Try.prog 49 #[.func (.yield l) #[] #[], .pointer (some ⟨Ba, 0, none⟩), .pointer (some ⟨Bb, 0, none⟩)] W fun e W' => (∃ v, e = .returned v) ∧ (J a.length W' ∨ Jx W') := by
  have hc := hA W h0
  refine callsIn_of_wp Try.func49 rfl trivial ?_ rfl
  simp only [Try.ntmps49, List.size_toArray, List.length_cons, List.length_nil, Nat.reduceAdd, Nat.reduceSub, Array.replicate_succ, Array.replicate_zero, List.push_toArray, List.append_toArray, List.nil_append, List.cons_append]
  gi_wp2
  gi_loopw [11] (fun i wr => ∃ k : Nat, k ≤ a.length ∧ i = .int .i64 k ∧ J k wr) (fun i _ => a.length - (intOf i).toNat)
  case atStart => exact ⟨0, Nat.zero_le _, rfl, h0⟩
  case round =>
    obtain ⟨k, hk, rfl, hJs⟩ := hrel
    by_cases hlt : k < a.length
    · obtain ⟨x, hx, _⟩ := at_some hlt
      rcases hS k wr hJs with e | ⟨g, o, rfl, hg, hcells⟩
      · subst e; simp at hlt
      obtain ⟨c0, c1, c2, c3, c4⟩ := hcells k x hx
      have hbc := hB k wr hJs
      have hbl : Bb < wr.heap.size := cell_lt hbc
      have hbc2 : ∀ o, (wr.alloc o).cell? ⟨Bb, 0, none⟩ = some (.slice bb nb cb) := fun o => (World.cell?_of_block (w := wr) (Below.heap_alloc wr o Bb hbl)).trans hbc
      obtain ⟨v, ⟨kd, nn, ss, tt⟩⟩ := x
      have hGk := fun W' (hw : Below wr.heap.size wr W') => hG k wr W' hJs hw v
      have hYk := fun W' p (hw : Below wr.heap.size wr W') (hok : OkP p W' (getR b v)) => hY k _ W' p (hJ k wr W' hJs hw) hx hok
      simp only at c0 c1 c2 c3 c4
      clear hx hY hG hA hB hS hcells hc h0
      generalize getR b v = r at *
      obtain ⟨⟨rk, rn, rs, rt⟩, ro⟩ := r
      simp only [valC] at hGk
      gi_wp2_with (gi_at_call 50)
      refine ⟨trivial, fun _ => by omega, ?_⟩
      refine (callsIn_wide.2 (hGk _ ((Below.refl _ wr).alloc (Nat.le_refl _) _))).mono ?_
      rintro e w2 ⟨rfl, hb2⟩
      have hbw := ((Below.refl wr.heap.size wr).alloc (Nat.le_refl _) (.cells #[.int .i64 v, .int .i64 kd, .int .i64 nn, .string ⟨ss.toArray⟩, .bool tt] 40)).trans (hb2.mono (by simp))
      have hsb : w2.heap[wr.heap.size]? = some (.cells #[.int .i64 v, .int .i64 kd, .int .i64 nn, .string ⟨ss.toArray⟩, .bool tt] 40 (0, 0)) := (hb2.block _ (by simp)).trans (by show (wr.heap.push _)[wr.heap.size]? = _; simp)
      have hsl : wr.heap.size < w2.heap.size := (Array.getElem?_eq_some_iff.1 hsb).1
      have d0 : w2.cell? ⟨wr.heap.size, 0, none⟩ = some (.int .i64 v) := by simp [World.cell?, hsb]
      have d1 : w2.cell? ⟨wr.heap.size, 1, none⟩ = some (.int .i64 kd) := by simp [World.cell?, hsb]
      have d2 : w2.cell? ⟨wr.heap.size, 2, none⟩ = some (.int .i64 nn) := by simp [World.cell?, hsb]
      have d3 : w2.cell? ⟨wr.heap.size, 3, none⟩ = some (.string ⟨ss.toArray⟩) := by simp [World.cell?, hsb]
      have d4 : w2.cell? ⟨wr.heap.size, 4, none⟩ = some (.bool tt) := by simp [World.cell?, hsb]
      have hal2 : ∀ o j, (w2.alloc o).cell? ⟨wr.heap.size, j, none⟩ = w2.cell? ⟨wr.heap.size, j, none⟩ := fun o j => World.cell?_of_block (w := w2) (Below.heap_alloc w2 o _ hsl)
      have f0 := fun o => (hal2 o 0).trans d0
      have f1 := fun o => (hal2 o 1).trans d1
      have f2 := fun o => (hal2 o 2).trans d2
      have f3 := fun o => (hal2 o 3).trans d3
      have f4 := fun o => (hal2 o 4).trans d4
      clear hal2 hsb hb2 hGk
      have hnew : ∀ j, (w2.alloc (.cells #[.int .i64 rk, .int .i64 rn, .string ⟨rs.toArray⟩, .bool rt] 38)).cell? ⟨w2.heap.size, j, none⟩ = (#[.int .i64 rk, .int .i64 rn, .string ⟨rs.toArray⟩, .bool rt] : Array Value)[j]? := fun j => by
        show (match (w2.heap.push _)[w2.heap.size]? with | some (.cells c _ _) => c[j]? | _ => none) = _
        simp
      have hsz : w2.heap.size < (w2.alloc (.cells #[.int .i64 rk, .int .i64 rn, .string ⟨rs.toArray⟩, .bool rt] 38)).heap.size := by simp
      cases ro with
      | false =>
        obtain ⟨fn, tmps, assign, body, hy, hR⟩ := hYk (w2.alloc (.cells #[.int .i64 rk, .int .i64 rn, .string ⟨rs.toArray⟩, .bool rt] 38)) (.pointer none) (hbw.trans ((Below.refl _ w2).alloc (Nat.le_of_lt hsl) _)) (.inl ⟨rfl, rfl⟩)
        simp only [slotCells] at hy
        gi_wp2
        refine ⟨fun _ => by omega, hR.mono ?_⟩
        rintro e W3 (⟨rfl, hJ3⟩ | ⟨rfl, hJx3⟩)
        · gi_wp2
          go_roundw
          case rel => exact ⟨k + 1, by omega, by simp, hJ3⟩
          case measure => simp [intOf]; omega
        · gi_wp2
          refine bodyPost_ret (results_none rfl _ _ _) rfl ?_
          exact ⟨⟨_, rfl⟩, .inr hJx3⟩
      | true =>
        obtain ⟨fn, tmps, assign, body, hy, hR⟩ := hYk (w2.alloc (.cells #[.int .i64 rk, .int .i64 rn, .string ⟨rs.toArray⟩, .bool rt] 38)) (.pointer (some ⟨w2.heap.size, 0, none⟩)) (hbw.trans ((Below.refl _ w2).alloc (Nat.le_of_lt hsl) _)) (.inr ⟨rfl, w2.heap.size, rfl, hsz, hnew 0, hnew 1, hnew 2, hnew 3⟩)
        simp only [slotCells] at hy
        gi_wp2
        refine ⟨fun _ => by omega, hR.mono ?_⟩
        rintro e W3 (⟨rfl, hJ3⟩ | ⟨rfl, hJx3⟩)
        · gi_wp2
          go_roundw
          case rel => exact ⟨k + 1, by omega, by simp, hJ3⟩
          case measure => simp [intOf]; omega
        · gi_wp2
          refine bodyPost_ret (results_none rfl _ _ _) rfl ?_
          exact ⟨⟨_, rfl⟩, .inr hJx3⟩
    · obtain rfl : k = a.length := by omega
      gi_wp2
      go_end0
      exact ⟨⟨_, rfl⟩, .inl hJs⟩
end Go.Proofs.Ytjkdpahaingjjaa.Ab
namespace Go.Proofs.Ytjkdpahaingjjaa.Ab
open Go Go.RowKit Go.Shelf
attribute [local go_sem] Oper.semAt_some
set_option linter.unusedSimpArgs false
set_option maxHeartbeats 4000000
set_option maxRecDepth 100000
variable {G : Nat → Option AV}
def underOne (b : List SlotT) (s : SlotT) : Bool := (getR b s.var).2 && decide ((getR b s.var).1 = s.value)
def underR (a b : List SlotT) : Bool := a.all (underOne b)
theorem below_putObj {B l : Nat} {w w' : World} (h : Below B w w') (hB : B ≤ l) (o : Obj) : Below B w (w'.putObj l o) :=
  ⟨h.os, h.tape, h.output, by simpa using h.size, fun k hk => (World.putObj_heap_other (by omega)).trans (h.block k hk)⟩
theorem Under_calls (a b : List SlotT) (ha : a.length ≤ 1000000) (hb : b.length ≤ 1000000) {w : World} {F : Nat → Prop} {va vb : Value} (hg : Good w F G) (ra : Rd w F noNames (slotsV a) va) (rb : Rd w F noNames (slotsV b) vb) :
    Calls Try.prog n_binding_Under #[va, vb] w fun e w' => e = .returned (.bool (underR a b)) ∧ Below w.heap.size w w' := by
  obtain ⟨ba, ca, rfl, hSa⟩ := rd_slots hg.1 ra
  obtain ⟨bb, cb, rfl, hSb⟩ := rd_slots hg.1 rb
  have hget := fun W' hw x => get_calls (G := G) b (by omega) hg rb (w' := W') hw x
  clear rb ra hSb
  obtain ⟨U, hU⟩ : ∃ U, underR a b = U := ⟨_, rfl⟩
  rw [hU]
  refine (callsIn_wide (n := 6)).1 ?_
  refine callsIn_of_wp_marks Try.func10 rfl trivial ?_ rfl
  simp only [Try.ntmps10, List.size_toArray, List.length_cons, List.length_nil, Nat.reduceAdd, Nat.reduceSub, Array.replicate_succ, Array.replicate_zero, List.push_toArray, List.append_toArray, List.nil_append, List.cons_append]
  gi_wp2_with (gi_at_call 31)
  refine ⟨trivial, (callsIn_wide.2 (both_calls _ _ _ _ _ _ _)).mono ?_⟩
  rintro e w' ⟨rfl, rfl⟩
  gi_wp2
  obtain ⟨w3, hw3⟩ : ∃ w3, ((w.alloc (.cells #[.bool false] 4)).alloc (.cells #[.slice ba a.length ca] 22)).alloc (.cells #[.slice bb b.length cb] 22) = w3 := ⟨_, rfl⟩
  have hsz3 : w3.heap.size = w.heap.size + 3 := by rw [← hw3]; simp
  have hbel3 : Below w.heap.size w w3 := by
    rw [← hw3]
    exact (((Below.refl _ w).alloc (Nat.le_refl _) _).alloc (by simp) _).alloc (by simp; omega) _
  have h3r : w3.heap[w.heap.size]? = some (.cells #[.bool false] 4 (0, 0)) := by
    rw [← hw3]
    exact (Below.heap_alloc _ _ _ (by simp; omega)).trans ((Below.heap_alloc _ _ _ (by simp)).trans (World.alloc_heap_new w _))
  have h3a : w3.heap[w.heap.size + 1]? = some (.cells #[.slice ba a.length ca] 22 (0, 0)) := by
    have h := World.alloc_heap_new (w.alloc (.cells #[.bool false] 4)) (.cells #[.slice ba a.length ca] 22)
    rw [World.size_alloc] at h
    rw [← hw3]
    exact (Below.heap_alloc _ _ _ (by simp)).trans h
  have h3b : w3.heap[w.heap.size + 1 + 1]? = some (.cells #[.slice bb b.length cb] 22 (0, 0)) := by
    have h := World.alloc_heap_new ((w.alloc (.cells #[.bool false] 4)).alloc (.cells #[.slice ba a.length ca] 22)) (.cells #[.slice bb b.length cb] 22)
    rw [World.size_alloc, World.size_alloc] at h
    rw [← hw3]
    exact h
  rw [hw3]
  have hDlt : w.heap.size + 2 < w3.heap.size := by omega
  clear hw3 hsz3
  refine rf_enter rfl (by omega) (gf := 49) (lb := #[.pointer (some ⟨w.heap.size + 1, 0, none⟩), .pointer (some ⟨w.heap.size + 1 + 1, 0, none⟩)]) rfl trivial (enters_of Try.func49 (by kernel_rfl) rfl) ?_
  rintro fn - mk hmk W1 hW1
  have g1 : W1.heap[w3.heap.size + 1]? = some (.loop (mk .ready none)) := by
    have h := World.alloc_heap_new (w3.alloc (.deferred (some []))) (.loop (mk .ready none))
    rw [World.size_alloc] at h
    rw [← hW1]
    exact h
  have g2 : W1.heap[w3.heap.size]? = some (.deferred (some [])) := by
    rw [← hW1]
    exact (Below.heap_alloc _ _ _ (by simp)).trans (World.alloc_heap_new w3 _)
  have hb1 : Below w3.heap.size w3 W1 := by
    rw [← hW1]
    exact ((Below.refl _ w3).alloc (Nat.le_refl _) _).alloc (by simp) _
  refine (both1_in (6 - 1) (w3.heap.size + 1) (w.heap.size + 1) (w.heap.size + 1 + 1) (by omega) a b ba bb ca b.length cb ha
    (fun i W => W.heap[w3.heap.size + 1]? = some (.loop (mk .ready none)) ∧ W.heap[w3.heap.size]? = some (.deferred (some [])) ∧ W.heap[w.heap.size]? = some (.cells #[.bool false] 4 (0, 0)) ∧ W.heap[w.heap.size + 1]? = some (.cells #[.slice ba a.length ca] 22 (0, 0)) ∧
      W.heap[w.heap.size + 1 + 1]? = some (.cells #[.slice bb b.length cb] 22 (0, 0)) ∧ Below w.heap.size w W ∧ ∀ j x, j < i → a[j]? = some x → underOne b x = true)
    (fun W => W.heap[w3.heap.size + 1]? = some (.loop (mk .done (some .ret))) ∧ W.heap[w3.heap.size]? = some (.deferred (some [])) ∧ W.heap[w.heap.size]? = some (.cells #[.bool false] 4 (0, 0)) ∧ Below w.heap.size w W ∧ U = false)
    (fun W h => by simp [World.cell?, h.2.2.2.1]) (fun i W h => by simp [World.cell?, h.2.2.2.2.1]) (fun i W h => hSa.below h.2.2.2.2.2.1) (fun i W W' h hb x => hget W' (h.2.2.2.2.2.1.trans (hb.mono h.2.2.2.2.2.1.size)) x)
    (fun i W W' ⟨h1, h2, h3, h4, h5, h6, h7⟩ hb => ⟨(hb.block _ (Array.getElem?_eq_some_iff.1 h1).1).trans h1, (hb.block _ (Array.getElem?_eq_some_iff.1 h2).1).trans h2, (hb.block _ (Array.getElem?_eq_some_iff.1 h3).1).trans h3, (hb.block _ (Array.getElem?_eq_some_iff.1 h4).1).trans h4, (hb.block _ (Array.getElem?_eq_some_iff.1 h5).1).trans h5, h6.trans (hb.mono h6.size), h7⟩)
    ?round W1 ⟨g1, g2, (hb1.block _ (by omega)).trans h3r, (hb1.block _ (by omega)).trans h3a, (hb1.block _ (by omega)).trans h3b, hbel3.trans (hb1.mono (by omega)), fun j x hj => by omega⟩).mono ?fin
  case round =>
    subst hmk
    rintro i x W p ⟨hl, hD, hr, hba, hbb, hbel, hgd⟩ hx hok
    have hll := (Array.getElem?_eq_some_iff.1 hl).1
    refine (rf_round2 (fun w2 => w3.heap.size + 1 < w2.heap.size ∧ w2.heap[w3.heap.size]? = some (.deferred (some [])) ∧ w2.heap[w.heap.size]? = some (.cells #[.bool false] 4 (0, 0)) ∧ w2.heap[w.heap.size + 1]? = some (.cells #[.slice ba a.length ca] 22 (0, 0)) ∧
        w2.heap[w.heap.size + 1 + 1]? = some (.cells #[.slice bb b.length cb] 22 (0, 0)) ∧ Below w.heap.size w w2 ∧ underOne b x = true)
      (fun w2 => w3.heap.size + 1 < w2.heap.size ∧ w2.heap[w3.heap.size]? = some (.deferred (some [])) ∧ w2.heap[w.heap.size]? = some (.cells #[.bool false] 4 (0, 0)) ∧ Below w.heap.size w w2 ∧ underOne b x = false) hl rfl ?walk).mono ?post
    case post =>
      rintro e W' (⟨rfl, w2, ⟨h1, h2, h3, h4, h5, h6, h7⟩, rfl⟩ | ⟨rfl, w2, ⟨h1, h2, h3, h6, h7⟩, rfl⟩)
      · refine .inl ⟨rfl, World.putObj_heap_same h1, (World.putObj_heap_other (by omega)).trans h2, (World.putObj_heap_other (by omega)).trans h3, (World.putObj_heap_other (by omega)).trans h4, (World.putObj_heap_other (by omega)).trans h5, below_putObj h6 (by omega) _, fun j y hj hy => ?_⟩
        by_cases e : j = i
        · subst e
          rw [hx] at hy
          cases hy
          exact h7
        · exact hgd j y (by omega) hy
      · refine .inr ⟨rfl, World.putObj_heap_same h1, (World.putObj_heap_other (by omega)).trans h2, (World.putObj_heap_other (by omega)).trans h3, below_putObj h6 (by omega) _, ?_⟩
        rw [← hU]
        unfold underR
        rw [List.all_eq_false]
        exact ⟨x, List.mem_of_getElem? hx, by rw [h7]; simp⟩
    case walk =>
      obtain ⟨v, ⟨kd, nn, ss, tt⟩⟩ := x
      unfold underOne
      simp only [slotCells]
      clear hgd hx hget hSa hW1 g1 g2 hb1 hbel3 h3r h3a h3b
      generalize getR b v = r at *
      gi_wp2
      refine ⟨(Below.heap_alloc W _ _ hll).trans hl, ?_⟩
      generalize hW2 : World.putObj _ _ _ = W2
      obtain ⟨e1, e2, e3, e4, e5, e6, e7⟩ := round_world hl hW2
      have hnl : ∀ j, W.cell? ⟨w3.heap.size + 1, j, none⟩ = none := fun j => by simp [World.cell?, hl]
      clear hW2 hl
      have f0 : W2.cell? ⟨W.heap.size, 0, none⟩ = some (.int .i64 v) := by simp [World.cell?, e2]
      have f1 : W2.cell? ⟨W.heap.size, 1, none⟩ = some (.int .i64 kd) := by simp [World.cell?, e2]
      have f2 : W2.cell? ⟨W.heap.size, 2, none⟩ = some (.int .i64 nn) := by simp [World.cell?, e2]
      have f3 : W2.cell? ⟨W.heap.size, 3, none⟩ = some (.string ⟨ss.toArray⟩) := by simp [World.cell?, e2]
      have f4 : W2.cell? ⟨W.heap.size, 4, none⟩ = some (.bool tt) := by simp [World.cell?, e2]
      have k1 := (e3 _ (by omega) (by omega)).trans hD
      have k2 := (e3 _ (by omega) (by omega)).trans hr
      have k3 := (e3 _ (by omega) (by omega)).trans hba
      have k4 := (e3 _ (by omega) (by omega)).trans hbb
      have k5 : Below w.heap.size w W2 := ⟨e5.trans hbel.os, e6.trans hbel.tape, e7.trans hbel.output, by rw [e4]; have := hbel.size; omega, fun k hk => (e3 k (by omega) (by have := hbel.size; omega)).trans (hbel.block k hk)⟩
      have k6 : W2.cell? ⟨w.heap.size, 0, none⟩ = some (.bool false) := by simp [World.cell?, k2]
      have k7 : W2.frozen? ⟨w.heap.size, 0, none⟩ = false := by simp [World.frozen?, k2]
      have hself : W2.setCell ⟨w.heap.size, 0, none⟩ (.bool false) = W2 := by
        rw [setCell_eq_setRow _ _ _ _ _ _ _ k2]
        exact setRow_self _ _ _ _ _ k2
      have k5d : Below w.heap.size w W2.drew := k5.drew
      have k8 : w3.heap.size + 1 < W2.heap.size := by omega
      have k6d : W2.drew.cell? ⟨w.heap.size, 0, none⟩ = some (.bool false) := k6
      have k7d : W2.drew.frozen? ⟨w.heap.size, 0, none⟩ = false := k7
      have f0d : W2.drew.cell? ⟨W.heap.size, 0, none⟩ = some (.int .i64 v) := f0
      have f1d : W2.drew.cell? ⟨W.heap.size, 1, none⟩ = some (.int .i64 kd) := f1
      have f2d : W2.drew.cell? ⟨W.heap.size, 2, none⟩ = some (.int .i64 nn) := f2
      have f3d : W2.drew.cell? ⟨W.heap.size, 3, none⟩ = some (.string ⟨ss.toArray⟩) := f3
      have f4d : W2.drew.cell? ⟨W.heap.size, 4, none⟩ = some (.bool tt) := f4
      have mixed : Try.prog.follows Departure.mixedOrders = true := by kernel_rfl
      obtain ⟨⟨rk, rn, rs, rt⟩, ro⟩ := r
      rcases hok with ⟨ho, rfl⟩ | ⟨ho, B, rfl, hBl, q0, q1, q2, q3⟩
      · obtain rfl : ro = false := ho
        clear e3
        gi_wp2
        gi_region
        all_goals gi_wp2
        all_goals first | exact ⟨e1, k8, k1, k2, k5d⟩ | (rw [hself]; exact ⟨e1, k8, k1, k2, k5d⟩)
      · obtain rfl : ro = true := ho
        have hBn : B ≠ w3.heap.size + 1 := fun e => by rw [e, hnl] at q0; cases q0
        have eB : ∀ j, W2.cell? ⟨B, j, none⟩ = W.cell? ⟨B, j, none⟩ := fun j => World.cell?_of_block (w := W) (e3 B hBn hBl)
        have p0 := (eB 0).trans q0
        have p1 := (eB 1).trans q1
        have p2 := (eB 2).trans q2
        have p3 := (eB 3).trans q3
        have p0d : W2.drew.cell? ⟨B, 0, none⟩ = some (.int .i64 rk) := p0
        have p1d : W2.drew.cell? ⟨B, 1, none⟩ = some (.int .i64 rn) := p1
        have p2d : W2.drew.cell? ⟨B, 2, none⟩ = some (.string ⟨rs.toArray⟩) := p2
        have p3d : W2.drew.cell? ⟨B, 3, none⟩ = some (.bool rt) := p3
        clear e3 eB hnl
        by_cases heq : (⟨rk, rn, rs, rt⟩ : Val) = ⟨kd, nn, ss, tt⟩
        · cases heq
          gi_wp2
          gi_region
          all_goals gi_wp2
          all_goals exact ⟨e1, k8, k1, k2, k3, k4, k5d⟩
        · have hd : decide ((⟨rk, rn, rs, rt⟩ : Val) = ⟨kd, nn, ss, tt⟩) = false := decide_eq_false heq
          by_cases a1 : rk = kd
          · subst a1
            by_cases a2 : rn = nn
            · subst a2
              by_cases a3 : rs = ss
              · subst a3
                have a4 : rt ≠ tt := fun e => heq (by rw [e])
                have a5 : (rt == tt) = false := by simpa using a4
                gi_wp2
                gi_region
                all_goals gi_wp2
                all_goals exact ⟨e1, k8, k1, k2, k5d⟩
              · have a4 : ((⟨rs.toArray⟩ : ByteArray) == ⟨ss.toArray⟩) = false := by
                  rw [beq_toListBytes, ByteArray.toList_eq, ByteArray.toList_eq]
                  simpa using a3
                gi_wp2
                gi_region
                all_goals gi_wp2
                all_goals exact ⟨e1, k8, k1, k2, k5d⟩
            · have a3 : (rn == nn) = false := by simpa using a2
              gi_wp2
              gi_region
              all_goals gi_wp2
              all_goals exact ⟨e1, k8, k1, k2, k5d⟩
          · have a3 : (rk == kd) = false := by simpa using a1
            gi_wp2
            gi_region
            all_goals gi_wp2
            all_goals exact ⟨e1, k8, k1, k2, k5d⟩
  case fin =>
    subst hmk
    rintro e W' ⟨⟨v, rfl⟩, (⟨h1, h2, h3, h4, h5, h6, h7⟩ | ⟨h1, h2, h3, h6, h7⟩)⟩
    · refine ⟨none, _, run_endLoop h1 (by simp [rfRec]), ?_⟩
      have hu : U = true := by
        rw [← hU]
        unfold underR
        rw [List.all_eq_true]
        intro x hx
        obtain ⟨j, hj⟩ := List.getElem?_of_mem hx
        exact h7 j x (List.getElem?_eq_some_iff.1 hj).1 hj
      clear hU
      subst hu
      have hll := (Array.getElem?_eq_some_iff.1 h1).1
      generalize hW4 : World.putObj _ _ _ = W4
      have k2 : W4.heap[w3.heap.size]? = some (.deferred (some [])) := by rw [← hW4]; exact (World.putObj_heap_other (by omega)).trans h2
      have k3 : W4.heap[w.heap.size]? = some (.cells #[.bool false] 4 (0, 0)) := by rw [← hW4]; exact (World.putObj_heap_other (by omega)).trans h3
      have k5 : Below w.heap.size w W4 := by rw [← hW4]; exact below_putObj h6 (by omega) _
      clear hW4 h1 h2 h3 h4 h5 h6 h7 hget hSa hW1 g1 g2 hb1 hbel3 h3r h3a h3b
      have k6 : W4.cell? ⟨w.heap.size, 0, none⟩ = some (.bool false) := by simp [World.cell?, k3]
      have k7 : W4.frozen? ⟨w.heap.size, 0, none⟩ = false := by simp [World.frozen?, k3]
      gi_wp2
      have hset : W4.setCell ⟨w.heap.size, 0, none⟩ (.bool true) = W4.setRow w.heap.size #[.bool true] := by
        rw [setCell_eq_setRow _ _ _ _ _ _ _ k3]
        rfl
      rw [hset]
      have kD : (W4.setRow w.heap.size #[.bool true]).heap[w3.heap.size]? = some (.deferred (some [])) := (setRow_other _ _ _ _ (by omega)).trans k2
      have kr := setRow_heap W4 w.heap.size _ #[.bool true] _ _ k3
      refine ⟨by simp, .inl ⟨_, _, rfl, run_takeDeferred kD, ?_⟩⟩
      have hc5 : ((W4.setRow w.heap.size #[.bool true]).putObj w3.heap.size (.deferred none)).cell? ⟨w.heap.size, 0, none⟩ = some (.bool true) := by
        have h := (World.putObj_heap_other (w := W4.setRow w.heap.size #[.bool true]) (r := w3.heap.size) (o := .deferred none) (k := w.heap.size) (by omega)).trans kr
        simp [World.cell?, h]
      refine ⟨.bool true, ?_, rfl, below_putObj (below_setRow k5 (Nat.le_refl _) _) (by omega) _⟩
      simp [results, Try.f10, go_sem, hc5]
    · refine ⟨some .ret, _, run_endLoop h1 (by simp [rfRec]), ?_⟩
      clear hU
      subst h7
      have hll := (Array.getElem?_eq_some_iff.1 h1).1
      generalize hW4 : World.putObj _ _ _ = W4
      have k2 : W4.heap[w3.heap.size]? = some (.deferred (some [])) := by rw [← hW4]; exact (World.putObj_heap_other (by omega)).trans h2
      have k3 : W4.heap[w.heap.size]? = some (.cells #[.bool false] 4 (0, 0)) := by rw [← hW4]; exact (World.putObj_heap_other (by omega)).trans h3
      have k5 : Below w.heap.size w W4 := by rw [← hW4]; exact below_putObj h6 (by omega) _
      clear hW4 h1 h2 h3 h6 hget hSa hW1 g1 g2 hb1 hbel3 h3r h3a h3b
      have k6 : W4.cell? ⟨w.heap.size, 0, none⟩ = some (.bool false) := by simp [World.cell?, k3]
      gi_wp2
      refine ⟨by simp, .inl ⟨_, _, rfl, run_takeDeferred k2, ?_⟩⟩
      have hc5 : (W4.putObj w3.heap.size (.deferred none)).cell? ⟨w.heap.size, 0, none⟩ = some (.bool false) := by
        have h := (World.putObj_heap_other (w := W4) (r := w3.heap.size) (o := .deferred none) (k := w.heap.size) (by omega)).trans k3
        simp [World.cell?, h]
      refine ⟨.bool false, ?_, rfl, below_putObj k5 (by omega) _⟩
      simp [results, Try.f10, go_sem, hc5]
end Go.Proofs.Ytjkdpahaingjjaa.Ab
