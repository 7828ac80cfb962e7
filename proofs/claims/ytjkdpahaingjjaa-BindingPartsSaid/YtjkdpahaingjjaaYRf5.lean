/-
  binding.Fits, walked. No claim is proved here.
-/
import Derived.Test.YtjkdpahaingjjaaYRf4
import Derived.Laws.CopyOwn
namespace Go.Proofs.Ytjkdpahaingjjaa.Ab
open Go Go.RowKit Go.Shelf
attribute [local go_sem] Oper.semAt_some
set_option linter.unusedSimpArgs false
set_option maxHeartbeats 4000000
set_option maxRecDepth 100000
variable {G : Nat → Option AV}
def fitsOne (b : List SlotT) (s : SlotT) : Bool := !(getR b s.var).2 || decide ((getR b s.var).1 = s.value)
def fitsB (a b : List SlotT) : Bool := a.all (fitsOne b)
theorem Fits_calls (a b : List SlotT) (ha : a.length ≤ 1000000) (hb : b.length ≤ 1000000) {w : World} {F : Nat → Prop} {va vb : Value} (hg : Good w F G) (ra : Rd w F noNames (slotsV a) va) (rb : Rd w F noNames (slotsV b) vb) :
    Calls Try.prog n_binding_Fits #[va, vb] w fun e w' => e = .returned (.bool (fitsB a b)) ∧ Below w.heap.size w w' := by
  obtain ⟨ba, ca, rfl, hSa⟩ := rd_slots hg.1 ra
  obtain ⟨bb, cb, rfl, hSb⟩ := rd_slots hg.1 rb
  have hget := fun W' hw x => get_calls (G := G) b (by omega) hg rb (w' := W') hw x
  clear rb ra hSb
  obtain ⟨U, hU⟩ : ∃ U, fitsB a b = U := ⟨_, rfl⟩
  rw [hU]
  refine (callsIn_wide (n := 6)).1 ?_
  refine callsIn_of_wp_marks Try.func12 rfl trivial ?_ rfl
  simp only [Try.ntmps12, List.size_toArray, List.length_cons, List.length_nil, Nat.reduceAdd, Nat.reduceSub, Array.replicate_succ, Array.replicate_zero, List.push_toArray, List.append_toArray, List.nil_append, List.cons_append]
  gi_wp2_with (gi_at_call 31)
  refine ⟨trivial, (callsIn_wide.2 (both_calls _ _ _ _ _ _ _)).mono ?_⟩
  rintro e w' ⟨rfl, rfl⟩
  gi_wp2
  obtain ⟨w3, hw3⟩ : ∃ w3, ((w.alloc (.cells #[.bool false] 4)).alloc (.cells #[.slice ba a.length ca] 22)).alloc (.cells #[.slice bb b.length cb] 22) = w3 := ⟨_, rfl⟩
  have hsz3 : w3.heap.size = w.heap.size + 3 := by rw [← hw3]; simp
  have hbel3 : Below w.heap.size w w3 := by
    rw [← hw3]
    exact (((Below.refl _ w).alloc (Nat.le_refl _) _).alloc (by simp) _).alloc (by simp; omega) _
  have h3r : w3.heap[w.heap.size]? = some (.cells #[.bool false] 4 (0, 0)) := by
    rw [← hw3]
    exact (Below.heap_alloc _ _ _ (by simp; omega)).trans ((Below.heap_alloc _ _ _ (by simp)).trans (World.alloc_heap_new w _))
  have h3a : w3.heap[w.heap.size + 1]? = some (.cells #[.slice ba a.length ca] 22 (0, 0)) := by
    have h := World.alloc_heap_new (w.alloc (.cells #[.bool false] 4)) (.cells #[.slice ba a.length ca] 22)
    rw [World.size_alloc] at h
    rw [← hw3]
    exact (Below.heap_alloc _ _ _ (by simp)).trans h
  have h3b : w3.heap[w.heap.size + 1 + 1]? = some (.cells #[.slice bb b.length cb] 22 (0, 0)) := by
    have h := World.alloc_heap_new ((w.alloc (.cells #[.bool false] 4)).alloc (.cells #[.slice ba a.length ca] 22)) (.cells #[.slice bb b.length cb] 22)
    rw [World.size_alloc, World.size_alloc] at h
    rw [← hw3]
    exact h
  rw [hw3]
  have hDlt : w.heap.size + 2 < w3.heap.size := by omega
  clear hw3 hsz3
  refine rf_enter rfl (by omega) (gf := 49) (lb := #[.pointer (some ⟨w.heap.size + 1, 0, none⟩), .pointer (some ⟨w.heap.size + 1 + 1, 0, none⟩)]) rfl trivial (enters_of Try.func49 (by kernel_rfl) rfl) ?_
  rintro fn - mk hmk W1 hW1
  have g1 : W1.heap[w3.heap.size + 1]? = some (.loop (mk .ready none)) := by
    have h := World.alloc_heap_new (w3.alloc (.deferred (some []))) (.loop (mk .ready none))
    rw [World.size_alloc] at h
    rw [← hW1]
    exact h
  have g2 : W1.heap[w3.heap.size]? = some (.deferred (some [])) := by
    rw [← hW1]
    exact (Below.heap_alloc _ _ _ (by simp)).trans (World.alloc_heap_new w3 _)
  have hb1 : Below w3.heap.size w3 W1 := by
    rw [← hW1]
    exact ((Below.refl _ w3).alloc (Nat.le_refl _) _).alloc (by simp) _
  refine (both1_in (6 - 1) (w3.heap.size + 1) (w.heap.size + 1) (w.heap.size + 1 + 1) (by omega) a b ba bb ca b.length cb ha
    (fun i W => W.heap[w3.heap.size + 1]? = some (.loop (mk .ready none)) ∧ W.heap[w3.heap.size]? = some (.deferred (some [])) ∧ W.heap[w.heap.size]? = some (.cells #[.bool false] 4 (0, 0)) ∧ W.heap[w.heap.size + 1]? = some (.cells #[.slice ba a.length ca] 22 (0, 0)) ∧
      W.heap[w.heap.size + 1 + 1]? = some (.cells #[.slice bb b.length cb] 22 (0, 0)) ∧ Below w.heap.size w W ∧ ∀ j x, j < i → a[j]? = some x → fitsOne b x = true)
    (fun W => W.heap[w3.heap.size + 1]? = some (.loop (mk .done (some .ret))) ∧ W.heap[w3.heap.size]? = some (.deferred (some [])) ∧ W.heap[w.heap.size]? = some (.cells #[.bool false] 4 (0, 0)) ∧ Below w.heap.size w W ∧ U = false)
    (fun W h => by simp [World.cell?, h.2.2.2.1]) (fun i W h => by simp [World.cell?, h.2.2.2.2.1]) (fun i W h => hSa.below h.2.2.2.2.2.1) (fun i W W' h hb x => hget W' (h.2.2.2.2.2.1.trans (hb.mono h.2.2.2.2.2.1.size)) x)
    (fun i W W' ⟨h1, h2, h3, h4, h5, h6, h7⟩ hb => ⟨(hb.block _ (Array.getElem?_eq_some_iff.1 h1).1).trans h1, (hb.block _ (Array.getElem?_eq_some_iff.1 h2).1).trans h2, (hb.block _ (Array.getElem?_eq_some_iff.1 h3).1).trans h3, (hb.block _ (Array.getElem?_eq_some_iff.1 h4).1).trans h4, (hb.block _ (Array.getElem?_eq_some_iff.1 h5).1).trans h5, h6.trans (hb.mono h6.size), h7⟩)
    ?round W1 ⟨g1, g2, (hb1.block _ (by omega)).trans h3r, (hb1.block _ (by omega)).trans h3a, (hb1.block _ (by omega)).trans h3b, hbel3.trans (hb1.mono (by omega)), fun j x hj => by omega⟩).mono ?fin
  case round =>
    subst hmk
    rintro i x W p ⟨hl, hD, hr, hba, hbb, hbel, hgd⟩ hx hok
    have hll := (Array.getElem?_eq_some_iff.1 hl).1
    refine (rf_round2 (fun w2 => w3.heap.size + 1 < w2.heap.size ∧ w2.heap[w3.heap.size]? = some (.deferred (some [])) ∧ w2.heap[w.heap.size]? = some (.cells #[.bool false] 4 (0, 0)) ∧ w2.heap[w.heap.size + 1]? = some (.cells #[.slice ba a.length ca] 22 (0, 0)) ∧
        w2.heap[w.heap.size + 1 + 1]? = some (.cells #[.slice bb b.length cb] 22 (0, 0)) ∧ Below w.heap.size w w2 ∧ fitsOne b x = true)
      (fun w2 => w3.heap.size + 1 < w2.heap.size ∧ w2.heap[w3.heap.size]? = some (.deferred (some [])) ∧ w2.heap[w.heap.size]? = some (.cells #[.bool false] 4 (0, 0)) ∧ Below w.heap.size w w2 ∧ fitsOne b x = false) hl rfl ?walk).mono ?post
    case post =>
      rintro e W' (⟨rfl, w2, ⟨h1, h2, h3, h4, h5, h6, h7⟩, rfl⟩ | ⟨rfl, w2, ⟨h1, h2, h3, h6, h7⟩, rfl⟩)
      · refine .inl ⟨rfl, World.putObj_heap_same h1, (World.putObj_heap_other (by omega)).trans h2, (World.putObj_heap_other (by omega)).trans h3, (World.putObj_heap_other (by omega)).trans h4, (World.putObj_heap_other (by omega)).trans h5, below_putObj h6 (by omega) _, fun j y hj hy => ?_⟩
        by_cases e : j = i
        · subst e
          rw [hx] at hy
          cases hy
          exact h7
        · exact hgd j y (by omega) hy
      · refine .inr ⟨rfl, World.putObj_heap_same h1, (World.putObj_heap_other (by omega)).trans h2, (World.putObj_heap_other (by omega)).trans h3, below_putObj h6 (by omega) _, ?_⟩
        rw [← hU]
        unfold fitsB
        rw [List.all_eq_false]
        exact ⟨x, List.mem_of_getElem? hx, by rw [h7]; simp⟩
    case walk =>
      obtain ⟨v, ⟨kd, nn, ss, tt⟩⟩ := x
      unfold fitsOne
      simp only [slotCells]
      clear hgd hx hget hSa hW1 g1 g2 hb1 hbel3 h3r h3a h3b
      generalize getR b v = r at *
      gi_wp2
      refine ⟨(Below.heap_alloc W _ _ hll).trans hl, ?_⟩
      generalize hW2 : World.putObj _ _ _ = W2
      obtain ⟨e1, e2, e3, e4, e5, e6, e7⟩ := round_world hl hW2
      have hnl : ∀ j, W.cell? ⟨w3.heap.size + 1, j, none⟩ = none := fun j => by simp [World.cell?, hl]
      clear hW2 hl
      have f0 : W2.cell? ⟨W.heap.size, 0, none⟩ = some (.int .i64 v) := by simp [World.cell?, e2]
      have f1 : W2.cell? ⟨W.heap.size, 1, none⟩ = some (.int .i64 kd) := by simp [World.cell?, e2]
      have f2 : W2.cell? ⟨W.heap.size, 2, none⟩ = some (.int .i64 nn) := by simp [World.cell?, e2]
      have f3 : W2.cell? ⟨W.heap.size, 3, none⟩ = some (.string ⟨ss.toArray⟩) := by simp [World.cell?, e2]
      have f4 : W2.cell? ⟨W.heap.size, 4, none⟩ = some (.bool tt) := by simp [World.cell?, e2]
      have k1 := (e3 _ (by omega) (by omega)).trans hD
      have k2 := (e3 _ (by omega) (by omega)).trans hr
      have k3 := (e3 _ (by omega) (by omega)).trans hba
      have k4 := (e3 _ (by omega) (by omega)).trans hbb
      have k5 : Below w.heap.size w W2 := ⟨e5.trans hbel.os, e6.trans hbel.tape, e7.trans hbel.output, by rw [e4]; have := hbel.size; omega, fun k hk => (e3 k (by omega) (by have := hbel.size; omega)).trans (hbel.block k hk)⟩
      have k6 : W2.cell? ⟨w.heap.size, 0, none⟩ = some (.bool false) := by simp [World.cell?, k2]
      have k7 : W2.frozen? ⟨w.heap.size, 0, none⟩ = false := by simp [World.frozen?, k2]
      have hself : W2.setCell ⟨w.heap.size, 0, none⟩ (.bool false) = W2 := by
        rw [setCell_eq_setRow _ _ _ _ _ _ _ k2]
        exact setRow_self _ _ _ _ _ k2
      have k5d : Below w.heap.size w W2.drew := k5.drew
      have k8 : w3.heap.size + 1 < W2.heap.size := by omega
      have k6d : W2.drew.cell? ⟨w.heap.size, 0, none⟩ = some (.bool false) := k6
      have k7d : W2.drew.frozen? ⟨w.heap.size, 0, none⟩ = false := k7
      have f0d : W2.drew.cell? ⟨W.heap.size, 0, none⟩ = some (.int .i64 v) := f0
      have f1d : W2.drew.cell? ⟨W.heap.size, 1, none⟩ = some (.int .i64 kd) := f1
      have f2d : W2.drew.cell? ⟨W.heap.size, 2, none⟩ = some (.int .i64 nn) := f2
      have f3d : W2.drew.cell? ⟨W.heap.size, 3, none⟩ = some (.string ⟨ss.toArray⟩) := f3
      have f4d : W2.drew.cell? ⟨W.heap.size, 4, none⟩ = some (.bool tt) := f4
      have mixed : Try.prog.follows Departure.mixedOrders = true := by kernel_rfl
      obtain ⟨⟨rk, rn, rs, rt⟩, ro⟩ := r
      rcases hok with ⟨ho, rfl⟩ | ⟨ho, B, rfl, hBl, q0, q1, q2, q3⟩
      · obtain rfl : ro = false := ho
        clear e3
        gi_wp2
        gi_region
        all_goals gi_wp2
        all_goals exact ⟨e1, k8, k1, k2, k3, k4, k5d⟩
      · obtain rfl : ro = true := ho
        have hBn : B ≠ w3.heap.size + 1 := fun e => by rw [e, hnl] at q0; cases q0
        have eB : ∀ j, W2.cell? ⟨B, j, none⟩ = W.cell? ⟨B, j, none⟩ := fun j => World.cell?_of_block (w := W) (e3 B hBn hBl)
        have p0 := (eB 0).trans q0
        have p1 := (eB 1).trans q1
        have p2 := (eB 2).trans q2
        have p3 := (eB 3).trans q3
        have p0d : W2.drew.cell? ⟨B, 0, none⟩ = some (.int .i64 rk) := p0
        have p1d : W2.drew.cell? ⟨B, 1, none⟩ = some (.int .i64 rn) := p1
        have p2d : W2.drew.cell? ⟨B, 2, none⟩ = some (.string ⟨rs.toArray⟩) := p2
        have p3d : W2.drew.cell? ⟨B, 3, none⟩ = some (.bool rt) := p3
        clear e3 eB hnl
        by_cases heq : (⟨rk, rn, rs, rt⟩ : Val) = ⟨kd, nn, ss, tt⟩
        · cases heq
          gi_wp2
          gi_region
          all_goals gi_wp2
          all_goals exact ⟨e1, k8, k1, k2, k3, k4, k5d⟩
        · have hd : decide ((⟨rk, rn, rs, rt⟩ : Val) = ⟨kd, nn, ss, tt⟩) = false := decide_eq_false heq
          by_cases a1 : rk = kd
          · subst a1
            by_cases a2 : rn = nn
            · subst a2
              by_cases a3 : rs = ss
              · subst a3
                have a4 : rt ≠ tt := fun e => heq (by rw [e])
                have a5 : (rt == tt) = false := by simpa using a4
                gi_wp2
                gi_region
                all_goals gi_wp2
                all_goals exact ⟨e1, k8, k1, k2, k5d⟩
              · have a4 : ((⟨rs.toArray⟩ : ByteArray) == ⟨ss.toArray⟩) = false := by
                  rw [beq_toListBytes, ByteArray.toList_eq, ByteArray.toList_eq]
                  simpa using a3
                gi_wp2
                gi_region
                all_goals gi_wp2
                all_goals exact ⟨e1, k8, k1, k2, k5d⟩
            · have a3 : (rn == nn) = false := by simpa using a2
              gi_wp2
              gi_region
              all_goals gi_wp2
              all_goals exact ⟨e1, k8, k1, k2, k5d⟩
          · have a3 : (rk == kd) = false := by simpa using a1
            gi_wp2
            gi_region
            all_goals gi_wp2
            all_goals exact ⟨e1, k8, k1, k2, k5d⟩
  case fin =>
    subst hmk
    rintro e W' ⟨⟨v, rfl⟩, (⟨h1, h2, h3, h4, h5, h6, h7⟩ | ⟨h1, h2, h3, h6, h7⟩)⟩
    · refine ⟨none, _, run_endLoop h1 (by simp [rfRec]), ?_⟩
      have hu : U = true := by
        rw [← hU]
        unfold fitsB
        rw [List.all_eq_true]
        intro x hx
        obtain ⟨j, hj⟩ := List.getElem?_of_mem hx
        exact h7 j x (List.getElem?_eq_some_iff.1 hj).1 hj
      clear hU
      subst hu
      have hll := (Array.getElem?_eq_some_iff.1 h1).1
      generalize hW4 : World.putObj _ _ _ = W4
      have k2 : W4.heap[w3.heap.size]? = some (.deferred (some [])) := by rw [← hW4]; exact (World.putObj_heap_other (by omega)).trans h2
      have k3 : W4.heap[w.heap.size]? = some (.cells #[.bool false] 4 (0, 0)) := by rw [← hW4]; exact (World.putObj_heap_other (by omega)).trans h3
      have k5 : Below w.heap.size w W4 := by rw [← hW4]; exact below_putObj h6 (by omega) _
      clear hW4 h1 h2 h3 h4 h5 h6 h7 hget hSa hW1 g1 g2 hb1 hbel3 h3r h3a h3b
      have k6 : W4.cell? ⟨w.heap.size, 0, none⟩ = some (.bool false) := by simp [World.cell?, k3]
      have k7 : W4.frozen? ⟨w.heap.size, 0, none⟩ = false := by simp [World.frozen?, k3]
      gi_wp2
      have hset : W4.setCell ⟨w.heap.size, 0, none⟩ (.bool true) = W4.setRow w.heap.size #[.bool true] := by
        rw [setCell_eq_setRow _ _ _ _ _ _ _ k3]
        rfl
      rw [hset]
      have kD : (W4.setRow w.heap.size #[.bool true]).heap[w3.heap.size]? = some (.deferred (some [])) := (setRow_other _ _ _ _ (by omega)).trans k2
      have kr := setRow_heap W4 w.heap.size _ #[.bool true] _ _ k3
      refine ⟨by simp, .inl ⟨_, _, rfl, run_takeDeferred kD, ?_⟩⟩
      have hc5 : ((W4.setRow w.heap.size #[.bool true]).putObj w3.heap.size (.deferred none)).cell? ⟨w.heap.size, 0, none⟩ = some (.bool true) := by
        have h := (World.putObj_heap_other (w := W4.setRow w.heap.size #[.bool true]) (r := w3.heap.size) (o := .deferred none) (k := w.heap.size) (by omega)).trans kr
        simp [World.cell?, h]
      refine ⟨.bool true, ?_, rfl, below_putObj (below_setRow k5 (Nat.le_refl _) _) (by omega) _⟩
      simp [results, Try.f12, go_sem, hc5]
    · refine ⟨some .ret, _, run_endLoop h1 (by simp [rfRec]), ?_⟩
      clear hU
      subst h7
      have hll := (Array.getElem?_eq_some_iff.1 h1).1
      generalize hW4 : World.putObj _ _ _ = W4
      have k2 : W4.heap[w3.heap.size]? = some (.deferred (some [])) := by rw [← hW4]; exact (World.putObj_heap_other (by omega)).trans h2
      have k3 : W4.heap[w.heap.size]? = some (.cells #[.bool false] 4 (0, 0)) := by rw [← hW4]; exact (World.putObj_heap_other (by omega)).trans h3
      have k5 : Below w.heap.size w W4 := by rw [← hW4]; exact below_putObj h6 (by omega) _
      clear hW4 h1 h2 h3 h6 hget hSa hW1 g1 g2 hb1 hbel3 h3r h3a h3b
      have k6 : W4.cell? ⟨w.heap.size, 0, none⟩ = some (.bool false) := by simp [World.cell?, k3]
      gi_wp2
      refine ⟨by simp, .inl ⟨_, _, rfl, run_takeDeferred k2, ?_⟩⟩
      have hc5 : (W4.putObj w3.heap.size (.deferred none)).cell? ⟨w.heap.size, 0, none⟩ = some (.bool false) := by
        have h := (World.putObj_heap_other (w := W4) (r := w3.heap.size) (o := .deferred none) (k := w.heap.size) (by omega)).trans k3
        simp [World.cell?, h]
      refine ⟨.bool false, ?_, rfl, below_putObj k5 (by omega) _⟩
      simp [results, Try.f12, go_sem, hc5]
end Go.Proofs.Ytjkdpahaingjjaa.Ab
