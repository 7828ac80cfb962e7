/-
  binding.Most. The greatest bindings: in order, each once: two ways. No claim is proved here.
-/
import Derived.Test.YtjkdpahaingjjaaZMo2
import Derived.Test.YtjkdpahaingjjaaZCf1
namespace Go.Proofs.Ytjkdpahaingjjaa.Ab
open Go Go.RowKit
set_option linter.unusedSimpArgs false
set_option maxHeartbeats 4000000
set_option maxRecDepth 100000
variable {G : Nat → Option AV}
def orderB (l : List (List SlotT)) : List (List SlotT) := compA (sortB l)
/-- What is asked of binding.order. -/
def OrderC (P : Program) (G : Nat → Option AV) (f : Nat) : Prop := ∀ l : List (List SlotT), l.length ≤ 1000 → (∀ x ∈ l, okL x ∧ x.length ≤ 1000) →
  HeapC P G f [.arr 1000 0 l.length] [(1000, ⟨true, t_Sapi_Slot, 1, l.map slotsV⟩)] (.arr 1000 0 (orderB l).length) [(1000, ⟨true, t_Sapi_Slot, 1, (orderB l).map slotsV ++ List.replicate (l.length - (orderB l).length) .nils⟩)]
def underL (l : List (List SlotT)) (b : List SlotT) : List (List SlotT) := l.filter fun x => underR x b
def mostF (u : List (List SlotT)) (x : List SlotT) : Bool := !u.any (mostP x)
def mostB (l : List (List SlotT)) (b : List SlotT) : List (List SlotT) := orderB ((underL l b).filter (mostF (underL l b)))
theorem filter_takeC {α : Type} {p : α → Bool} {l : List α} {i : Nat} {x : α} (h : l[i]? = some x) : (l.take (i + 1)).filter p = (l.take i).filter p ++ if p x then [x] else [] := by
  rw [takeC h, List.filter_append, List.filter_cons, List.filter_nil]
theorem view_row2 {α : Type} {e : α → AV} {sz : Nat} {H : List (Nat × Box)} {i : Nat} {ty : Nat} {l : List α} {rest : List AV} (h0 : 0 < sz) (hH : hget H i = some ⟨true, ty, sz, l.map e ++ rest⟩) : view H (.arr i 0 l.length) = some (.seq sz (l.map e)) := by
  simp only [view, hH, List.drop_zero, List.length_append, List.length_map]
  rw [if_pos ⟨trivial, h0, by omega⟩, List.take_append_of_le_length (by simp), List.take_of_length_le (by simp)]
theorem Most_pc (ho : OrderC Try.prog G n_binding_order) (l : List (List SlotT)) (b : List SlotT) (hl : l.length ≤ 1000) (hb : b.length ≤ 1000) (hx : ∀ x ∈ l, okL x ∧ x.length ≤ 1000) : PureC Try.prog G n_binding_Most [llV l, slotsV b] (llV (mostB l b)) := by
  refine pc_binding_Most (Runs.of fun Φ h => ?_)
  unfold c_binding_Most
  simp -implicitDefEqProofs only [go_sem, Nat.reduceAdd, Nat.reduceSub, Nat.reduceMul, Nat.reduceLT, Nat.reduceLeDiff, Nat.reduceEqDiff, Nat.reduceBEq, Int.reduceNeg, Int.reduceAdd, Int.reduceLT, Int.reduceLE, Int.reduceToNat, Int.reduceEq, Int.reduceNe, Int.reduceBEq, Int.reduceBNe, Int.reduceMul, Int.reduceSub, reduceIte, reduceCtorEq, llV, slotsV, List.length_map]
  refine at_loop (fun n st => ∃ (i : Nat) (m : List (List SlotT)), i + n = l.length ∧ st = ⟨42, [(1, .seq 5 (b.map slotV)), (5, .arr 5 0 m.length), (6, .arr 6 0 0), (11, .seq 1 (l.map slotsV)), (12, iv l.length), (13, iv i)], [(4, ⟨true, t_Sapi_Slot, 1, []⟩), (5, ⟨true, t_Sapi_Slot, 1, m.map slotsV⟩), (6, ⟨true, t_Sapi_Slot, 1, []⟩)]⟩ ∧ m = underL (l.take i) b) l.length ⟨0, [], by simp, rfl, rfl⟩ ?_
  rintro I hI n st ⟨i, m, hi, rfl, hm⟩
  have hml : m.length ≤ l.length := by
    have : m.length ≤ (l.take i).length := by rw [hm]; exact List.length_filter_le _ _
    rw [List.length_take] at this
    omega
  simp -implicitDefEqProofs only [go_sem, Nat.reduceAdd, Nat.reduceSub, Nat.reduceMul, Nat.reduceLT, Nat.reduceLeDiff, Nat.reduceEqDiff, Nat.reduceBEq, Int.reduceNeg, Int.reduceAdd, Int.reduceLT, Int.reduceLE, Int.reduceToNat, Int.reduceEq, Int.reduceNe, Int.reduceBEq, Int.reduceBNe, Int.reduceMul, Int.reduceSub, reduceIte, reduceCtorEq, List.length_map]
  refine ⟨fun hlt => ?_, fun hge => ?_⟩
  · have hlt' : i < l.length := by omega
    obtain ⟨x, hx1, hxm⟩ := at_some hlt'
    have hw := wrap_succ hlt' (by omega)
    have hc := binding_Under_pc (G := G) x b (by have := (hx x hxm).2; omega) (by omega)
    have hnx := filter_takeC (p := fun x => underR x b) hx1
    rw [show (l.take i).filter (fun x => underR x b) = m from hm.symm] at hnx
    have hb1 : (m.length + 1) * 24 ≤ 140737488355328 := by omega
    have ha := aiaddr_ll (H := [(4, ⟨true, t_Sapi_Slot, 1, []⟩), (5, ⟨true, t_Sapi_Slot, 1, m.map slotsV⟩), (6, ⟨true, t_Sapi_Slot, 1, []⟩)]) hx1
    simp only [slotsV] at hc
    cases hu : underR x b with
    | true =>
      rw [hu] at hc
      rw [hu, if_pos rfl] at hnx
      (try (simp -implicitDefEqProofs only [go_sem, Nat.reduceAdd, Nat.reduceSub, Nat.reduceMul, Nat.reduceLT, Nat.reduceLeDiff, Nat.reduceEqDiff, Nat.reduceBEq, Int.reduceNeg, Int.reduceAdd, Int.reduceLT, Int.reduceLE, Int.reduceToNat, Int.reduceEq, Int.reduceNe, Int.reduceBEq, Int.reduceBNe, Int.reduceMul, Int.reduceSub, reduceIte, reduceCtorEq, ha, hw, List.length_map, hb1])); repeat' ((first | refine at_guard (fun hb => ?_) (fun hb => ?_) | refine ⟨fun hb => ?_, fun hb => ?_⟩ | refine at_call (hc) rfl rfl ?_ | fail) <;> (try (simp -implicitDefEqProofs only [go_sem, Nat.reduceAdd, Nat.reduceSub, Nat.reduceMul, Nat.reduceLT, Nat.reduceLeDiff, Nat.reduceEqDiff, Nat.reduceBEq, Int.reduceNeg, Int.reduceAdd, Int.reduceLT, Int.reduceLE, Int.reduceToNat, Int.reduceEq, Int.reduceNe, Int.reduceBEq, Int.reduceBNe, Int.reduceMul, Int.reduceSub, reduceIte, reduceCtorEq, ha, hw, List.length_map, hb1])))
      refine at_again (n - 1) (by omega) (hI _ _ ⟨i + 1, m ++ [x], by omega, ?_, hnx.symm⟩)
      simp [slotsV]
    | false =>
      rw [hu] at hc
      rw [hu, if_neg (by simp), List.append_nil] at hnx
      (try (simp -implicitDefEqProofs only [go_sem, Nat.reduceAdd, Nat.reduceSub, Nat.reduceMul, Nat.reduceLT, Nat.reduceLeDiff, Nat.reduceEqDiff, Nat.reduceBEq, Int.reduceNeg, Int.reduceAdd, Int.reduceLT, Int.reduceLE, Int.reduceToNat, Int.reduceEq, Int.reduceNe, Int.reduceBEq, Int.reduceBNe, Int.reduceMul, Int.reduceSub, reduceIte, reduceCtorEq, ha, hw, List.length_map, hb1])); repeat' ((first | refine at_guard (fun hb => ?_) (fun hb => ?_) | refine ⟨fun hb => ?_, fun hb => ?_⟩ | refine at_call (hc) rfl rfl ?_ | fail) <;> (try (simp -implicitDefEqProofs only [go_sem, Nat.reduceAdd, Nat.reduceSub, Nat.reduceMul, Nat.reduceLT, Nat.reduceLeDiff, Nat.reduceEqDiff, Nat.reduceBEq, Int.reduceNeg, Int.reduceAdd, Int.reduceLT, Int.reduceLE, Int.reduceToNat, Int.reduceEq, Int.reduceNe, Int.reduceBEq, Int.reduceBNe, Int.reduceMul, Int.reduceSub, reduceIte, reduceCtorEq, ha, hw, List.length_map, hb1])))
      exact at_again (n - 1) (by omega) (hI _ _ ⟨i + 1, m, by omega, rfl, hnx.symm⟩)
  · rw [List.take_of_length_le (by omega)] at hm
    have hux : ∀ x ∈ m, okL x ∧ x.length ≤ 1000 := fun x h => hx x (by rw [hm] at h; exact (List.mem_filter.1 h).1)
    unfold mostB at h
    rw [← hm] at h
    clear hI hx hm hge hi I
    generalize m = u at *
    clear m
    refine at_loop (fun n st => ∃ (i : Nat) (o : List (List SlotT)), i + n = u.length ∧ st = ⟨42, [(5, .arr 5 0 u.length), (6, .arr 6 0 o.length), (25, .arr 5 0 u.length), (26, iv u.length), (27, iv i)], [(4, ⟨true, t_Sapi_Slot, 1, []⟩), (5, ⟨true, t_Sapi_Slot, 1, u.map slotsV⟩), (6, ⟨true, t_Sapi_Slot, 1, o.map slotsV⟩)]⟩ ∧ o = (u.take i).filter (mostF u)) u.length ⟨0, [], by simp, rfl, rfl⟩ ?_
    rintro I hI n st ⟨i, o, hi, rfl, hm⟩
    have hol : o.length ≤ u.length := by
      have : o.length ≤ (u.take i).length := by rw [hm]; exact List.length_filter_le _ _
      rw [List.length_take] at this
      omega
    simp -implicitDefEqProofs only [go_sem, Nat.reduceAdd, Nat.reduceSub, Nat.reduceMul, Nat.reduceLT, Nat.reduceLeDiff, Nat.reduceEqDiff, Nat.reduceBEq, Int.reduceNeg, Int.reduceAdd, Int.reduceLT, Int.reduceLE, Int.reduceToNat, Int.reduceEq, Int.reduceNe, Int.reduceBEq, Int.reduceBNe, Int.reduceMul, Int.reduceSub, reduceIte, reduceCtorEq]
    refine ⟨fun hlt => ?_, fun hge => ?_⟩
    · have hlt' : i < u.length := by omega
      obtain ⟨x, hx1, hxm⟩ := at_some hlt'
      have hw := wrap_succ hlt' (by omega)
      have mx := map_at (f := slotsV) hx1
      have hc := slices_ContainsFunc_api_Slot_api_Slot_pc (G := G) n_binding_Most_1 [.eptr (slotsV x) 0] (by kernel_rfl) (okC_sl x) (mostP x) u (fun y hy => Most_1_pc x y (hux x hxm).2 (hux y hy).2) (by omega)
      have hnx := filter_takeC (p := mostF u) hx1
      rw [← hm, show mostF u x = !u.any (mostP x) from rfl] at hnx
      have hb1 : (o.length + 1) * 24 ≤ 140737488355328 := by omega
      have hb2 : ((i : Int) < (u.length : Int)) = True := by simp; omega
      have ht : List.take u.length (u.map slotsV) = u.map slotsV := List.take_of_length_le (by simp)
      simp only [slotsV] at hc mx
      cases hu : u.any (mostP x) with
      | true =>
        rw [hu] at hc
        rw [hu, Bool.not_true, if_neg (by simp), List.append_nil] at hnx
        (try (simp -implicitDefEqProofs only [go_sem, Nat.reduceAdd, Nat.reduceSub, Nat.reduceMul, Nat.reduceLT, Nat.reduceLeDiff, Nat.reduceEqDiff, Nat.reduceBEq, Int.reduceNeg, Int.reduceAdd, Int.reduceLT, Int.reduceLE, Int.reduceToNat, Int.reduceEq, Int.reduceNe, Int.reduceBEq, Int.reduceBNe, Int.reduceMul, Int.reduceSub, reduceIte, reduceCtorEq, aiaddr_own, mx, hw, hb2, List.length_map, hb1])); repeat' ((first | refine at_guard (fun hb => ?_) (fun hb => ?_) | refine ⟨fun hb => ?_, fun hb => ?_⟩ | (refine at_call hc (by simp [viewC, flat, viewBs, viewB, viewK, viewK.go, ht, hget]) rfl ?_) | fail) <;> (try (simp -implicitDefEqProofs only [go_sem, Nat.reduceAdd, Nat.reduceSub, Nat.reduceMul, Nat.reduceLT, Nat.reduceLeDiff, Nat.reduceEqDiff, Nat.reduceBEq, Int.reduceNeg, Int.reduceAdd, Int.reduceLT, Int.reduceLE, Int.reduceToNat, Int.reduceEq, Int.reduceNe, Int.reduceBEq, Int.reduceBNe, Int.reduceMul, Int.reduceSub, reduceIte, reduceCtorEq, aiaddr_own, mx, hw, hb2, List.length_map, hb1])))
        exact at_again (n - 1) (by omega) (hI _ _ ⟨i + 1, o, by omega, rfl, hnx.symm⟩)
      | false =>
        rw [hu] at hc
        rw [hu, Bool.not_false, if_pos rfl] at hnx
        (try (simp -implicitDefEqProofs only [go_sem, Nat.reduceAdd, Nat.reduceSub, Nat.reduceMul, Nat.reduceLT, Nat.reduceLeDiff, Nat.reduceEqDiff, Nat.reduceBEq, Int.reduceNeg, Int.reduceAdd, Int.reduceLT, Int.reduceLE, Int.reduceToNat, Int.reduceEq, Int.reduceNe, Int.reduceBEq, Int.reduceBNe, Int.reduceMul, Int.reduceSub, reduceIte, reduceCtorEq, aiaddr_own, mx, hw, hb2, List.length_map, hb1])); repeat' ((first | refine at_guard (fun hb => ?_) (fun hb => ?_) | refine ⟨fun hb => ?_, fun hb => ?_⟩ | (refine at_call hc (by simp [viewC, flat, viewBs, viewB, viewK, viewK.go, ht, hget]) rfl ?_) | fail) <;> (try (simp -implicitDefEqProofs only [go_sem, Nat.reduceAdd, Nat.reduceSub, Nat.reduceMul, Nat.reduceLT, Nat.reduceLeDiff, Nat.reduceEqDiff, Nat.reduceBEq, Int.reduceNeg, Int.reduceAdd, Int.reduceLT, Int.reduceLE, Int.reduceToNat, Int.reduceEq, Int.reduceNe, Int.reduceBEq, Int.reduceBNe, Int.reduceMul, Int.reduceSub, reduceIte, reduceCtorEq, aiaddr_own, mx, hw, hb2, List.length_map, hb1])))
        refine at_again (n - 1) (by omega) (hI _ _ ⟨i + 1, o ++ [x], by omega, ?_, hnx.symm⟩)
        simp [slotsV]
    · rw [List.take_of_length_le (by omega)] at hm
      have hox : ∀ x ∈ o, okL x ∧ x.length ≤ 1000 := fun x h => hux x (by rw [hm] at h; exact (List.mem_filter.1 h).1)
      have hc := ho o (by omega) hox
      rw [← hm] at h
      clear hI hm hux I
      generalize orderB o = r at *
      (try (simp -implicitDefEqProofs only [go_sem, Nat.reduceAdd, Nat.reduceSub, Nat.reduceMul, Nat.reduceLT, Nat.reduceLeDiff, Nat.reduceEqDiff, Nat.reduceBEq, Int.reduceNeg, Int.reduceAdd, Int.reduceLT, Int.reduceLE, Int.reduceToNat, Int.reduceEq, Int.reduceNe, Int.reduceBEq, Int.reduceBNe, Int.reduceMul, Int.reduceSub, reduceIte, reduceCtorEq])); repeat' ((first | refine at_guard (fun hb => ?_) (fun hb => ?_) | refine ⟨fun hb => ?_, fun hb => ?_⟩ | (refine at_callH [(1000, 6)] hc rfl ⟨⟨_, _, rfl, rfl, rfl⟩, trivial⟩ rfl rfl rfl ?_) | fail) <;> (try (simp -implicitDefEqProofs only [go_sem, Nat.reduceAdd, Nat.reduceSub, Nat.reduceMul, Nat.reduceLT, Nat.reduceLeDiff, Nat.reduceEqDiff, Nat.reduceBEq, Int.reduceNeg, Int.reduceAdd, Int.reduceLT, Int.reduceLE, Int.reduceToNat, Int.reduceEq, Int.reduceNe, Int.reduceBEq, Int.reduceBNe, Int.reduceMul, Int.reduceSub, reduceIte, reduceCtorEq])))
      exact h _ ⟨_, _, rfl, view_row2 (e := slotsV) (l := r) (ty := t_Sapi_Slot) (by decide) rfl, .refl _⟩
end Go.Proofs.Ytjkdpahaingjjaa.Ab
namespace Go.Proofs.Ytjkdpahaingjjaa.Ab
open Go
set_option linter.unusedSimpArgs false
theorem strict_ext : ∀ {l k : List (List SlotT)}, l.Pairwise (fun a b => lessB a b = true) → k.Pairwise (fun a b => lessB a b = true) → (∀ x, x ∈ l ↔ x ∈ k) → l = k
  | [], [], _, _, _ => rfl
  | [], y :: k, _, _, h => by have := (h y).2 (by simp); cases this
  | x :: l, [], _, _, h => by have := (h x).1 (by simp); cases this
  | x :: l, y :: k, hl, hk, h => by
    rw [List.pairwise_cons] at hl hk
    have hxy : x = y := by
      rcases List.mem_cons.1 ((h x).1 (by simp)) with e | e
      · exact e
      · rcases List.mem_cons.1 ((h y).2 (by simp)) with e2 | e2
        · exact e2.symm
        · have h1 := hk.1 x e
          have h2 := hl.1 y e2
          rw [lessB_asy h1] at h2
          cases h2
    subst hxy
    rw [strict_ext hl.2 hk.2 fun z => ?_]
    constructor
    · intro hz
      rcases List.mem_cons.1 ((h z).1 (by simp [hz])) with e | e
      · subst e
        have := hl.1 z hz
        rw [lessB_irr] at this
        cases this
      · exact e
    · intro hz
      rcases List.mem_cons.1 ((h z).2 (by simp [hz])) with e | e
      · subst e
        have := hk.1 z hz
        rw [lessB_irr] at this
        cases this
      · exact e
theorem compT_mem {α : Type} [DecidableEq α] : ∀ (r : List α) (p x : α), x ∈ p :: compT p r ↔ x ∈ p :: r
  | [], p, x => by simp [compT]
  | y :: r, p, x => by
    rw [compT]
    by_cases e : p = y
    · subst e
      rw [if_pos rfl, compT_mem r p x]
      simp
    · rw [if_neg e, List.mem_cons, compT_mem r y x]
      simp
theorem compA_mem {α : Type} [DecidableEq α] (l : List α) (x : α) : x ∈ compA l ↔ x ∈ l := by
  cases l with
  | nil => simp [compA]
  | cons y r => exact compT_mem r y x
theorem compT_strict : ∀ (r : List (List SlotT)) (p : List SlotT), (∀ x ∈ p :: r, okL x) → (p :: r).Pairwise (fun a b => lessB b a = false) → (p :: compT p r).Pairwise fun a b => lessB a b = true
  | [], p, _, _ => by simp [compT]
  | y :: r, p, ok, h => by
    rw [List.pairwise_cons] at h
    rw [compT]
    by_cases e : p = y
    · subst e
      rw [if_pos rfl]
      exact compT_strict r p (fun x hx => ok x (List.mem_cons_of_mem _ hx)) h.2
    · rw [if_neg e]
      have h2 := compT_strict r y (fun x hx => ok x (List.mem_cons_of_mem _ hx)) h.2
      rw [List.pairwise_cons]
      refine ⟨fun z hz => ?_, h2⟩
      have hpy : lessB p y = true := by
        rcases lessB_tot (ok p (by simp)) (ok y (by simp)) e with h3 | h3
        · exact h3
        · rw [h.1 y (by simp)] at h3; cases h3
      rcases List.mem_cons.1 hz with e2 | e2
      · rw [e2]; exact hpy
      · rw [List.pairwise_cons] at h2
        exact lessB_trans hpy (h2.1 z e2)
theorem orderB_strict {l : List (List SlotT)} (ok : ∀ x ∈ l, okL x) : (orderB l).Pairwise fun a b => lessB a b = true := by
  unfold orderB
  have h := sortB_sorted ok
  have hp := sortB_perm l
  cases hs : sortB l with
  | nil => simp [compA]
  | cons y r =>
    rw [hs] at h hp
    exact compT_strict r y (fun x hx => ok x (hp.subset hx)) h
theorem orderB_mem {l : List (List SlotT)} {x : List SlotT} : x ∈ orderB l ↔ x ∈ l := by
  unfold orderB
  rw [compA_mem]
  exact (sortB_perm l).mem_iff
theorem goPut_spec {b : List SlotT} {l : List (List SlotT)} : ∀ (n : Nat), n ≤ l.length → (∀ j x, goPut b l n ≤ j → j < n → l[j]? = some x → lessB b x = true) ∧ (∀ j x, j + 1 = goPut b l n → l[j]? = some x → lessB b x = false)
  | 0, _ => ⟨fun j x _ h => by omega, fun j x h => by simp [goPut] at h⟩
  | n + 1, hn => by
    obtain ⟨y, hy, _⟩ := at_some (l := l) (i := n) (by omega)
    have he : goPut b l (n + 1) = if lessB b y then goPut b l n else n + 1 := by rw [goPut, hy]
    cases h : lessB b y with
    | true =>
      rw [he, h, if_pos rfl]
      obtain ⟨h1, h2⟩ := goPut_spec (b := b) (l := l) n (by omega)
      refine ⟨fun j x hj hjn hx => ?_, h2⟩
      by_cases e : j = n
      · subst e; rw [hy] at hx; cases hx; exact h
      · exact h1 j x hj (by omega) hx
    | false =>
      rw [he, h, if_neg (by simp)]
      refine ⟨fun j x hj hjn => by omega, fun j x hj hx => ?_⟩
      have : j = n := by omega
      subst this
      rw [hy] at hx; cases hx
      exact h
theorem putB_mem {l : List (List SlotT)} {b x : List SlotT} : x ∈ putB l b ↔ x ∈ l ∨ x = b := by
  unfold putB
  split
  · rename_i h
    exact ⟨.inl, fun h2 => h2.elim id fun e => e ▸ h⟩
  · unfold insP
    have e : x ∈ l ↔ x ∈ l.take (goPut b l l.length) ∨ x ∈ l.drop (goPut b l l.length) := by rw [← List.mem_append, List.take_append_drop]
    rw [List.mem_append, List.mem_cons, e]
    constructor
    · rintro (h | h | h)
      · exact .inl (.inl h)
      · exact .inr h
      · exact .inl (.inr h)
    · rintro ((h | h) | h)
      · exact .inl h
      · exact .inr (.inr h)
      · exact .inr (.inl h)
theorem putB_strict {l : List (List SlotT)} {b : List SlotT} (ok : ∀ x ∈ l, okL x) (okb : okL b) (h : l.Pairwise fun a b => lessB a b = true) : (putB l b).Pairwise fun a b => lessB a b = true := by
  unfold putB
  split
  · exact h
  · rename_i hb
    obtain ⟨h1, h2⟩ := goPut_spec (b := b) (l := l) l.length (Nat.le_refl _)
    have hle := goPut_le b l l.length
    unfold insP
    generalize goPut b l l.length = g at *
    have hd : ∀ y ∈ l.drop g, lessB b y = true := fun y hy => by
      obtain ⟨j, hj⟩ := List.getElem?_of_mem hy
      rw [List.getElem?_drop] at hj
      exact h1 (g + j) y (by omega) (List.getElem?_eq_some_iff.1 hj).1 hj
    have ht : ∀ y ∈ l.take g, lessB y b = true := fun y hy => by
      obtain ⟨j, hj⟩ := List.getElem?_of_mem hy
      rw [List.getElem?_take] at hj
      split at hj
      · rename_i hjg
        obtain ⟨z, hz, hzm⟩ := at_some (l := l) (i := g - 1) (by omega)
        have hzb := h2 (g - 1) z (by omega) hz
        have hzb2 : lessB z b = true := by
          rcases lessB_tot (ok z hzm) okb (fun e => hb (e ▸ hzm)) with h3 | h3
          · exact h3
          · rw [hzb] at h3; cases h3
        by_cases e : j = g - 1
        · subst e
          rw [hz] at hj; cases hj
          exact hzb2
        · obtain ⟨a1, a2⟩ := List.getElem?_eq_some_iff.1 hj
          obtain ⟨b1, b2⟩ := List.getElem?_eq_some_iff.1 hz
          have := (List.pairwise_iff_getElem.1 h) j (g - 1) a1 b1 (by omega)
          rw [a2, b2] at this
          exact lessB_trans this hzb2
      · cases hj
    rw [List.pairwise_append, List.pairwise_cons]
    refine ⟨h.sublist (List.take_sublist _ _), ⟨hd, h.sublist (List.drop_sublist _ _)⟩, fun a ha c hc => ?_⟩
    rcases List.mem_cons.1 hc with e | e
    · rw [e]; exact ht a ha
    · exact lessB_trans (ht a ha) (hd c e)
theorem puts_strict : ∀ (m w : List (List SlotT)), (∀ x ∈ m, okL x) → (∀ x ∈ w, okL x) → w.Pairwise (fun a b => lessB a b = true) → (m.foldl putB w).Pairwise (fun a b => lessB a b = true) ∧ ∀ x, x ∈ m.foldl putB w ↔ x ∈ w ∨ x ∈ m
  | [], w, _, _, h => ⟨h, fun x => by simp⟩
  | b :: m, w, hm, hw, h => by
    obtain ⟨h1, h2⟩ := puts_strict m (putB w b) (fun x hx => hm x (by simp [hx])) (fun x hx => (putB_mem.1 hx).elim (hw x) fun e => e ▸ hm b (by simp)) (putB_strict hw (hm b (by simp)) h)
    refine ⟨h1, fun x => ?_⟩
    rw [List.foldl_cons, h2, putB_mem, List.mem_cons]
    exact ⟨fun h => h.elim (fun h => h.elim .inl fun h => .inr (.inl h)) fun h => .inr (.inr h), fun h => h.elim (fun h => .inl (.inl h)) fun h => h.elim (fun h => .inl (.inr h)) .inr⟩
theorem order_puts {m : List (List SlotT)} (ok : ∀ x ∈ m, okL x) : orderB m = m.foldl putB [] := by
  obtain ⟨h1, h2⟩ := puts_strict m [] ok (fun x h => by cases h) List.Pairwise.nil
  refine strict_ext (orderB_strict ok) h1 fun x => ?_
  rw [orderB_mem, h2]
  simp
/-- Which ones the law takes. -/
def isQ (b x y : List SlotT) : Bool := underR y b && (decide (x.length < y.length) && underR x y)
def isB (l : List (List SlotT)) (b x : List SlotT) : Bool := underR x b && !l.any (isQ b x)
def wantB (l : List (List SlotT)) (b : List SlotT) : List (List SlotT) := (l.filter (isB l b)).foldl putB []
theorem most_want {l : List (List SlotT)} {b : List SlotT} (ok : ∀ x ∈ l, okL x) : mostB l b = wantB l b := by
  have e : (underL l b).filter (mostF (underL l b)) = l.filter (isB l b) := by
    unfold underL
    rw [List.filter_filter]
    apply List.filter_congr
    intro x _
    unfold mostF isB
    rw [List.any_filter]
    rw [Bool.and_comm]
    rfl
  unfold mostB wantB
  rw [e]
  exact order_puts fun x hx => ok x (List.mem_filter.1 hx).1
end Go.Proofs.Ytjkdpahaingjjaa.Ab
