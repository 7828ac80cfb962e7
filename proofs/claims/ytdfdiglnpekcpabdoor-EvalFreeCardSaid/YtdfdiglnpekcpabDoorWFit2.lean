/-
  Of an automaton that may be: which expressions may be. What is said of values may be said more weakly, in lists too. No claim is proved here.
-/
import Derived.Test.YtdfdiglnpekcpabDoorWD26
namespace Go.Proofs.YtdfdiglnpekcpabDoor.Ab
open Go
set_option linter.unusedSimpArgs false
/-- A place whose expression has a kind. -/
def KindAt (q : QeaT) (i : Nat) : Prop := ∃ e, (exprs q)[i]? = some e ∧ ¬ e.kind = 0
theorem exL_get {q : QeaT} {i : Nat} {x : NodeT} (hx : q.nodes[i]? = some x) : ∀ n, i < n → n ≤ q.nodes.length → (exL q n)[i]? = some (exStep q (exL q i) i x)
  | 0, h, _ => absurd h (by omega)
  | n + 1, h, hn => by
    obtain ⟨y, hy, _⟩ := at_some (l := q.nodes) (i := n) (by omega)
    have hl := exL_length q n (by omega)
    rw [exL_step hy]
    by_cases e : i = n
    · subst e
      rw [hx] at hy; cases hy
      rw [List.getElem?_append_right (by omega), hl]
      simp
    · rw [List.getElem?_append_left (by omega)]
      exact exL_get hx n (by omega) (by omega)
theorem exL_pre {q : QeaT} {i j : Nat} {e : ExT} (hi : i ≤ q.nodes.length) (h : (exL q i)[j]? = some e) : (exprs q)[j]? = some e := by
  have hl := exL_length q i hi
  have hj := (List.getElem?_eq_some_iff.1 h).1
  obtain ⟨x, hx, _⟩ := at_some (l := q.nodes) (i := j) (by omega)
  rw [exL_get hx i (by omega) hi] at h
  unfold exprs
  rw [exL_get hx _ (by omega) (Nat.le_refl _)]
  exact h
theorem safe_of (q : QeaT) (h64 : ∀ x ∈ q.nodes, i64 x.value.int) : Safe q (KindAt q) := by
  have key : ∀ i, KindAt q i → ∃ x, q.nodes[i]? = some x ∧ NodeW q i x ∧ (4 ≤ x.op → KindAt q x.a.toNat ∧ (6 ≤ x.op → KindAt q x.b.toNat)) := by
    rintro i ⟨e, he, hk⟩
    have hlen := exL_length q q.nodes.length (Nat.le_refl _)
    have hi : i < q.nodes.length := by
      have := (List.getElem?_eq_some_iff.1 he).1
      unfold exprs at this
      omega
    obtain ⟨x, hx, hm⟩ := at_some hi
    have hel := exL_length q i (by omega)
    unfold exprs at he
    rw [exL_get hx _ hi (Nat.le_refl _)] at he
    simp only [Option.some.injEq] at he
    subst he
    refine ⟨x, hx, ?_⟩
    unfold exStep at hk
    cases hleaf : leafOf q i x with
    | some e =>
      unfold leafOf at hleaf
      by_cases h1 : x.op = 1
      · rw [if_pos h1] at hleaf
        split at hleaf
        · rename_i hc
          exact ⟨.con h1 ⟨hc.2.2, h64 x hm⟩, fun h => by omega⟩
        · cases hleaf
      rw [if_neg h1] at hleaf
      by_cases h2 : x.op = 2
      · rw [if_pos h2] at hleaf
        split at hleaf
        · obtain ⟨y, hy, _⟩ := Option.map_eq_some_iff.1 hleaf
          obtain ⟨j, hj, hy⟩ := at?_some hy
          exact ⟨.quant h2 j hj y hy, fun h => by omega⟩
        · cases hleaf
      rw [if_neg h2] at hleaf
      by_cases h3 : x.op = 3
      · rw [if_pos h3] at hleaf
        split at hleaf
        · obtain ⟨y, hy, _⟩ := Option.map_eq_some_iff.1 hleaf
          obtain ⟨j, hj, hy⟩ := at?_some hy
          exact ⟨.free h3 j hj y hy, fun h => by omega⟩
        · cases hleaf
      rw [if_neg h3] at hleaf
      cases hleaf
    | none =>
      rw [hleaf] at hk
      dsimp only at hk
      split at hk
      · exact absurd rfl hk
      rename_i hop
      have hop4 : 4 ≤ x.op ∧ x.op ≤ 16 := by
        constructor
        · by_cases h : 4 ≤ x.op
          · exact h
          · exact absurd (.inl (by omega)) hop
        · by_cases h : x.op ≤ 16
          · exact h
          · exact absurd (.inr (.inl (by omega))) hop
      cases hb : at? (exL q i) ((i : Int) - 1) with
      | none => rw [hb] at hk; exact absurd rfl hk
      | some b =>
        rw [hb] at hk
        dsimp only at hk
        obtain ⟨j, hj, hbj⟩ := at?_some hb
        have hjl := (List.getElem?_eq_some_iff.1 hbj).1
        split at hk
        · exact absurd rfl hk
        rename_i hbk
        have hKj : KindAt q j := ⟨b, exL_pre (by omega) hbj, hbk⟩
        split at hk
        · rename_i h5
          split at hk
          · rename_i hc
            have hxa : x.a = j := by omega
            refine ⟨.una (by omega) j hxa (by omega), fun _ => ⟨by rw [hxa, Int.toNat_natCast]; exact hKj, fun h => by omega⟩⟩
          · exact absurd rfl hk
        · rename_i h5
          split at hk
          · rename_i hc
            cases ha : at? (exL q i) x.a with
            | none => rw [ha] at hk; exact absurd rfl hk
            | some a =>
              rw [ha] at hk
              dsimp only at hk
              split at hk
              · exact absurd rfl hk
              rename_i hak
              obtain ⟨k, hxk, hak'⟩ := at?_some ha
              have hkl := (List.getElem?_eq_some_iff.1 hak').1
              have hxb : x.b = j := by omega
              refine ⟨.bin (by omega) k j hxk hxb (by omega) (by omega), fun _ => ⟨?_, fun _ => ?_⟩⟩
              · rw [hxk, Int.toNat_natCast]
                exact ⟨a, exL_pre (by omega) hak', hak⟩
              · rw [hxb, Int.toNat_natCast]; exact hKj
          · exact absurd rfl hk
  refine ⟨fun i hi => ?_, fun i x hi hx h4 => ?_⟩
  · obtain ⟨x, hx, hw, _⟩ := key i hi
    exact ⟨x, hx, hw⟩
  · obtain ⟨y, hy, _, h⟩ := key i hi
    rw [hx] at hy; cases hy
    exact h h4
end Go.Proofs.YtdfdiglnpekcpabDoor.Ab
namespace Go.Proofs.YtdfdiglnpekcpabDoor.Ab
open Go Go.RowKit
set_option linter.unusedSimpArgs false
set_option maxHeartbeats 4000000
set_option maxRecDepth 100000
variable {G : Nat → Option AV}
inductive Fit2 : AV → AV → Prop where
  | refl (c : AV) : Fit2 c c
  | nil (sz : Nat) : Fit2 .nils (.seq sz [])
  | agg (cs ds : List AV) (hl : cs.length = ds.length) (h : ∀ (j : Nat) c d, cs[j]? = some c → ds[j]? = some d → Fit2 c d) : Fit2 (.agg cs) (.agg ds)
  | seq (sz : Nat) (es fs : List AV) (hl : es.length = fs.length) (hs : ∀ f ∈ fs, f.cells.length = sz) (h : ∀ (k : Nat) e f, es[k]? = some e → fs[k]? = some f → Fit2 e f) : Fit2 (.seq sz es) (.seq sz fs)
theorem Rd.fit2 {w : World} {F : Nat → Prop} {c d : AV} (h : Fit2 c d) : ∀ {nm : Names} {v : Value}, Rd w F nm c v → Rd w F nm d v := by
  induction h with
  | refl c => exact fun h => h
  | nil sz => intro nm v h; cases h; exact .seq0 _ _ _ _
  | agg cs ds hl h ih =>
    intro nm v hr
    obtain ⟨us, rfl, hu, hr⟩ := rd_agg hr
    refine .agg _ _ _ (by omega) fun j c u hc hu' => ?_
    have hj : j < cs.length := by have := (List.getElem?_eq_some_iff.1 hc).1; omega
    exact ih j _ c (List.getElem?_eq_getElem hj) hc (hr j _ u (List.getElem?_eq_getElem hj) hu')
  | seq sz es fs hl hs h ih =>
    intro nm v hr
    generalize hz : AV.seq sz es = z at hr
    cases hr with
    | seq0 _ sz' a cap =>
      simp only [AV.seq.injEq] at hz
      obtain ⟨rfl, rfl⟩ := hz
      have : fs = [] := List.eq_nil_of_length_eq_zero (by simpa using hl.symm)
      subst this
      exact .seq0 _ _ _ _
    | seq _ sz' es' g o cap u h0 hF hc hm hss hw h1 hh =>
      simp only [AV.seq.injEq] at hz
      obtain ⟨rfl, rfl⟩ := hz
      rw [hl]
      refine Rd.seq nm _ fs g o cap u h0 hF (by omega) hm hs (fun p hp => hw p (by rw [hl]; exact hp)) (fun p hp => h1 p (by rw [hl]; exact hp)) fun k f j c hf hc' => ?_
      have hk : k < es.length := by have := (List.getElem?_eq_some_iff.1 hf).1; omega
      obtain ⟨e, he⟩ : ∃ e, es[k]? = some e := ⟨_, List.getElem?_eq_getElem hk⟩
      have ih := @ih k e f he hf
      have hfit := h k e f he hf
      cases hfit with
      | refl => exact hh k _ j c he hc'
      | nil sz2 =>
        match j, hc' with
        | 0, hc' => cases hc'; exact ih (hh k _ 0 _ he rfl)
      | seq sz2 a1 a2 _ _ _ =>
        match j, hc' with
        | 0, hc' => cases hc'; exact ih (hh k _ 0 _ he rfl)
      | agg cs ds hl2 hcd =>
        have hc2 : ds[j]? = some c := hc'
        have hj : j < cs.length := by have := (List.getElem?_eq_some_iff.1 hc2).1; omega
        have hrd : Rd w F noNames (.agg cs) (.agg ((List.range cs.length).map fun i => u (k * sz + i)).toArray) := .agg _ _ _ (by simp) fun i c1 x hc1 hx => by
          have hi : i < cs.length := (List.getElem?_eq_some_iff.1 hc1).1
          rw [List.getElem?_map, List.getElem?_range hi] at hx
          cases hx
          exact hh k _ i c1 he hc1
        obtain ⟨us, e1, e2, e3⟩ := rd_agg (ih hrd)
        have e4 : ((List.range cs.length).map fun i => u (k * sz + i)) = us := by simpa using e1
        exact e3 j c _ hc2 (by rw [← e4, List.getElem?_map, List.getElem?_range hj]; rfl)
    | _ => cases hz
theorem argsR_fit2 {w : World} {F : Nat → Prop} : ∀ {args args' : List AV} {vs : Array Value}, args.length = args'.length → (∀ (j : Nat) c d, args[j]? = some c → args'[j]? = some d → Fit2 c d) → ArgsR w F args vs → ArgsR w F args' vs := fun hl h ha =>
  ⟨by rw [ha.1, hl], fun j d u hd hu => by
    have hj : j < _ := (List.getElem?_eq_some_iff.1 hd).1
    rw [← hl] at hj
    exact (ha.2 j _ u (List.getElem?_eq_getElem hj) hu).fit2 (h j _ d (List.getElem?_eq_getElem hj) hd)⟩
theorem PureC.fit2 {P : Program} {f : Nat} {args args' : List AV} {r : AV} (hl : args.length = args'.length) (h : ∀ (j : Nat) c d, args[j]? = some c → args'[j]? = some d → Fit2 c d) (hc : PureC P G f args' r) : PureC P G f args r := fun w F vs hg ha => hc w F vs hg (argsR_fit2 hl h ha)
end Go.Proofs.YtdfdiglnpekcpabDoor.Ab
