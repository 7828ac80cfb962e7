/-
  What is known of listed variables: arrays of texts. No claim is proved here.
-/
import Derived.Test.YtdfdiglnpekcpaaDoorAbTrod
import Derived.FnData
namespace Go.Proofs.YtdfdiglnpekcpaaDoor.Ab
open Go Go.RowKit Go.ChangeShapes Go.WideShapes
theorem cell_lt {W : World} {g o : Nat} {v : Value} (h : W.cell? ⟨g, o, none⟩ = some v) : g < W.heap.size := by
  unfold World.cell? at h
  split at h
  · rename_i c _ _ hb
    exact (Array.getElem?_eq_some_iff.1 hb).1
  · cases h
theorem strs_laid {H : Type} {enc : TypeId × Value → H} {P : Program} {W : World} {t e g : Nat} {sp : Nat → Bool} {held : Bool} {l : List (List UInt8)} {cs : Array Value} {fuel : Nat} {p : List MemPlace} (hl : 0 < l.length)
    (ht : P.underlying t = some (.array l.length e)) (he : P.underlying e = some .string) (hc : P.cellsOf e = 1) (hcell : ∀ i, W.cell? ⟨g, i, none⟩ = cs[i]?)
    (hd : DataW.trod enc P W 0 sp held fuel t cs.toList = some (.agg (l.map fun s => .lit (.string s)), p)) : Rd W (oldF W) noNames (.eptr (.agg (l.map AV.str)) 0) (.pointer (some ⟨g, 0, none⟩)) := by
  obtain ⟨xs, m, _, hx, _, hn, hel⟩ := DataW.trod_array ht hd
  simp only [Prod.mk.injEq, DataW.agg.injEq] at hx
  have each : ∀ (i : Nat) (s : List UInt8), l[i]? = some s → cs[i]? = some (Value.string ⟨s.toArray⟩) := fun i s hs => by
    have hi := (List.getElem?_eq_some_iff.1 hs).1
    have h1 := hel i hi
    rw [hc, Nat.mul_one, List.getElem?_eq_getElem (by omega)] at h1
    obtain ⟨b, e1, e2, _⟩ := DataW.trod_string he h1
    have h2 : (l.map fun s => (DataW.lit (Lit.string s) : DataW H))[i]? = (xs.map (·.1))[i]? := by rw [hx.1]
    rw [List.getElem?_map, List.getElem?_map, hs, List.getElem?_eq_getElem (by omega), e2] at h2
    simp only [Option.map_some, Option.some.injEq, DataW.lit.injEq, Lit.string.injEq] at h2
    have h3 : (cs.toList.drop i)[0]? = some (.string b) := by
      have := congrArg (·[0]?) e1
      simpa [List.getElem?_take] using this
    rw [List.getElem?_drop, Nat.add_zero, Array.getElem?_toList] at h3
    rw [h3, h2]
  have h0 : g < W.heap.size := by
    obtain ⟨s, hs⟩ : ∃ s, l[0]? = some s := ⟨l[0], List.getElem?_eq_getElem hl⟩
    exact cell_lt (v := .string ⟨s.toArray⟩) (o := 0) (by rw [hcell, each 0 s hs])
  have key := Rd.eptr (w := W) (F := oldF W) noNames (.agg (l.map AV.str)) 0 g 0 (fun p => (cs[p]?).getD Go.undef) h0
    (fun p hp => by
      have hp' : p < l.length := by simpa [AV.cells] using hp
      rw [Nat.zero_add, hcell, each p l[p] (List.getElem?_eq_getElem hp')]; rfl)
    (fun p hp => by
      have hp' : p < l.length := by simpa [AV.cells] using hp
      rw [each p l[p] (List.getElem?_eq_getElem hp')]; rfl)
    (fun j c hj => by
      simp only [AV.cells, List.getElem?_map] at hj
      obtain ⟨s, hs, rfl⟩ := Option.map_eq_some_iff.1 hj
      rw [each j s hs]
      exact Rd.str _ _)
  simpa using key
/-- Among listed variables' readings. -/
theorem laid_one {P : Program} {W : World} {n : String} {d : DataW Unit} (h : laidMet P [(n, d)] W) :
    ∃ (g t : Nat) (cs : Array Value) (fuel : Nat) (p : List MemPlace), P.globalNamed n = some g ∧ (P.globals[g]?).map (·.type) = some t ∧ (∀ i, W.cell? ⟨g, i, none⟩ = cs[i]?) ∧ DataW.trod (fun _ => ()) P W 0 (fun _ => true) false fuel t cs.toList = some (d, p) := by
  obtain ⟨ps, ⟨g, t, cs, fuel, p, q, hg, ht, hv, hd, _⟩, _⟩ := h
  exact ⟨g, t, cs, fuel, p, hg, ht, fun i => World.var?_cell hg hv i, hd⟩
theorem laidVars_at {P : Program} {W : World} : ∀ {l : List (String × DataW Unit)} {ps : List MemPlace} (i : Nat) {n : String} {d : DataW Unit}, DataW.LaidVars P W l ps → l[i]? = some (n, d) →
    ∃ (g t : Nat) (cs : Array Value) (fuel : Nat) (p : List MemPlace), P.globalNamed n = some g ∧ (P.globals[g]?).map (·.type) = some t ∧ (∀ i, W.cell? ⟨g, i, none⟩ = cs[i]?) ∧ DataW.trod (fun _ => ()) P W 0 (fun _ => true) false fuel t cs.toList = some (d, p)
  | [], _, i, _, _, _, h => by simp at h
  | (m, e) :: r, ps, 0, n, d, h, hi => by
    simp only [List.getElem?_cons_zero, Option.some.injEq, Prod.mk.injEq] at hi
    obtain ⟨rfl, rfl⟩ := hi
    obtain ⟨g, t, cs, fuel, p, q, hg, ht, hv, hd, _⟩ := h
    exact ⟨g, t, cs, fuel, p, hg, ht, fun i => World.var?_cell hg hv i, hd⟩
  | (m, e) :: r, ps, i + 1, n, d, h, hi => by
    obtain ⟨_, _, _, _, _, q, _, _, _, _, h, _⟩ := h
    exact laidVars_at i h (by simpa using hi)
theorem laid_at {P : Program} {W : World} {l : List (String × DataW Unit)} (i : Nat) {n : String} {d : DataW Unit} (h : laidMet P l W) (hi : l[i]? = some (n, d)) :
    ∃ (g t : Nat) (cs : Array Value) (fuel : Nat) (p : List MemPlace), P.globalNamed n = some g ∧ (P.globals[g]?).map (·.type) = some t ∧ (∀ i, W.cell? ⟨g, i, none⟩ = cs[i]?) ∧ DataW.trod (fun _ => ()) P W 0 (fun _ => true) false fuel t cs.toList = some (d, p) := by
  obtain ⟨ps, h, _⟩ := h
  exact laidVars_at i h hi
/-- A law's contract, in the row's words, where variables are known. -/
theorem PureC.calls_trueG {P : Program} {G : Nat → Option AV} {f : Nat} {args : List AV} (h : PureC P G f args (.bool true)) {w : World} {F : Nat → Prop} {vs : Array Value} (hg : Good w F G) (ha : ArgsR w F args vs) :
    Calls P f vs w fun e w' => e = .returned (.bool true) ∧ Below w.heap.size w w' := by
  refine (h w F vs hg ha).mono ?_
  rintro e w' ⟨v, F', rfl, _, _, _, hr, hb⟩
  cases hr
  exact ⟨rfl, hb⟩
end Go.Proofs.YtdfdiglnpekcpaaDoor.Ab
