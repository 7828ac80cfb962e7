/-
  Variables that are laid, as the reading of known variables has them. No claim is proved here.
-/
import Derived.Test.YtgdlgdchdohdoaaGreatDoorQAbTrod
import Derived.FnData
import Derived.Test.YtgdlgdchdohdoaaGreatDoorQD0
namespace Go.Proofs.YtgdlgdchdohdoaaGreatDoor.Ab
open Go Go.RowKit Go.ChangeShapes Go.WideShapes
/-- An array of one-cell elements, out of its cells. -/
theorem arr_laid {P : Program} {W : World} {t e g : Nat} {zs : List AV} {cs : Array Value} (_h0 : 0 < zs.length) (_hone : ∀ a ∈ zs, a.cells = [a]) (_ht : P.underlying t = some (.array zs.length e)) (hc : P.cellsOf t = zs.length)
    (hcell : ∀ i, W.cell? ⟨g, i, none⟩ = cs[i]?) (hw : ∃ t fz, W.heap[g]? = some (.cells cs t fz)) (hsz : cs.toList.length = P.cellsOf t)
    (each : ∀ (i : Nat) a, zs[i]? = some a → ∃ v, cs[i]? = some v ∧ v.oneCell' = true ∧ Rd W (oldF W) noNames a v) : Rd W (oldF W) noNames (.eptr (.agg zs) 0) (.pointer (some ⟨g, 0, none⟩)) ∧ WholeV W g (.agg zs) := by
  have hg : g < W.heap.size := by
    obtain ⟨_, _, h⟩ := hw
    exact (Array.getElem?_eq_some_iff.1 h).1
  refine ⟨?_, ?_⟩
  · have key := Rd.eptr (w := W) (F := oldF W) noNames (.agg zs) 0 g 0 (fun p => (cs[p]?).getD Go.undef) hg
      (fun p hp => by
        have hp' : p < zs.length := by simpa [AV.cells] using hp
        obtain ⟨v, hv, _⟩ := each p zs[p] (List.getElem?_eq_getElem hp')
        rw [Nat.zero_add, hcell, hv]; rfl)
      (fun p hp => by
        have hp' : p < zs.length := by simpa [AV.cells] using hp
        obtain ⟨v, hv, h1, _⟩ := each p zs[p] (List.getElem?_eq_getElem hp')
        rw [hv]; exact h1)
      (fun j c hj => by
        obtain ⟨v, hv, _, h2⟩ := each j c (by simpa [AV.cells] using hj)
        rw [hv]; exact h2)
    simpa using key
  · obtain ⟨t', fz, h⟩ := hw
    exact ⟨cs, t', fz, h, by simpa [AV.cells, hc] using hsz⟩
theorem strs_laid {H : Type} {enc : TypeId × Value → H} {P : Program} {W : World} {t e g : Nat} {sp : Nat → Bool} {held : Bool} {l : List (List UInt8)} {cs : Array Value} {fuel : Nat} {p : List MemPlace} (hl : 0 < l.length)
    (ht : P.underlying t = some (.array l.length e)) (he : P.underlying e = some .string) (hc : P.cellsOf e = 1) (hct : P.cellsOf t = l.length) (hcell : ∀ i, W.cell? ⟨g, i, none⟩ = cs[i]?) (hw : ∃ t fz, W.heap[g]? = some (.cells cs t fz))
    (hd : DataW.trod enc P W 0 sp held fuel t cs.toList = some (.agg (l.map fun s => .lit (.string s)), p)) : Rd W (oldF W) noNames (.eptr (.agg (l.map AV.str)) 0) (.pointer (some ⟨g, 0, none⟩)) ∧ WholeV W g (.agg (l.map AV.str)) := by
  obtain ⟨xs, m, _, hx, hsz, hn, hel⟩ := DataW.trod_array ht hd
  simp only [Prod.mk.injEq, DataW.agg.injEq] at hx
  have each : ∀ (i : Nat) (s : List UInt8), l[i]? = some s → cs[i]? = some (Value.string ⟨s.toArray⟩) := fun i s hs => by
    have hi := (List.getElem?_eq_some_iff.1 hs).1
    have h1 := hel i hi
    rw [hc, Nat.mul_one, List.getElem?_eq_getElem (by omega)] at h1
    obtain ⟨b, e1, e2, _⟩ := DataW.trod_string he h1
    have h2 : (l.map fun s => (DataW.lit (Lit.string s) : DataW H))[i]? = (xs.map (·.1))[i]? := by rw [hx.1]
    rw [List.getElem?_map, List.getElem?_map, hs, List.getElem?_eq_getElem (by omega), e2] at h2
    simp only [Option.map_some, Option.some.injEq, DataW.lit.injEq, Lit.string.injEq] at h2
    have h3 : (cs.toList.drop i)[0]? = some (.string b) := by
      have := congrArg (·[0]?) e1
      simpa [List.getElem?_take] using this
    rw [List.getElem?_drop, Nat.add_zero, Array.getElem?_toList] at h3
    rw [h3, h2]
  refine arr_laid (by simpa using hl) (fun a ha => ?_) (by simpa using ht) (by simpa using hct) hcell hw hsz fun i a ha => ?_
  · obtain ⟨s, _, rfl⟩ := List.mem_map.1 ha
    rfl
  · rw [List.getElem?_map] at ha
    obtain ⟨s, hs, rfl⟩ := Option.map_eq_some_iff.1 ha
    exact ⟨_, each i s hs, rfl, Rd.str _ _⟩
theorem var_heap {P : Program} {w : World} {n : String} {g : Nat} {cs : Array Value} (hg : P.globalNamed n = some g) (h : w.var? P n = some cs) : ∃ t fz, w.heap[g]? = some (.cells cs t fz) := by
  simp only [World.var?, hg, Option.bind_some] at h
  split at h
  · rename_i c t fz hh
    cases h
    exact ⟨t, fz, hh⟩
  · cases h
theorem laidVars_at {P : Program} {W : World} : ∀ {l : List (String × DataW Unit)} {ps : List MemPlace} (i : Nat) {n : String} {d : DataW Unit}, DataW.LaidVars P W l ps → l[i]? = some (n, d) →
    ∃ (g t : Nat) (cs : Array Value) (fuel : Nat) (p : List MemPlace), P.globalNamed n = some g ∧ (P.globals[g]?).map (·.type) = some t ∧ (∀ i, W.cell? ⟨g, i, none⟩ = cs[i]?) ∧ (∃ t fz, W.heap[g]? = some (.cells cs t fz)) ∧ DataW.trod (fun _ => ()) P W 0 (fun _ => true) false fuel t cs.toList = some (d, p)
  | [], _, i, _, _, _, h => by simp at h
  | (m, e) :: r, ps, 0, n, d, h, hi => by
    simp only [List.getElem?_cons_zero, Option.some.injEq, Prod.mk.injEq] at hi
    obtain ⟨rfl, rfl⟩ := hi
    obtain ⟨g, t, cs, fuel, p, q, hg, ht, hv, hd, _⟩ := h
    exact ⟨g, t, cs, fuel, p, hg, ht, fun i => World.var?_cell hg hv i, var_heap hg hv, hd⟩
  | (m, e) :: r, ps, i + 1, n, d, h, hi => by
    obtain ⟨_, _, _, _, _, q, _, _, _, _, h, _⟩ := h
    exact laidVars_at i h (by simpa using hi)
theorem laid_at {P : Program} {W : World} {l : List (String × DataW Unit)} (i : Nat) {n : String} {d : DataW Unit} (h : laidMet P l W) (hi : l[i]? = some (n, d)) :
    ∃ (g t : Nat) (cs : Array Value) (fuel : Nat) (p : List MemPlace), P.globalNamed n = some g ∧ (P.globals[g]?).map (·.type) = some t ∧ (∀ i, W.cell? ⟨g, i, none⟩ = cs[i]?) ∧ (∃ t fz, W.heap[g]? = some (.cells cs t fz)) ∧ DataW.trod (fun _ => ()) P W 0 (fun _ => true) false fuel t cs.toList = some (d, p) := by
  obtain ⟨ps, h, _⟩ := h
  exact laidVars_at i h hi
/-- A law's contract, in the row's words, where variables are known. -/
theorem PureC.calls_trueG {P : Program} {G : Nat → Option AV} {f : Nat} {args : List AV} (h : PureC P G f args (.bool true)) {w : World} {F : Nat → Prop} {vs : Array Value} (hg : Good w F G) (ha : ArgsR w F args vs) :
    Calls P f vs w fun e w' => e = .returned (.bool true) ∧ Below w.heap.size w w' := by
  refine (h w F vs hg ha).mono ?_
  rintro e w' ⟨v, F', rfl, _, _, _, hr, hb⟩
  cases hr
  exact ⟨rfl, hb⟩
end Go.Proofs.YtgdlgdchdohdoaaGreatDoor.Ab
