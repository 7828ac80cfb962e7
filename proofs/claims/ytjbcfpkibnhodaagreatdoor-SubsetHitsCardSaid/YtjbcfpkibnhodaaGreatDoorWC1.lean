/-
  Variables that are laid, as the reading of known variables has them. How an automaton is read. How the law's arguments are read. config, proctorref18: the order of configurations, and whether they are the same. No claim is proved here.
-/
import Derived.Test.YtjbcfpkibnhodaaGreatDoorWAbTrod
import Derived.LaidMore
namespace Go.Proofs.YtjbcfpkibnhodaaGreatDoor.Ab
open Go Go.RowKit Go.ChangeShapes Go.WideShapes
theorem arr_laid {P : Program} {W : World} {t e g : Nat} {zs : List AV} {cs : Array Value} (_h0 : 0 < zs.length) (_hone : ∀ a ∈ zs, a.cells = [a]) (_ht : P.underlying t = some (.array zs.length e)) (hc : P.cellsOf t = zs.length)
    (hcell : ∀ i, W.cell? ⟨g, i, none⟩ = cs[i]?) (hw : ∃ t fz, W.heap[g]? = some (.cells cs t fz)) (hsz : cs.toList.length = P.cellsOf t)
    (each : ∀ (i : Nat) a, zs[i]? = some a → ∃ v, cs[i]? = some v ∧ v.oneCell' = true ∧ Rd W (oldF W) n10 a v) : Rd W (oldF W) n10 (.eptr (.agg zs) 0) (.pointer (some ⟨g, 0, none⟩)) ∧ WholeV W g (.agg zs) := by
  have hg : g < W.heap.size := by
    obtain ⟨_, _, h⟩ := hw
    exact (Array.getElem?_eq_some_iff.1 h).1
  refine ⟨?_, ?_⟩
  · have key := Rd.eptr (w := W) (F := oldF W) n10 (.agg zs) 0 g 0 (fun p => (cs[p]?).getD Go.undef) hg
      (fun p hp => by
        have hp' : p < zs.length := by simpa [AV.cells] using hp
        obtain ⟨v, hv, _⟩ := each p zs[p] (List.getElem?_eq_getElem hp')
        rw [Nat.zero_add, hcell, hv]; rfl)
      (fun p hp => by
        have hp' : p < zs.length := by simpa [AV.cells] using hp
        obtain ⟨v, hv, h1, _⟩ := each p zs[p] (List.getElem?_eq_getElem hp')
        rw [hv]; exact h1)
      (fun j c hj => by
        obtain ⟨v, hv, _, h2⟩ := each j c (by simpa [AV.cells] using hj)
        rw [hv]; exact h2)
    simpa using key
  · obtain ⟨t', fz, h⟩ := hw
    exact ⟨cs, t', fz, h, by simpa [AV.cells, hc] using hsz⟩
theorem strs_laid {H : Type} {enc : TypeId × Value → H} {P : Program} {W : World} {t e g : Nat} {sp : Nat → Bool} {held : Bool} {l : List (List UInt8)} {cs : Array Value} {fuel : Nat} {p : List MemPlace} (hl : 0 < l.length)
    (ht : P.underlying t = some (.array l.length e)) (he : P.underlying e = some .string) (hc : P.cellsOf e = 1) (hct : P.cellsOf t = l.length) (hcell : ∀ i, W.cell? ⟨g, i, none⟩ = cs[i]?) (hw : ∃ t fz, W.heap[g]? = some (.cells cs t fz))
    (hd : DataW.trod enc P W 0 sp held fuel t cs.toList = some (.agg (l.map fun s => .lit (.string s)), p)) : Rd W (oldF W) n10 (.eptr (.agg (l.map AV.str)) 0) (.pointer (some ⟨g, 0, none⟩)) ∧ WholeV W g (.agg (l.map AV.str)) := by
  obtain ⟨xs, m, _, hx, hsz, hn, hel⟩ := DataW.trod_array ht hd
  simp only [Prod.mk.injEq, DataW.agg.injEq] at hx
  have each : ∀ (i : Nat) (s : List UInt8), l[i]? = some s → cs[i]? = some (Value.string ⟨s.toArray⟩) := fun i s hs => by
    have hi := (List.getElem?_eq_some_iff.1 hs).1
    have h1 := hel i hi
    rw [hc, Nat.mul_one, List.getElem?_eq_getElem (by omega)] at h1
    obtain ⟨b, e1, e2, _⟩ := DataW.trod_string he h1
    have h2 : (l.map fun s => (DataW.lit (Lit.string s) : DataW H))[i]? = (xs.map (·.1))[i]? := by rw [hx.1]
    rw [List.getElem?_map, List.getElem?_map, hs, List.getElem?_eq_getElem (by omega), e2] at h2
    simp only [Option.map_some, Option.some.injEq, DataW.lit.injEq, Lit.string.injEq] at h2
    have h3 : (cs.toList.drop i)[0]? = some (.string b) := by
      have := congrArg (·[0]?) e1
      simpa [List.getElem?_take] using this
    rw [List.getElem?_drop, Nat.add_zero, Array.getElem?_toList] at h3
    rw [h3, h2]
  refine arr_laid (by simpa using hl) (fun a ha => ?_) (by simpa using ht) (by simpa using hct) hcell hw hsz fun i a ha => ?_
  · obtain ⟨s, _, rfl⟩ := List.mem_map.1 ha
    rfl
  · rw [List.getElem?_map] at ha
    obtain ⟨s, hs, rfl⟩ := Option.map_eq_some_iff.1 ha
    exact ⟨_, each i s hs, rfl, Rd.str _ _⟩
theorem var_heap {P : Program} {w : World} {n : String} {g : Nat} {cs : Array Value} (hg : P.globalNamed n = some g) (h : w.var? P n = some cs) : ∃ t fz, w.heap[g]? = some (.cells cs t fz) := by
  simp only [World.var?, hg, Option.bind_some] at h
  split at h
  · rename_i c t fz hh
    cases h
    exact ⟨t, fz, hh⟩
  · cases h
theorem laidVars_at {P : Program} {W : World} : ∀ {l : List (String × DataW Unit)} {ps : List MemPlace} (i : Nat) {n : String} {d : DataW Unit}, DataW.LaidVars P W l ps → l[i]? = some (n, d) →
    ∃ (g t : Nat) (cs : Array Value) (fuel : Nat) (p : List MemPlace), P.globalNamed n = some g ∧ (P.globals[g]?).map (·.type) = some t ∧ (∀ i, W.cell? ⟨g, i, none⟩ = cs[i]?) ∧ (∃ t fz, W.heap[g]? = some (.cells cs t fz)) ∧ DataW.trod (fun _ => ()) P W 0 (fun _ => true) false fuel t cs.toList = some (d, p)
  | [], _, i, _, _, _, h => by simp at h
  | (m, e) :: r, ps, 0, n, d, h, hi => by
    simp only [List.getElem?_cons_zero, Option.some.injEq, Prod.mk.injEq] at hi
    obtain ⟨rfl, rfl⟩ := hi
    obtain ⟨g, t, cs, fuel, p, q, hg, ht, hv, hd, _⟩ := h
    exact ⟨g, t, cs, fuel, p, hg, ht, fun i => World.var?_cell hg hv i, var_heap hg hv, hd⟩
  | (m, e) :: r, ps, i + 1, n, d, h, hi => by
    obtain ⟨_, _, _, _, _, q, _, _, _, _, h, _⟩ := h
    exact laidVars_at i h (by simpa using hi)
theorem laid_at {P : Program} {W : World} {l : List (String × DataW Unit)} (i : Nat) {n : String} {d : DataW Unit} (h : laidMet P l W) (hi : l[i]? = some (n, d)) :
    ∃ (g t : Nat) (cs : Array Value) (fuel : Nat) (p : List MemPlace), P.globalNamed n = some g ∧ (P.globals[g]?).map (·.type) = some t ∧ (∀ i, W.cell? ⟨g, i, none⟩ = cs[i]?) ∧ (∃ t fz, W.heap[g]? = some (.cells cs t fz)) ∧ DataW.trod (fun _ => ()) P W 0 (fun _ => true) false fuel t cs.toList = some (d, p) := by
  obtain ⟨ps, h, _⟩ := h
  exact laidVars_at i h hi
theorem P_.calls_trueG {P : Program} {G : Nat → Option AV} {f : Nat} {args : List AV} (h : P_ P G f args (.bool true)) {w : World} {F : Nat → Prop} {vs : Array Value} (hg : Good w F G) (ha : ArgsR w F args vs) :
    Calls P f vs w fun e w' => e = .returned (.bool true) ∧ Below w.heap.size w w' := by
  refine (h w F vs hg ha).mono ?_
  rintro e w' ⟨v, F', rfl, _, _, _, hr, hb⟩
  cases hr
  exact ⟨rfl, hb⟩
end Go.Proofs.YtjbcfpkibnhodaaGreatDoor.Ab
namespace Go.Proofs.YtjbcfpkibnhodaaGreatDoor.Ab
open Go Go.ChangeShapes Go.WideShapes Go.RowKit
set_option maxRecDepth 100000
theorem rInt {t : Nat} (ht : Tryz.prog.underlying t = some (.int .i64)) (hs : Tryz.prog.cellsOf t = 1) : RdT Tryz.prog t 1 fun cs => ∃ n : Int, cs = [iv n] :=
  (rd_int ht hs).mono (by rintro _ ⟨n, rfl, _⟩; exact ⟨n, rfl⟩)
theorem rStr {t : Nat} (ht : Tryz.prog.underlying t = some .string) (hs : Tryz.prog.cellsOf t = 1) : RdT Tryz.prog t 1 fun cs => ∃ s : Str, cs = [.str s] :=
  (rd_str ht hs).mono (by rintro _ ⟨n, rfl, _⟩; exact ⟨n, rfl⟩)
theorem rd_list {α : Type} {f : α → AV} {t e sz : Nat} (ht : Tryz.prog.underlying t = some (.slice e)) (hs : Tryz.prog.cellsOf t = 1) (h : RdT Tryz.prog e sz fun cs => ∃ a : α, .agg cs = f a) (h0 : 0 < sz) :
    RdT Tryz.prog t 1 fun cs => ∃ l : List α, cs = [.seq sz (l.map f)] ∧ l.length ≤ maxLen :=
  (rd_slice true ht hs h h0 (by intro h; cases h)).mono (by
    rintro _ ⟨es, rfl, hl, h⟩
    obtain ⟨l, rfl⟩ := list_of (f := f) (fun x hx => by obtain ⟨_, ⟨o, e⟩, rfl⟩ := h x hx; exact ⟨o, e⟩)
    exact ⟨l, rfl, by simpa using hl⟩)
theorem rInts {t e : Nat} (ht : Tryz.prog.underlying t = some (.slice e)) (hs : Tryz.prog.cellsOf t = 1) (he : Tryz.prog.underlying e = some (.int .i64)) (hse : Tryz.prog.cellsOf e = 1) : RdT Tryz.prog t 1 fun cs => ∃ l : List Int, cs = [intsV l] ∧ l.length ≤ maxLen :=
  (rd_slice (e := e) false ht hs (rInt he hse) (by decide) (by rintro - _ ⟨n, rfl⟩; exact ⟨_, rfl, rfl⟩)).mono (by
    rintro _ ⟨es, rfl, hl, h⟩
    obtain ⟨l, rfl⟩ := list_of (f := iv) (fun x hx => by obtain ⟨_, ⟨n, rfl⟩, rfl⟩ := h x hx; exact ⟨n, rfl⟩)
    exact ⟨l, rfl, by simpa using hl⟩)
theorem rVal : RdT Tryz.prog 95 4 fun cs => ∃ v : Val, cs = [iv v.kind, iv v.int, .str v.str, .bool v.bool] :=
  (rd_struct (t := 95) (fs := (Tryz.prog.fieldsOf 95)) (by kernel_rfl) (by kernel_rfl) (rc_ (f := (Tryz.prog.fieldsOf 95)[0]!) (rInt (by kernel_rfl) (by kernel_rfl)) (by kernel_rfl) rfl (rc_ (f := (Tryz.prog.fieldsOf 95)[1]!) (rInt (by kernel_rfl) (by kernel_rfl)) (by kernel_rfl) rfl (rc_ (f := (Tryz.prog.fieldsOf 95)[2]!) (rStr (by kernel_rfl) (by kernel_rfl)) (by kernel_rfl) rfl (rc_ (f := (Tryz.prog.fieldsOf 95)[3]!) (rd_bool (by kernel_rfl) (by kernel_rfl)) (by kernel_rfl) rfl (rdf_nil _)))))).mono (by
    rintro _ ⟨_, _, rfl, ⟨a, rfl⟩, _, _, rfl, ⟨b, rfl⟩, _, _, rfl, ⟨c, rfl⟩, _, _, rfl, ⟨d, rfl⟩, rfl⟩
    exact ⟨⟨a, b, c, d⟩, rfl⟩)
theorem rArg : RdT Tryz.prog 127 6 fun cs => ∃ a : ArgT, .agg cs = argV a :=
  (rd_struct (t := 127) (fs := (Tryz.prog.fieldsOf 127)) (by kernel_rfl) (by kernel_rfl) (rc_ (f := (Tryz.prog.fieldsOf 127)[0]!) (rInt (by kernel_rfl) (by kernel_rfl)) (by kernel_rfl) rfl (rc_ (f := (Tryz.prog.fieldsOf 127)[1]!) (rInt (by kernel_rfl) (by kernel_rfl)) (by kernel_rfl) rfl (rc_ (f := (Tryz.prog.fieldsOf 127)[2]!) rVal (by kernel_rfl) rfl (rdf_nil _))))).mono (by
    rintro _ ⟨_, _, rfl, ⟨a, rfl⟩, _, _, rfl, ⟨b, rfl⟩, _, _, rfl, ⟨v, rfl⟩, rfl⟩
    exact ⟨⟨a, b, v⟩, rfl⟩)
theorem rSym : RdT Tryz.prog 125 2 fun cs => ∃ a : SymT, .agg cs = symV a :=
  (rd_struct (t := 125) (fs := (Tryz.prog.fieldsOf 125)) (by kernel_rfl) (by kernel_rfl) (rc_ (f := (Tryz.prog.fieldsOf 125)[0]!) (rInt (by kernel_rfl) (by kernel_rfl)) (by kernel_rfl) rfl (rc_ (f := (Tryz.prog.fieldsOf 125)[1]!) (rd_list (t := 123) (by kernel_rfl) (by kernel_rfl) rArg (by decide)) (by kernel_rfl) rfl (rdf_nil _)))).mono (by
    rintro _ ⟨_, _, rfl, ⟨a, rfl⟩, _, _, rfl, ⟨l, rfl, _⟩, rfl⟩
    exact ⟨⟨a, l⟩, rfl⟩)
theorem rQuant : RdT Tryz.prog 99 3 fun cs => ∃ a : QuantT, .agg cs = quantV a :=
  (rd_struct (t := 99) (fs := (Tryz.prog.fieldsOf 99)) (by kernel_rfl) (by kernel_rfl) (rc_ (f := (Tryz.prog.fieldsOf 99)[0]!) (rd_bool (by kernel_rfl) (by kernel_rfl)) (by kernel_rfl) rfl (rc_ (f := (Tryz.prog.fieldsOf 99)[1]!) (rStr (by kernel_rfl) (by kernel_rfl)) (by kernel_rfl) rfl (rc_ (f := (Tryz.prog.fieldsOf 99)[2]!) (rInt (by kernel_rfl) (by kernel_rfl)) (by kernel_rfl) rfl (rdf_nil _))))).mono (by
    rintro _ ⟨_, _, rfl, ⟨a, rfl⟩, _, _, rfl, ⟨b, rfl⟩, _, _, rfl, ⟨c, rfl⟩, rfl⟩
    exact ⟨⟨a, b, c⟩, rfl⟩)
theorem rFree : RdT Tryz.prog 104 5 fun cs => ∃ a : FreeT, .agg cs = freeV a :=
  (rd_struct (t := 104) (fs := (Tryz.prog.fieldsOf 104)) (by kernel_rfl) (by kernel_rfl) (rc_ (f := (Tryz.prog.fieldsOf 104)[0]!) (rStr (by kernel_rfl) (by kernel_rfl)) (by kernel_rfl) rfl (rc_ (f := (Tryz.prog.fieldsOf 104)[1]!) rVal (by kernel_rfl) rfl (rdf_nil _)))).mono (by
    rintro _ ⟨_, _, rfl, ⟨a, rfl⟩, _, _, rfl, ⟨v, rfl⟩, rfl⟩
    exact ⟨⟨a, v⟩, rfl⟩)
theorem rState : RdT Tryz.prog 106 3 fun cs => ∃ a : StateT, .agg cs = stateV a :=
  (rd_struct (t := 106) (fs := (Tryz.prog.fieldsOf 106)) (by kernel_rfl) (by kernel_rfl) (rc_ (f := (Tryz.prog.fieldsOf 106)[0]!) (rStr (by kernel_rfl) (by kernel_rfl)) (by kernel_rfl) rfl (rc_ (f := (Tryz.prog.fieldsOf 106)[1]!) (rd_bool (by kernel_rfl) (by kernel_rfl)) (by kernel_rfl) rfl (rc_ (f := (Tryz.prog.fieldsOf 106)[2]!) (rd_bool (by kernel_rfl) (by kernel_rfl)) (by kernel_rfl) rfl (rdf_nil _))))).mono (by
    rintro _ ⟨_, _, rfl, ⟨a, rfl⟩, _, _, rfl, ⟨b, rfl⟩, _, _, rfl, ⟨c, rfl⟩, rfl⟩
    exact ⟨⟨a, b, c⟩, rfl⟩)
theorem rSet : RdT Tryz.prog 195 2 fun cs => ∃ a : SetT, .agg cs = setV a :=
  (rd_struct (t := 195) (fs := (Tryz.prog.fieldsOf 195)) (by kernel_rfl) (by kernel_rfl) (rc_ (f := (Tryz.prog.fieldsOf 195)[0]!) (rInt (by kernel_rfl) (by kernel_rfl)) (by kernel_rfl) rfl (rc_ (f := (Tryz.prog.fieldsOf 195)[1]!) (rInt (by kernel_rfl) (by kernel_rfl)) (by kernel_rfl) rfl (rdf_nil _)))).mono (by
    rintro _ ⟨_, _, rfl, ⟨a, rfl⟩, _, _, rfl, ⟨b, rfl⟩, rfl⟩
    exact ⟨⟨a, b⟩, rfl⟩)
theorem rTrans : RdT Tryz.prog 132 5 fun cs => ∃ a : TransT, .agg cs = t11 a :=
  (rd_struct (t := 132) (fs := (Tryz.prog.fieldsOf 132)) (by kernel_rfl) (by kernel_rfl) (rc_ (f := (Tryz.prog.fieldsOf 132)[0]!) (rInt (by kernel_rfl) (by kernel_rfl)) (by kernel_rfl) rfl (rc_ (f := (Tryz.prog.fieldsOf 132)[1]!) (rInt (by kernel_rfl) (by kernel_rfl)) (by kernel_rfl) rfl (rc_ (f := (Tryz.prog.fieldsOf 132)[2]!) (rInt (by kernel_rfl) (by kernel_rfl)) (by kernel_rfl) rfl (rc_ (f := (Tryz.prog.fieldsOf 132)[3]!) (rInt (by kernel_rfl) (by kernel_rfl)) (by kernel_rfl) rfl (rc_ (f := (Tryz.prog.fieldsOf 132)[4]!) (rd_list (t := 130) (by kernel_rfl) (by kernel_rfl) rSet (by decide)) (by kernel_rfl) rfl (rdf_nil _))))))).mono (by
    rintro _ ⟨_, _, rfl, ⟨a, rfl⟩, _, _, rfl, ⟨b, rfl⟩, _, _, rfl, ⟨c, rfl⟩, _, _, rfl, ⟨d, rfl⟩, _, _, rfl, ⟨l, rfl, _⟩, rfl⟩
    exact ⟨⟨a, b, c, d, l⟩, rfl⟩)
theorem rDecl : RdT Tryz.prog 122 2 fun cs => ∃ a : DeclT, .agg cs = declV a :=
  (rd_struct (t := 122) (fs := (Tryz.prog.fieldsOf 122)) (by kernel_rfl) (by kernel_rfl) (rc_ (f := (Tryz.prog.fieldsOf 122)[0]!) (rStr (by kernel_rfl) (by kernel_rfl)) (by kernel_rfl) rfl (rc_ (f := (Tryz.prog.fieldsOf 122)[1]!) (rInts (t := 120) (e := 3) (by kernel_rfl) (by kernel_rfl) (by kernel_rfl) (by kernel_rfl)) (by kernel_rfl) rfl (rdf_nil _)))).mono (by
    rintro _ ⟨_, _, rfl, ⟨a, rfl⟩, _, _, rfl, ⟨l, rfl, _⟩, rfl⟩
    exact ⟨⟨a, l⟩, rfl⟩)
end Go.Proofs.YtjbcfpkibnhodaaGreatDoor.Ab
namespace Go.Proofs.YtjbcfpkibnhodaaGreatDoor.Ab
open Go Go.ChangeShapes Go.WideShapes Go.RowKit
set_option linter.unusedSimpArgs false
set_option maxRecDepth 100000
theorem i64_wf {n : Int} (h : (Lit.int .i64 n).wf = true) : i64 n := by
  simp [Lit.wf, IntKind.min, IntKind.max, IntKind.signed, IntKind.bits] at h
  exact ⟨h.1, by omega⟩
theorem rd_listQ {α : Type} {f : α → AV} {Q : α → Prop} {t e sz : Nat} (ht : Tryz.prog.underlying t = some (.slice e)) (hs : Tryz.prog.cellsOf t = 1) (h : RdT Tryz.prog e sz fun cs => ∃ a : α, .agg cs = f a ∧ Q a) (h0 : 0 < sz) :
    RdT Tryz.prog t 1 fun cs => ∃ l : List α, cs = [.seq sz (l.map f)] ∧ l.length ≤ maxLen ∧ ∀ a ∈ l, Q a :=
  (rd_slice true ht hs h h0 (by intro h; cases h)).mono (by
    rintro _ ⟨es, rfl, hl, h⟩
    obtain ⟨l, rfl, hq⟩ := list_of' (f := f) (Q := Q) (fun x hx => by obtain ⟨_, ⟨o, e, q⟩, rfl⟩ := h x hx; exact ⟨o, e, q⟩)
    exact ⟨l, rfl, by simpa using hl, hq⟩)
theorem rVal64 : RdT Tryz.prog 95 4 fun cs => ∃ v : Val, cs = [iv v.kind, iv v.int, .str v.str, .bool v.bool] ∧ i64 v.int :=
  (rd_struct (t := 95) (fs := (Tryz.prog.fieldsOf 95)) (by kernel_rfl) (by kernel_rfl) (rc_ (f := (Tryz.prog.fieldsOf 95)[0]!) (rInt (by kernel_rfl) (by kernel_rfl)) (by kernel_rfl) rfl (rc_ (f := (Tryz.prog.fieldsOf 95)[1]!) (rd_int (by kernel_rfl) (by kernel_rfl)) (by kernel_rfl) rfl (rc_ (f := (Tryz.prog.fieldsOf 95)[2]!) (rStr (by kernel_rfl) (by kernel_rfl)) (by kernel_rfl) rfl (rc_ (f := (Tryz.prog.fieldsOf 95)[3]!) (rd_bool (by kernel_rfl) (by kernel_rfl)) (by kernel_rfl) rfl (rdf_nil _)))))).mono (by
    rintro _ ⟨_, _, rfl, ⟨a, rfl⟩, _, _, rfl, ⟨b, rfl, hb⟩, _, _, rfl, ⟨c, rfl⟩, _, _, rfl, ⟨d, rfl⟩, rfl⟩
    exact ⟨⟨a, b, c, d⟩, rfl, i64_wf hb⟩)
theorem rValA : RdT Tryz.prog 95 4 fun cs => ∃ v : Val, .agg cs = valV v ∧ i64 v.int := rVal64.mono (by
  rintro _ ⟨v, rfl, hv⟩
  exact ⟨v, rfl, hv⟩)
theorem rNode64 : RdT Tryz.prog 129 7 fun cs => ∃ a : NodeT, .agg cs = nodeV a ∧ i64 a.value.int :=
  (rd_struct (t := 129) (fs := (Tryz.prog.fieldsOf 129)) (by kernel_rfl) (by kernel_rfl) (rc_ (f := (Tryz.prog.fieldsOf 129)[0]!) (rInt (by kernel_rfl) (by kernel_rfl)) (by kernel_rfl) rfl (rc_ (f := (Tryz.prog.fieldsOf 129)[1]!) (rInt (by kernel_rfl) (by kernel_rfl)) (by kernel_rfl) rfl (rc_ (f := (Tryz.prog.fieldsOf 129)[2]!) (rInt (by kernel_rfl) (by kernel_rfl)) (by kernel_rfl) rfl (rc_ (f := (Tryz.prog.fieldsOf 129)[3]!) rVal64 (by kernel_rfl) rfl (rdf_nil _)))))).mono (by
    rintro _ ⟨_, _, rfl, ⟨a, rfl⟩, _, _, rfl, ⟨b, rfl⟩, _, _, rfl, ⟨c, rfl⟩, _, _, rfl, ⟨v, rfl, hv⟩, rfl⟩
    exact ⟨⟨a, b, c, v⟩, rfl, hv⟩)
theorem rSlot64 : RdT Tryz.prog 97 5 fun cs => ∃ a : SlotT, .agg cs = slotV a ∧ i64 a.value.int :=
  (rd_struct (t := 97) (fs := (Tryz.prog.fieldsOf 97)) (by kernel_rfl) (by kernel_rfl) (rc_ (f := (Tryz.prog.fieldsOf 97)[0]!) (rInt (by kernel_rfl) (by kernel_rfl)) (by kernel_rfl) rfl (rc_ (f := (Tryz.prog.fieldsOf 97)[1]!) rVal64 (by kernel_rfl) rfl (rdf_nil _)))).mono (by
    rintro _ ⟨_, _, rfl, ⟨a, rfl⟩, _, _, rfl, ⟨v, rfl, hv⟩, rfl⟩
    exact ⟨⟨a, v⟩, rfl, hv⟩)
theorem rSlots : RdT Tryz.prog 70 1 fun cs => ∃ l : {l : List SlotT // ∀ s ∈ l, i64 s.value.int}, cs = [s11 l.1] :=
  (rd_listQ (by kernel_rfl) (by kernel_rfl) rSlot64 (by decide)).mono (by
    rintro _ ⟨l, rfl, _, h⟩
    exact ⟨⟨l, h⟩, rfl⟩)
theorem rVals : RdT Tryz.prog 41 1 fun cs => ∃ l : {l : List Val // ∀ v ∈ l, i64 v.int}, cs = [valsV l.1] :=
  (rd_listQ (by kernel_rfl) (by kernel_rfl) rValA (by decide)).mono (by
    rintro _ ⟨l, rfl, _, h⟩
    exact ⟨⟨l, h⟩, rfl⟩)
theorem rQeaN : RdT Tryz.prog 30 9 fun cs => ∃ q : {q : QeaT // Q64 q}, .agg cs = qeaV q.1 :=
  (rd_struct (t := 30) (fs := (Tryz.prog.fieldsOf 30)) (by kernel_rfl) (by kernel_rfl) (rc_ (f := (Tryz.prog.fieldsOf 30)[0]!) (rStr (by kernel_rfl) (by kernel_rfl)) (by kernel_rfl) rfl (rc_ (f := (Tryz.prog.fieldsOf 30)[1]!) (rd_list (t := 22) (by kernel_rfl) (by kernel_rfl) rDecl (by decide)) (by kernel_rfl) rfl (rc_ (f := (Tryz.prog.fieldsOf 30)[2]!) (rd_list (t := 23) (by kernel_rfl) (by kernel_rfl) rQuant (by decide)) (by kernel_rfl) rfl (rc_ (f := (Tryz.prog.fieldsOf 30)[3]!) (rd_list (t := 24) (by kernel_rfl) (by kernel_rfl) rFree (by decide)) (by kernel_rfl) rfl (rc_ (f := (Tryz.prog.fieldsOf 30)[4]!) (rd_list (t := 25) (by kernel_rfl) (by kernel_rfl) rState (by decide)) (by kernel_rfl) rfl (rc_ (f := (Tryz.prog.fieldsOf 30)[5]!) (rInt (by kernel_rfl) (by kernel_rfl)) (by kernel_rfl) rfl (rc_ (f := (Tryz.prog.fieldsOf 30)[6]!) (rd_list (t := 26) (by kernel_rfl) (by kernel_rfl) rSym (by decide)) (by kernel_rfl) rfl (rc_ (f := (Tryz.prog.fieldsOf 30)[7]!) (rd_listQ (t := 27) (by kernel_rfl) (by kernel_rfl) rNode64 (by decide)) (by kernel_rfl) rfl (rc_ (f := (Tryz.prog.fieldsOf 30)[8]!) (rd_list (t := 28) (by kernel_rfl) (by kernel_rfl) rTrans (by decide)) (by kernel_rfl) rfl (rdf_nil _))))))))))).mono (by
    rintro _ ⟨_, _, rfl, ⟨a, rfl⟩, _, _, rfl, ⟨l1, rfl, _⟩, _, _, rfl, ⟨l2, rfl, _⟩, _, _, rfl, ⟨l3, rfl, _⟩, _, _, rfl, ⟨l4, rfl, _⟩, _, _, rfl, ⟨s, rfl⟩, _, _, rfl, ⟨l5, rfl, _⟩, _, _, rfl, ⟨l6, rfl, _, h6⟩, _, _, rfl, ⟨l7, rfl, _⟩, rfl⟩
    exact ⟨⟨⟨a, l1, l2, l3, l4, s, l5, l6, l7⟩, ⟨h6⟩⟩, rfl⟩)
end Go.Proofs.YtjbcfpkibnhodaaGreatDoor.Ab
namespace Go.Proofs.YtjbcfpkibnhodaaGreatDoor.Ab
open Go Go.RowKit
set_option linter.unusedSimpArgs false
set_option maxHeartbeats 4000000
set_option maxRecDepth 100000
variable {G : Nat → Option AV}
structure CfgT where
  state : Int
  vals : List Val
deriving DecidableEq
def cfgV (c : CfgT) : AV := .agg [iv c.state, .seq 4 (c.vals.map valV)]
def cfgsV (l : List CfgT) : AV := .seq 2 (l.map cfgV)
theorem val4 {k n : Int} {s : Str} {t : Bool} {k' n' : Int} {s' : Str} {t' : Bool} {β : Bool} (h : decide ((⟨k, n, s, t⟩ : Val) = ⟨k', n', s', t'⟩) = β) : (k == k' && (n == n' && (s == s' && t == t'))) = β := by
  rw [← h, Bool.eq_iff_iff]
  simp
def lessVs : List Val → List Val → Bool
  | [], [] => false
  | [], _ :: _ => true
  | _ :: _, [] => false
  | x :: l, y :: k => if ¬ x = y then lessV x y else lessVs l k
def cfgLess (a b : CfgT) : Bool := if ¬ a.state = b.state then decide (a.state < b.state) else lessVs a.vals b.vals
def CfgT.St (c : CfgT) : Prop := 0 ≤ c.state ∧ c.state < 1000 ∧ c.vals.length ≤ 1000
theorem lessVs_step {l k : List Val} {i : Nat} {x y : Val} (hx : l[i]? = some x) (hy : k[i]? = some y) : lessVs (l.drop i) (k.drop i) = if ¬ x = y then lessV x y else lessVs (l.drop (i + 1)) (k.drop (i + 1)) := by
  rw [drop_at hx, drop_at hy, lessVs]
theorem lessVs_end {l k : List Val} {i : Nat} (h1 : i ≤ l.length) (h2 : i ≤ k.length) (h : l.length ≤ i ∨ k.length ≤ i) : lessVs (l.drop i) (k.drop i) = decide ((l.length : Int) < k.length) := by
  by_cases hl : l.length ≤ i
  · rw [List.drop_of_length_le hl]
    by_cases hk : k.length ≤ i
    · rw [List.drop_of_length_le hk, lessVs, eq_comm, decide_eq_false_iff_not]; omega
    · obtain ⟨y, hy, _⟩ := as10 (l := k) (i := i) (by omega)
      rw [drop_at hy, lessVs, eq_comm, decide_eq_true_eq]; omega
  · obtain ⟨x, hx, _⟩ := as10 (l := l) (i := i) (by omega)
    rw [drop_at hx, List.drop_of_length_le (l := k) (by omega), lessVs, eq_comm, decide_eq_false_iff_not]; omega
theorem ref18_Less_pc (a b : CfgT) (ha : ∀ v ∈ a.vals, v.str.length < 9223372036854775807) (hl : a.vals.length ≤ 1000) (hk : b.vals.length ≤ 1000) : P_ Tryz.prog G np11 [cfgV a, cfgV b] (.bool (cfgLess a b)) := by
  obtain ⟨s, l⟩ := a
  obtain ⟨t, k⟩ := b
  dsimp only at ha hl hk
  refine pc_proctorref18_Less (Runs.of fun Φ h => ?_)
  unfold c_proctorref18_Less
  unfold cfgLess at h
  dsimp only at h
  by_cases hst : s = t
  · subst hst
    rw [if_neg (by simp)] at h
    repeat' (first | (simp -implicitDefEqProofs only [go_sem, cfgV, bne_self_eq_false]) | refine ag_ (fun hb => ?_) (fun hb => ?_) | refine ⟨fun hb => ?_, fun hb => ?_⟩ | fail)
    refine al_ (fun n st => ∃ i : Nat, i + n = l.length ∧ st = ⟨59, [(2, .ref 2 0 0), (3, .ref 3 0 0), (5, iv i)], [(2, ⟨false, taC_, 2, [.agg [iv s, .seq 4 (l.map valV)]]⟩), (3, ⟨false, taC_, 2, [.agg [iv s, .seq 4 (k.map valV)]]⟩)]⟩ ∧ i ≤ k.length ∧ lessVs (l.drop i) (k.drop i) = lessVs l k) l.length ⟨0, by simp, rfl, by omega, rfl⟩ ?_
    rintro I hI n st ⟨i, hi, rfl, hik, hno⟩
    rw [← hno] at h
    by_cases hlt : i < l.length
    · have e1 : ((i : Int) < l.length) = True := by simp; omega
      by_cases hkt : i < k.length
      · have e2 : ((i : Int) < k.length) = True := by simp; omega
        obtain ⟨x, hx, hxm⟩ := as10 hlt
        obtain ⟨y, hy, _⟩ := as10 hkt
        have hw := ws_ hlt (by omega)
        have hc := ref03_Less_pc (G := G) x y (ha x hxm)
        rw [lessVs_step hx hy] at h hno
        by_cases hxy : x = y
        · rw [if_neg (by simpa using hxy)] at hno
          obtain ⟨x1, x2, x3, x4⟩ := x
          obtain ⟨y1, y2, y3, y4⟩ := y
          have he := val4 (decide_eq_true hxy)
          repeat' (first | (simp -implicitDefEqProofs only [go_sem, List.length_map, am_ hx, am_ hy, valV, hw, e1, e2, decide_true, he]) | refine ag_ (fun hb => ?_) (fun hb => ?_) | refine ⟨fun hb => ?_, fun hb => ?_⟩ | fail)
          exact aa_ (n - 1) (by omega) (hI _ _ ⟨i + 1, by omega, rfl, by omega, hno⟩)
        · rw [if_pos hxy] at h
          generalize lessV x y = z at *
          obtain ⟨x1, x2, x3, x4⟩ := x
          obtain ⟨y1, y2, y3, y4⟩ := y
          have he := val4 (decide_eq_false hxy)
          simp only [valV] at hc
          repeat' (first | (simp -implicitDefEqProofs only [go_sem, List.length_map, am_ hx, am_ hy, valV, hw, e1, e2, decide_true, he]) | refine ag_ (fun hb => ?_) (fun hb => ?_) | refine ⟨fun hb => ?_, fun hb => ?_⟩ | refine ac_ (hc) rfl rfl ?_ | fail)
          exact h _ ⟨_, _, rfl, rfl, .refl _⟩
      · have e2 : ((i : Int) < k.length) = False := by simp; omega
        rw [lessVs_end (by omega) hik (by omega)] at h
        repeat' (first | (simp -implicitDefEqProofs only [go_sem, List.length_map, e1, e2, decide_true, decide_false]) | refine ag_ (fun hb => ?_) (fun hb => ?_) | refine ⟨fun hb => ?_, fun hb => ?_⟩ | fail)
        exact h _ ⟨_, _, rfl, rfl, .refl _⟩
    · have e1 : ((i : Int) < l.length) = False := by simp; omega
      rw [lessVs_end (by omega) hik (by omega)] at h
      repeat' (first | (simp -implicitDefEqProofs only [go_sem, List.length_map, e1, decide_false]) | refine ag_ (fun hb => ?_) (fun hb => ?_) | refine ⟨fun hb => ?_, fun hb => ?_⟩ | fail)
      exact h _ ⟨_, _, rfl, rfl, .refl _⟩
  · rw [if_pos hst] at h
    have e1 : (s != t) = true := by simpa using hst
    repeat' (first | (simp -implicitDefEqProofs only [go_sem, cfgV, e1]) | refine ag_ (fun hb => ?_) (fun hb => ?_) | refine ⟨fun hb => ?_, fun hb => ?_⟩ | fail)
    exact h _ ⟨_, _, rfl, rfl, .refl _⟩
def cfgOne (a b : CfgT) : Bool := !cfgLess a b && !cfgLess b a
theorem ref18_One_pc (a b : CfgT) (ha : ∀ v ∈ a.vals, v.str.length < 9223372036854775807) (hb : ∀ v ∈ b.vals, v.str.length < 9223372036854775807) (hl : a.vals.length ≤ 1000) (hk : b.vals.length ≤ 1000) : P_ Tryz.prog G n_proctorref18_One [cfgV a, cfgV b] (.bool (cfgOne a b)) := by
  have h1 := ref18_Less_pc (G := G) a b ha hl hk
  have h2 := ref18_Less_pc (G := G) b a hb hk hl
  refine pc_proctorref18_One (Runs.of fun Φ h => ?_)
  unfold c_proctorref18_One
  unfold cfgOne at h
  generalize cfgLess a b = y at *
  generalize cfgLess b a = z at *
  obtain ⟨s, l⟩ := a
  obtain ⟨t, k⟩ := b
  simp only [cfgV] at h1 h2
  cases y
  · rw [Bool.not_false, Bool.true_and] at h
    repeat' (first | (simp -implicitDefEqProofs only [go_sem, cfgV]) | refine ag_ (fun hb => ?_) (fun hb => ?_) | refine ⟨fun hb => ?_, fun hb => ?_⟩ | refine ac_ (h1) rfl rfl ?_ | refine ac_ (h2) rfl rfl ?_ | fail)
    exact h _ ⟨_, _, rfl, rfl, .refl _⟩
  · rw [Bool.not_true, Bool.false_and] at h
    repeat' (first | (simp -implicitDefEqProofs only [go_sem, cfgV]) | refine ag_ (fun hb => ?_) (fun hb => ?_) | refine ⟨fun hb => ?_, fun hb => ?_⟩ | refine ac_ (h1) rfl rfl ?_ | refine ac_ (h2) rfl rfl ?_ | fail)
    exact h _ ⟨_, _, rfl, rfl, .refl _⟩
end Go.Proofs.YtjbcfpkibnhodaaGreatDoor.Ab
