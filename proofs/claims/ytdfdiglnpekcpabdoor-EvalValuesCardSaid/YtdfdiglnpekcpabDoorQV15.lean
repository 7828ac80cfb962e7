/-
  Variables that are laid, as the reading of known variables has them. How an automaton is read. How the law's arguments are read. Of an automaton that may be all nodes' expressions may be. No claim is proved here.
-/
import Derived.Test.YtdfdiglnpekcpabDoorQAbTrod
import Derived.FnData
import Derived.Test.YtdfdiglnpekcpabDoorQN0
import Derived.Test.YtdfdiglnpekcpabDoorQD5
import Derived.Test.YtdfdiglnpekcpabDoorQV13
import Derived.LaidMore
import Derived.LaidHandle
import Derived.Test.YtdfdiglnpekcpabDoorQFit2
namespace Go.Proofs.YtdfdiglnpekcpabDoor.Ab
open Go Go.RowKit Go.ChangeShapes Go.WideShapes
/-- A law's contract, in the row's words, where variables are known. -/
theorem PureC.calls_trueG {P : Program} {G : Nat → Option AV} {f : Nat} {args : List AV} (h : PureC P G f args (.bool true)) {w : World} {F : Nat → Prop} {vs : Array Value} (hg : Good w F G) (ha : ArgsR w F args vs) :
    Calls P f vs w fun e w' => e = .returned (.bool true) ∧ Below w.heap.size w w' := by
  refine (h w F vs hg ha).mono ?_
  rintro e w' ⟨v, F', rfl, _, _, _, hr, hb⟩
  cases hr
  exact ⟨rfl, hb⟩
end Go.Proofs.YtdfdiglnpekcpabDoor.Ab
namespace Go.Proofs.YtdfdiglnpekcpabDoor.Ab
open Go Go.ChangeShapes Go.WideShapes Go.RowKit
set_option maxRecDepth 100000
theorem rInt {t : Nat} (ht : Tryd.prog.underlying t = some (.int .i64)) (hs : Tryd.prog.cellsOf t = 1) : RdT Tryd.prog t 1 fun cs => ∃ n : Int, cs = [iv n] :=
  (rd_int ht hs).mono (by rintro _ ⟨n, rfl, _⟩; exact ⟨n, rfl⟩)
theorem rStr {t : Nat} (ht : Tryd.prog.underlying t = some .string) (hs : Tryd.prog.cellsOf t = 1) : RdT Tryd.prog t 1 fun cs => ∃ s : Str, cs = [.str s] :=
  (rd_str ht hs).mono (by rintro _ ⟨n, rfl, _⟩; exact ⟨n, rfl⟩)
theorem rd_list {α : Type} {f : α → AV} {t e sz : Nat} (ht : Tryd.prog.underlying t = some (.slice e)) (hs : Tryd.prog.cellsOf t = 1) (h : RdT Tryd.prog e sz fun cs => ∃ a : α, .agg cs = f a) (h0 : 0 < sz) :
    RdT Tryd.prog t 1 fun cs => ∃ l : List α, cs = [.seq sz (l.map f)] ∧ l.length ≤ maxLen :=
  (rd_slice true ht hs h h0 (by intro h; cases h)).mono (by
    rintro _ ⟨es, rfl, hl, h⟩
    obtain ⟨l, rfl⟩ := list_of (f := f) (fun x hx => by obtain ⟨_, ⟨o, e⟩, rfl⟩ := h x hx; exact ⟨o, e⟩)
    exact ⟨l, rfl, by simpa using hl⟩)
theorem rInts {t e : Nat} (ht : Tryd.prog.underlying t = some (.slice e)) (hs : Tryd.prog.cellsOf t = 1) (he : Tryd.prog.underlying e = some (.int .i64)) (hse : Tryd.prog.cellsOf e = 1) : RdT Tryd.prog t 1 fun cs => ∃ l : List Int, cs = [intsV l] ∧ l.length ≤ maxLen :=
  (rd_slice (e := e) false ht hs (rInt he hse) (by decide) (by rintro - _ ⟨n, rfl⟩; exact ⟨_, rfl, rfl⟩)).mono (by
    rintro _ ⟨es, rfl, hl, h⟩
    obtain ⟨l, rfl⟩ := list_of (f := iv) (fun x hx => by obtain ⟨_, ⟨n, rfl⟩, rfl⟩ := h x hx; exact ⟨n, rfl⟩)
    exact ⟨l, rfl, by simpa using hl⟩)
theorem rVal : RdT Tryd.prog 46 4 fun cs => ∃ v : Val, cs = [iv v.kind, iv v.int, .str v.str, .bool v.bool] :=
  (rd_struct (t := 46) (fs := (Tryd.prog.fieldsOf 46)) (by kernel_rfl) (by kernel_rfl) (rdf_cons (f := (Tryd.prog.fieldsOf 46)[0]!) (rInt (by kernel_rfl) (by kernel_rfl)) (by kernel_rfl) rfl (rdf_cons (f := (Tryd.prog.fieldsOf 46)[1]!) (rInt (by kernel_rfl) (by kernel_rfl)) (by kernel_rfl) rfl (rdf_cons (f := (Tryd.prog.fieldsOf 46)[2]!) (rStr (by kernel_rfl) (by kernel_rfl)) (by kernel_rfl) rfl (rdf_cons (f := (Tryd.prog.fieldsOf 46)[3]!) (rd_bool (by kernel_rfl) (by kernel_rfl)) (by kernel_rfl) rfl (rdf_nil _)))))).mono (by
    rintro _ ⟨_, _, rfl, ⟨a, rfl⟩, _, _, rfl, ⟨b, rfl⟩, _, _, rfl, ⟨c, rfl⟩, _, _, rfl, ⟨d, rfl⟩, rfl⟩
    exact ⟨⟨a, b, c, d⟩, rfl⟩)
theorem rArg : RdT Tryd.prog 108 6 fun cs => ∃ a : ArgT, .agg cs = argV a :=
  (rd_struct (t := 108) (fs := (Tryd.prog.fieldsOf 108)) (by kernel_rfl) (by kernel_rfl) (rdf_cons (f := (Tryd.prog.fieldsOf 108)[0]!) (rInt (by kernel_rfl) (by kernel_rfl)) (by kernel_rfl) rfl (rdf_cons (f := (Tryd.prog.fieldsOf 108)[1]!) (rInt (by kernel_rfl) (by kernel_rfl)) (by kernel_rfl) rfl (rdf_cons (f := (Tryd.prog.fieldsOf 108)[2]!) rVal (by kernel_rfl) rfl (rdf_nil _))))).mono (by
    rintro _ ⟨_, _, rfl, ⟨a, rfl⟩, _, _, rfl, ⟨b, rfl⟩, _, _, rfl, ⟨v, rfl⟩, rfl⟩
    exact ⟨⟨a, b, v⟩, rfl⟩)
theorem rSym : RdT Tryd.prog 84 2 fun cs => ∃ a : SymT, .agg cs = symV a :=
  (rd_struct (t := 84) (fs := (Tryd.prog.fieldsOf 84)) (by kernel_rfl) (by kernel_rfl) (rdf_cons (f := (Tryd.prog.fieldsOf 84)[0]!) (rInt (by kernel_rfl) (by kernel_rfl)) (by kernel_rfl) rfl (rdf_cons (f := (Tryd.prog.fieldsOf 84)[1]!) (rd_list (t := 82) (by kernel_rfl) (by kernel_rfl) rArg (by decide)) (by kernel_rfl) rfl (rdf_nil _)))).mono (by
    rintro _ ⟨_, _, rfl, ⟨a, rfl⟩, _, _, rfl, ⟨l, rfl, _⟩, rfl⟩
    exact ⟨⟨a, l⟩, rfl⟩)
theorem rQuant : RdT Tryd.prog 104 3 fun cs => ∃ a : QuantT, .agg cs = quantV a :=
  (rd_struct (t := 104) (fs := (Tryd.prog.fieldsOf 104)) (by kernel_rfl) (by kernel_rfl) (rdf_cons (f := (Tryd.prog.fieldsOf 104)[0]!) (rd_bool (by kernel_rfl) (by kernel_rfl)) (by kernel_rfl) rfl (rdf_cons (f := (Tryd.prog.fieldsOf 104)[1]!) (rStr (by kernel_rfl) (by kernel_rfl)) (by kernel_rfl) rfl (rdf_cons (f := (Tryd.prog.fieldsOf 104)[2]!) (rInt (by kernel_rfl) (by kernel_rfl)) (by kernel_rfl) rfl (rdf_nil _))))).mono (by
    rintro _ ⟨_, _, rfl, ⟨a, rfl⟩, _, _, rfl, ⟨b, rfl⟩, _, _, rfl, ⟨c, rfl⟩, rfl⟩
    exact ⟨⟨a, b, c⟩, rfl⟩)
theorem rFree : RdT Tryd.prog 62 5 fun cs => ∃ a : FreeT, .agg cs = freeV a :=
  (rd_struct (t := 62) (fs := (Tryd.prog.fieldsOf 62)) (by kernel_rfl) (by kernel_rfl) (rdf_cons (f := (Tryd.prog.fieldsOf 62)[0]!) (rStr (by kernel_rfl) (by kernel_rfl)) (by kernel_rfl) rfl (rdf_cons (f := (Tryd.prog.fieldsOf 62)[1]!) rVal (by kernel_rfl) rfl (rdf_nil _)))).mono (by
    rintro _ ⟨_, _, rfl, ⟨a, rfl⟩, _, _, rfl, ⟨v, rfl⟩, rfl⟩
    exact ⟨⟨a, v⟩, rfl⟩)
theorem rState : RdT Tryd.prog 64 3 fun cs => ∃ a : StateT, .agg cs = stateV a :=
  (rd_struct (t := 64) (fs := (Tryd.prog.fieldsOf 64)) (by kernel_rfl) (by kernel_rfl) (rdf_cons (f := (Tryd.prog.fieldsOf 64)[0]!) (rStr (by kernel_rfl) (by kernel_rfl)) (by kernel_rfl) rfl (rdf_cons (f := (Tryd.prog.fieldsOf 64)[1]!) (rd_bool (by kernel_rfl) (by kernel_rfl)) (by kernel_rfl) rfl (rdf_cons (f := (Tryd.prog.fieldsOf 64)[2]!) (rd_bool (by kernel_rfl) (by kernel_rfl)) (by kernel_rfl) rfl (rdf_nil _))))).mono (by
    rintro _ ⟨_, _, rfl, ⟨a, rfl⟩, _, _, rfl, ⟨b, rfl⟩, _, _, rfl, ⟨c, rfl⟩, rfl⟩
    exact ⟨⟨a, b, c⟩, rfl⟩)
theorem rSet : RdT Tryd.prog 145 2 fun cs => ∃ a : SetT, .agg cs = setV a :=
  (rd_struct (t := 145) (fs := (Tryd.prog.fieldsOf 145)) (by kernel_rfl) (by kernel_rfl) (rdf_cons (f := (Tryd.prog.fieldsOf 145)[0]!) (rInt (by kernel_rfl) (by kernel_rfl)) (by kernel_rfl) rfl (rdf_cons (f := (Tryd.prog.fieldsOf 145)[1]!) (rInt (by kernel_rfl) (by kernel_rfl)) (by kernel_rfl) rfl (rdf_nil _)))).mono (by
    rintro _ ⟨_, _, rfl, ⟨a, rfl⟩, _, _, rfl, ⟨b, rfl⟩, rfl⟩
    exact ⟨⟨a, b⟩, rfl⟩)
theorem rTrans : RdT Tryd.prog 87 5 fun cs => ∃ a : TransT, .agg cs = transV a :=
  (rd_struct (t := 87) (fs := (Tryd.prog.fieldsOf 87)) (by kernel_rfl) (by kernel_rfl) (rdf_cons (f := (Tryd.prog.fieldsOf 87)[0]!) (rInt (by kernel_rfl) (by kernel_rfl)) (by kernel_rfl) rfl (rdf_cons (f := (Tryd.prog.fieldsOf 87)[1]!) (rInt (by kernel_rfl) (by kernel_rfl)) (by kernel_rfl) rfl (rdf_cons (f := (Tryd.prog.fieldsOf 87)[2]!) (rInt (by kernel_rfl) (by kernel_rfl)) (by kernel_rfl) rfl (rdf_cons (f := (Tryd.prog.fieldsOf 87)[3]!) (rInt (by kernel_rfl) (by kernel_rfl)) (by kernel_rfl) rfl (rdf_cons (f := (Tryd.prog.fieldsOf 87)[4]!) (rd_list (t := 85) (by kernel_rfl) (by kernel_rfl) rSet (by decide)) (by kernel_rfl) rfl (rdf_nil _))))))).mono (by
    rintro _ ⟨_, _, rfl, ⟨a, rfl⟩, _, _, rfl, ⟨b, rfl⟩, _, _, rfl, ⟨c, rfl⟩, _, _, rfl, ⟨d, rfl⟩, _, _, rfl, ⟨l, rfl, _⟩, rfl⟩
    exact ⟨⟨a, b, c, d, l⟩, rfl⟩)
theorem rDecl : RdT Tryd.prog 81 2 fun cs => ∃ a : DeclT, .agg cs = declV a :=
  (rd_struct (t := 81) (fs := (Tryd.prog.fieldsOf 81)) (by kernel_rfl) (by kernel_rfl) (rdf_cons (f := (Tryd.prog.fieldsOf 81)[0]!) (rStr (by kernel_rfl) (by kernel_rfl)) (by kernel_rfl) rfl (rdf_cons (f := (Tryd.prog.fieldsOf 81)[1]!) (rInts (t := 79) (e := 3) (by kernel_rfl) (by kernel_rfl) (by kernel_rfl) (by kernel_rfl)) (by kernel_rfl) rfl (rdf_nil _)))).mono (by
    rintro _ ⟨_, _, rfl, ⟨a, rfl⟩, _, _, rfl, ⟨l, rfl, _⟩, rfl⟩
    exact ⟨⟨a, l⟩, rfl⟩)
end Go.Proofs.YtdfdiglnpekcpabDoor.Ab
namespace Go.Proofs.YtdfdiglnpekcpabDoor.Ab
open Go Go.ChangeShapes Go.WideShapes Go.RowKit
set_option linter.unusedSimpArgs false
set_option maxRecDepth 100000
theorem i64_wf {n : Int} (h : (Lit.int .i64 n).wf = true) : i64 n := by
  simp [Lit.wf, IntKind.min, IntKind.max, IntKind.signed, IntKind.bits] at h
  exact ⟨h.1, by omega⟩
theorem rd_listQ {α : Type} {f : α → AV} {Q : α → Prop} {t e sz : Nat} (ht : Tryd.prog.underlying t = some (.slice e)) (hs : Tryd.prog.cellsOf t = 1) (h : RdT Tryd.prog e sz fun cs => ∃ a : α, .agg cs = f a ∧ Q a) (h0 : 0 < sz) :
    RdT Tryd.prog t 1 fun cs => ∃ l : List α, cs = [.seq sz (l.map f)] ∧ l.length ≤ maxLen ∧ ∀ a ∈ l, Q a :=
  (rd_slice true ht hs h h0 (by intro h; cases h)).mono (by
    rintro _ ⟨es, rfl, hl, h⟩
    obtain ⟨l, rfl, hq⟩ := list_of' (f := f) (Q := Q) (fun x hx => by obtain ⟨_, ⟨o, e, q⟩, rfl⟩ := h x hx; exact ⟨o, e, q⟩)
    exact ⟨l, rfl, by simpa using hl, hq⟩)
theorem rVal64 : RdT Tryd.prog 46 4 fun cs => ∃ v : Val, cs = [iv v.kind, iv v.int, .str v.str, .bool v.bool] ∧ i64 v.int :=
  (rd_struct (t := 46) (fs := (Tryd.prog.fieldsOf 46)) (by kernel_rfl) (by kernel_rfl) (rdf_cons (f := (Tryd.prog.fieldsOf 46)[0]!) (rInt (by kernel_rfl) (by kernel_rfl)) (by kernel_rfl) rfl (rdf_cons (f := (Tryd.prog.fieldsOf 46)[1]!) (rd_int (by kernel_rfl) (by kernel_rfl)) (by kernel_rfl) rfl (rdf_cons (f := (Tryd.prog.fieldsOf 46)[2]!) (rStr (by kernel_rfl) (by kernel_rfl)) (by kernel_rfl) rfl (rdf_cons (f := (Tryd.prog.fieldsOf 46)[3]!) (rd_bool (by kernel_rfl) (by kernel_rfl)) (by kernel_rfl) rfl (rdf_nil _)))))).mono (by
    rintro _ ⟨_, _, rfl, ⟨a, rfl⟩, _, _, rfl, ⟨b, rfl, hb⟩, _, _, rfl, ⟨c, rfl⟩, _, _, rfl, ⟨d, rfl⟩, rfl⟩
    exact ⟨⟨a, b, c, d⟩, rfl, i64_wf hb⟩)
theorem rValA : RdT Tryd.prog 46 4 fun cs => ∃ v : Val, .agg cs = valV v ∧ i64 v.int := rVal64.mono (by
  rintro _ ⟨v, rfl, hv⟩
  exact ⟨v, rfl, hv⟩)
theorem rNode64 : RdT Tryd.prog 78 7 fun cs => ∃ a : NodeT, .agg cs = nodeV a ∧ i64 a.value.int :=
  (rd_struct (t := 78) (fs := (Tryd.prog.fieldsOf 78)) (by kernel_rfl) (by kernel_rfl) (rdf_cons (f := (Tryd.prog.fieldsOf 78)[0]!) (rInt (by kernel_rfl) (by kernel_rfl)) (by kernel_rfl) rfl (rdf_cons (f := (Tryd.prog.fieldsOf 78)[1]!) (rInt (by kernel_rfl) (by kernel_rfl)) (by kernel_rfl) rfl (rdf_cons (f := (Tryd.prog.fieldsOf 78)[2]!) (rInt (by kernel_rfl) (by kernel_rfl)) (by kernel_rfl) rfl (rdf_cons (f := (Tryd.prog.fieldsOf 78)[3]!) rVal64 (by kernel_rfl) rfl (rdf_nil _)))))).mono (by
    rintro _ ⟨_, _, rfl, ⟨a, rfl⟩, _, _, rfl, ⟨b, rfl⟩, _, _, rfl, ⟨c, rfl⟩, _, _, rfl, ⟨v, rfl, hv⟩, rfl⟩
    exact ⟨⟨a, b, c, v⟩, rfl, hv⟩)
theorem rSlot64 : RdT Tryd.prog 55 5 fun cs => ∃ a : SlotT, .agg cs = slotV a ∧ i64 a.value.int :=
  (rd_struct (t := 55) (fs := (Tryd.prog.fieldsOf 55)) (by kernel_rfl) (by kernel_rfl) (rdf_cons (f := (Tryd.prog.fieldsOf 55)[0]!) (rInt (by kernel_rfl) (by kernel_rfl)) (by kernel_rfl) rfl (rdf_cons (f := (Tryd.prog.fieldsOf 55)[1]!) rVal64 (by kernel_rfl) rfl (rdf_nil _)))).mono (by
    rintro _ ⟨_, _, rfl, ⟨a, rfl⟩, _, _, rfl, ⟨v, rfl, hv⟩, rfl⟩
    exact ⟨⟨a, v⟩, rfl, hv⟩)
theorem rSlots : RdT Tryd.prog 43 1 fun cs => ∃ l : {l : List SlotT // ∀ s ∈ l, i64 s.value.int}, cs = [slotsV l.1] :=
  (rd_listQ (by kernel_rfl) (by kernel_rfl) rSlot64 (by decide)).mono (by
    rintro _ ⟨l, rfl, _, h⟩
    exact ⟨⟨l, h⟩, rfl⟩)
theorem rVals : RdT Tryd.prog 37 1 fun cs => ∃ l : {l : List Val // ∀ v ∈ l, i64 v.int}, cs = [valsV l.1] :=
  (rd_listQ (by kernel_rfl) (by kernel_rfl) rValA (by decide)).mono (by
    rintro _ ⟨l, rfl, _, h⟩
    exact ⟨⟨l, h⟩, rfl⟩)
theorem rQeaN : RdT Tryd.prog 30 9 fun cs => ∃ q : {q : QeaT // Q64 q}, .agg cs = qeaV q.1 :=
  (rd_struct (t := 30) (fs := (Tryd.prog.fieldsOf 30)) (by kernel_rfl) (by kernel_rfl) (rdf_cons (f := (Tryd.prog.fieldsOf 30)[0]!) (rStr (by kernel_rfl) (by kernel_rfl)) (by kernel_rfl) rfl (rdf_cons (f := (Tryd.prog.fieldsOf 30)[1]!) (rd_list (t := 22) (by kernel_rfl) (by kernel_rfl) rDecl (by decide)) (by kernel_rfl) rfl (rdf_cons (f := (Tryd.prog.fieldsOf 30)[2]!) (rd_list (t := 23) (by kernel_rfl) (by kernel_rfl) rQuant (by decide)) (by kernel_rfl) rfl (rdf_cons (f := (Tryd.prog.fieldsOf 30)[3]!) (rd_list (t := 24) (by kernel_rfl) (by kernel_rfl) rFree (by decide)) (by kernel_rfl) rfl (rdf_cons (f := (Tryd.prog.fieldsOf 30)[4]!) (rd_list (t := 25) (by kernel_rfl) (by kernel_rfl) rState (by decide)) (by kernel_rfl) rfl (rdf_cons (f := (Tryd.prog.fieldsOf 30)[5]!) (rInt (by kernel_rfl) (by kernel_rfl)) (by kernel_rfl) rfl (rdf_cons (f := (Tryd.prog.fieldsOf 30)[6]!) (rd_list (t := 26) (by kernel_rfl) (by kernel_rfl) rSym (by decide)) (by kernel_rfl) rfl (rdf_cons (f := (Tryd.prog.fieldsOf 30)[7]!) (rd_listQ (t := 27) (by kernel_rfl) (by kernel_rfl) rNode64 (by decide)) (by kernel_rfl) rfl (rdf_cons (f := (Tryd.prog.fieldsOf 30)[8]!) (rd_list (t := 28) (by kernel_rfl) (by kernel_rfl) rTrans (by decide)) (by kernel_rfl) rfl (rdf_nil _))))))))))).mono (by
    rintro _ ⟨_, _, rfl, ⟨a, rfl⟩, _, _, rfl, ⟨l1, rfl, _⟩, _, _, rfl, ⟨l2, rfl, _⟩, _, _, rfl, ⟨l3, rfl, _⟩, _, _, rfl, ⟨l4, rfl, _⟩, _, _, rfl, ⟨s, rfl⟩, _, _, rfl, ⟨l5, rfl, _⟩, _, _, rfl, ⟨l6, rfl, _, h6⟩, _, _, rfl, ⟨l7, rfl, _⟩, rfl⟩
    exact ⟨⟨⟨a, l1, l2, l3, l4, s, l5, l6, l7⟩, ⟨h6⟩⟩, rfl⟩)
/-- A listed variable that is a type's handle. -/
theorem handle_laid {W : World} {u : Nat} {x : Value} (h : W.var? Tryd.prog "errors.errorType" = some #[.iface u (.agg #[x])]) {e : AV} (hx : ∀ F nm, Rd W F nm e x) : Rd W (oldF W) noNames (.eptr (.iface u (.agg [e])) 0) (.pointer (some ⟨0, 0, none⟩)) ∧ WholeV W 0 (.iface u (.agg [e])) := by
  have hg : Tryd.prog.globalNamed "errors.errorType" = some 0 := by kernel_rfl
  simp only [World.var?, hg, Option.bind_some] at h
  split at h
  · rename_i cs t fz hb
    simp only [Option.some.injEq] at h
    subst h
    refine ⟨?_, _, t, fz, hb, rfl⟩
    have key := Rd.eptr (w := W) (F := oldF W) noNames (.iface u (.agg [e])) 0 0 0 (fun _ => .iface u (.agg #[x])) (Array.getElem?_eq_some_iff.1 hb).1
      (fun p hp => by
        have : p = 0 := by simp [AV.cells] at hp; omega
        subst this
        simp [World.cell?, hb])
      (fun p hp => rfl)
      (fun j c hj => by
        match j, hj with
        | 0, hj => cases hj; exact .iface _ _ _ _ (.agg _ [_] [_] rfl fun j c z hc hz => by
            match j, hc, hz with
            | 0, hc, hz => cases hc; cases hz; exact hx _ _))
    simpa using key
  · cases h
end Go.Proofs.YtdfdiglnpekcpabDoor.Ab
namespace Go.Proofs.YtdfdiglnpekcpabDoor.Ab
open Go
set_option linter.unusedSimpArgs false
/-- An expression that may be covers its places: all of them may be. -/
theorem kind_cover (q : QeaT) : ∀ (r : Nat) (e : ExT), (exprs q)[r]? = some e → ¬ e.kind = 0 → ∀ i : Nat, e.from_ ≤ i → i ≤ r → KindAt q i := by
  intro r
  induction r using Nat.strongRecOn with
  | _ r ih =>
    intro e he hk i h1 h2
    by_cases hir : i = r
    · subst hir; exact ⟨e, he, hk⟩
    have hlen : (exprs q).length = q.nodes.length := exL_length q q.nodes.length (Nat.le_refl _)
    have hr : r < q.nodes.length := by
      have := (List.getElem?_eq_some_iff.1 he).1
      omega
    obtain ⟨x, hx, _⟩ := at_some hr
    have hel := exL_length q r (by omega)
    have he0 := he
    unfold exprs at he
    rw [exL_get hx _ hr (Nat.le_refl _)] at he
    simp only [Option.some.injEq] at he
    subst he
    unfold exStep at hk h1
    cases hleaf : leafOf q r x with
    | some e1 =>
      rw [hleaf] at h1
      dsimp only at h1
      have := (leafOf_ok hleaf).2
      omega
    | none =>
      rw [hleaf] at hk h1
      dsimp only at hk h1
      split at hk
      · exact absurd rfl hk
      rename_i hop
      rw [if_neg hop] at h1
      cases hb : at? (exL q r) ((r : Int) - 1) with
      | none => rw [hb] at hk; exact absurd rfl hk
      | some b =>
        rw [hb] at hk h1
        dsimp only at hk h1
        obtain ⟨j, hj, hbj⟩ := at?_some hb
        have hjr : j + 1 = r := by omega
        split at hk
        · exact absurd rfl hk
        rename_i hbk
        rw [if_neg hbk] at h1
        have hcb := ih j (by omega) b (exL_pre (by omega) hbj) hbk
        split at hk
        · rename_i h5
          rw [if_pos h5] at h1
          split at hk
          · rename_i hc
            rw [if_pos hc] at h1
            exact hcb i h1 (by omega)
          · exact absurd rfl hk
        · rename_i h5
          rw [if_neg h5] at h1
          split at hk
          · rename_i hc
            rw [if_pos hc] at h1
            cases ha : at? (exL q r) x.a with
            | none => rw [ha] at hk; exact absurd rfl hk
            | some a =>
              rw [ha] at hk h1
              dsimp only at hk h1
              split at hk
              · exact absurd rfl hk
              rename_i hak
              rw [if_neg hak] at h1
              obtain ⟨k, hxk, hak'⟩ := at?_some ha
              have hkl := (List.getElem?_eq_some_iff.1 hak').1
              by_cases hib : b.from_ ≤ i
              · exact hcb i hib (by omega)
              · exact ih k (by omega) a (exL_pre (by omega) hak') hak i h1 (by omega)
          · exact absurd rfl hk
theorem whole_cover {q : QeaT} {a r k : Int} (h : wholeS (exprs q) a r k = true) (ha : ∀ i : Nat, (i : Int) < a → KindAt q i) : ∀ i : Nat, (i : Int) < r + 1 → KindAt q i := by
  unfold wholeS at h
  split at h
  · cases h
  · rename_i e he
    obtain ⟨j, rfl, hej⟩ := at?_some he
    simp only [Bool.and_eq_true, beq_iff_eq, Bool.not_eq_true', beq_eq_false_iff_ne, ne_eq, decide_eq_true_eq] at h
    intro i hi
    by_cases hia : (i : Int) < a
    · exact ha i hia
    · exact kind_cover q j e hej (by rw [h.2.1]; exact h.2.2.1) i (by omega) (by omega)
theorem sets_cover {q : QeaT} {sets : List SetT} : ∀ {l : List SetT} {i : Nat} {a : Int}, (allS (setStep q (exprs q) sets) l i a).1 = true → (∀ i : Nat, (i : Int) < a → KindAt q i) → ∀ k : Nat, (k : Int) < (allS (setStep q (exprs q) sets) l i a).2 → KindAt q k
  | [], _, _, _, ha => ha
  | s :: l, i, a, h, ha => by
    rw [allS] at h ⊢
    split at h
    · rename_i hs
      rw [if_pos hs]
      refine sets_cover h ?_
      unfold setStep at hs ⊢
      split at hs
      · cases hs
      · rename_i f hf
        split at hs
        · cases hs
        · rename_i hany
          split at hs
          · rename_i hw
            first
              | rw [if_neg hany, if_pos hw]; exact whole_cover hw ha
              | (rw [hf]; dsimp only; rw [if_neg hany, if_pos hw]; exact whole_cover hw ha)
          · cases hs
    · cases h
theorem trans_cover {q : QeaT} {t : TransT} {a : Int} (h : (transR q t a).2 = true) (ha : ∀ i : Nat, (i : Int) < a → KindAt q i) : ∀ k : Nat, (k : Int) < (transR q t a).1 → KindAt q k := by
  have rest : ∀ a1, (restR q t a a1).2 = true → (∀ i : Nat, (i : Int) < a1 → KindAt q i) → ∀ k : Nat, (k : Int) < (restR q t a a1).1 → KindAt q k := fun a1 hr h1 => by
    unfold restR at hr ⊢
    dsimp only at hr ⊢
    split at hr
    · rename_i hall
      rw [if_pos hall]
      exact sets_cover hall h1
    · cases hr
  unfold transR at h ⊢
  split at h
  · cases h
  · rename_i h1
    rw [if_neg h1]
    split at h
    · rename_i h2
      rw [if_pos h2]
      exact rest _ h ha
    · rename_i h2
      rw [if_neg h2]
      split at h
      · rename_i hw
        rw [if_pos hw]
        exact rest _ h (whole_cover hw ha)
      · cases h
theorem all_cover {q : QeaT} : ∀ {l : List TransT} {i : Nat} {a : Int}, (allS (stepR q) l i a).1 = true → (∀ i : Nat, (i : Int) < a → KindAt q i) → ∀ k : Nat, (k : Int) < (allS (stepR q) l i a).2 → KindAt q k
  | [], _, _, _, ha => ha
  | t :: l, i, a, h, ha => by
    rw [allS] at h ⊢
    split at h
    · rename_i hs
      rw [if_pos hs]
      exact all_cover h (trans_cover hs ha)
    · cases h
theorem all_kinds {q : QeaT} (h : rightR q = true) (i : Nat) (hi : i < q.nodes.length) : KindAt q i := by
  unfold rightR transAll at h
  simp only [Bool.and_eq_true, beq_iff_eq] at h
  exact all_cover h.2.1.1 (fun i hi => by omega) i (by rw [h.2.1.2]; omega)
end Go.Proofs.YtdfdiglnpekcpabDoor.Ab
