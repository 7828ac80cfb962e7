/-
  How an automaton is read. No claim is proved here.
-/
import Derived.Test.YtdfdiglnpekcpaaDoorAbTrod
import Derived.Test.YtdfdiglnpekcpaaDoorD2
namespace Go.Proofs.YtdfdiglnpekcpaaDoor.Ab
open Go Go.ChangeShapes Go.WideShapes Go.RowKit
set_option maxRecDepth 100000
theorem rInt {t : Nat} (ht : Tryd.prog.underlying t = some (.int .i64)) (hs : Tryd.prog.cellsOf t = 1) : RdT Tryd.prog t 1 fun cs => ∃ n : Int, cs = [iv n] :=
  (rd_int ht hs).mono (by rintro _ ⟨n, rfl, _⟩; exact ⟨n, rfl⟩)
theorem rStr {t : Nat} (ht : Tryd.prog.underlying t = some .string) (hs : Tryd.prog.cellsOf t = 1) : RdT Tryd.prog t 1 fun cs => ∃ s : Str, cs = [.str s] :=
  (rd_str ht hs).mono (by rintro _ ⟨n, rfl, _⟩; exact ⟨n, rfl⟩)
theorem rd_list {α : Type} {f : α → AV} {t e sz : Nat} (ht : Tryd.prog.underlying t = some (.slice e)) (hs : Tryd.prog.cellsOf t = 1) (h : RdT Tryd.prog e sz fun cs => ∃ a : α, .agg cs = f a) (h0 : 0 < sz) :
    RdT Tryd.prog t 1 fun cs => ∃ l : List α, cs = [.seq sz (l.map f)] ∧ l.length ≤ maxLen :=
  (rd_slice true ht hs h h0 (by intro h; cases h)).mono (by
    rintro _ ⟨es, rfl, hl, h⟩
    obtain ⟨l, rfl⟩ := list_of (f := f) (fun x hx => by obtain ⟨_, ⟨o, e⟩, rfl⟩ := h x hx; exact ⟨o, e⟩)
    exact ⟨l, rfl, by simpa using hl⟩)
theorem rInts {t e : Nat} (ht : Tryd.prog.underlying t = some (.slice e)) (hs : Tryd.prog.cellsOf t = 1) (he : Tryd.prog.underlying e = some (.int .i64)) (hse : Tryd.prog.cellsOf e = 1) : RdT Tryd.prog t 1 fun cs => ∃ l : List Int, cs = [intsV l] ∧ l.length ≤ maxLen :=
  (rd_slice (e := e) false ht hs (rInt he hse) (by decide) (by rintro - _ ⟨n, rfl⟩; exact ⟨_, rfl, rfl⟩)).mono (by
    rintro _ ⟨es, rfl, hl, h⟩
    obtain ⟨l, rfl⟩ := list_of (f := iv) (fun x hx => by obtain ⟨_, ⟨n, rfl⟩, rfl⟩ := h x hx; exact ⟨n, rfl⟩)
    exact ⟨l, rfl, by simpa using hl⟩)
theorem rVal : RdT Tryd.prog 70 4 fun cs => ∃ v : Val, cs = [iv v.kind, iv v.int, .str v.str, .bool v.bool] :=
  (rd_struct (t := 70) (fs := (Tryd.prog.fieldsOf 70)) (by kernel_rfl) (by kernel_rfl) (rdf_cons (f := (Tryd.prog.fieldsOf 70)[0]!) (rInt (by kernel_rfl) (by kernel_rfl)) (by kernel_rfl) rfl (rdf_cons (f := (Tryd.prog.fieldsOf 70)[1]!) (rInt (by kernel_rfl) (by kernel_rfl)) (by kernel_rfl) rfl (rdf_cons (f := (Tryd.prog.fieldsOf 70)[2]!) (rStr (by kernel_rfl) (by kernel_rfl)) (by kernel_rfl) rfl (rdf_cons (f := (Tryd.prog.fieldsOf 70)[3]!) (rd_bool (by kernel_rfl) (by kernel_rfl)) (by kernel_rfl) rfl (rdf_nil _)))))).mono (by
    rintro _ ⟨_, _, rfl, ⟨a, rfl⟩, _, _, rfl, ⟨b, rfl⟩, _, _, rfl, ⟨c, rfl⟩, _, _, rfl, ⟨d, rfl⟩, rfl⟩
    exact ⟨⟨a, b, c, d⟩, rfl⟩)
theorem rArg : RdT Tryd.prog 72 6 fun cs => ∃ a : ArgT, .agg cs = argV a :=
  (rd_struct (t := 72) (fs := (Tryd.prog.fieldsOf 72)) (by kernel_rfl) (by kernel_rfl) (rdf_cons (f := (Tryd.prog.fieldsOf 72)[0]!) (rInt (by kernel_rfl) (by kernel_rfl)) (by kernel_rfl) rfl (rdf_cons (f := (Tryd.prog.fieldsOf 72)[1]!) (rInt (by kernel_rfl) (by kernel_rfl)) (by kernel_rfl) rfl (rdf_cons (f := (Tryd.prog.fieldsOf 72)[2]!) rVal (by kernel_rfl) rfl (rdf_nil _))))).mono (by
    rintro _ ⟨_, _, rfl, ⟨a, rfl⟩, _, _, rfl, ⟨b, rfl⟩, _, _, rfl, ⟨v, rfl⟩, rfl⟩
    exact ⟨⟨a, b, v⟩, rfl⟩)
theorem rSym : RdT Tryd.prog 68 2 fun cs => ∃ a : SymT, .agg cs = symV a :=
  (rd_struct (t := 68) (fs := (Tryd.prog.fieldsOf 68)) (by kernel_rfl) (by kernel_rfl) (rdf_cons (f := (Tryd.prog.fieldsOf 68)[0]!) (rInt (by kernel_rfl) (by kernel_rfl)) (by kernel_rfl) rfl (rdf_cons (f := (Tryd.prog.fieldsOf 68)[1]!) (rd_list (t := 66) (by kernel_rfl) (by kernel_rfl) rArg (by decide)) (by kernel_rfl) rfl (rdf_nil _)))).mono (by
    rintro _ ⟨_, _, rfl, ⟨a, rfl⟩, _, _, rfl, ⟨l, rfl, _⟩, rfl⟩
    exact ⟨⟨a, l⟩, rfl⟩)
theorem rNode : RdT Tryd.prog 76 7 fun cs => ∃ a : NodeT, .agg cs = nodeV a :=
  (rd_struct (t := 76) (fs := (Tryd.prog.fieldsOf 76)) (by kernel_rfl) (by kernel_rfl) (rdf_cons (f := (Tryd.prog.fieldsOf 76)[0]!) (rInt (by kernel_rfl) (by kernel_rfl)) (by kernel_rfl) rfl (rdf_cons (f := (Tryd.prog.fieldsOf 76)[1]!) (rInt (by kernel_rfl) (by kernel_rfl)) (by kernel_rfl) rfl (rdf_cons (f := (Tryd.prog.fieldsOf 76)[2]!) (rInt (by kernel_rfl) (by kernel_rfl)) (by kernel_rfl) rfl (rdf_cons (f := (Tryd.prog.fieldsOf 76)[3]!) rVal (by kernel_rfl) rfl (rdf_nil _)))))).mono (by
    rintro _ ⟨_, _, rfl, ⟨a, rfl⟩, _, _, rfl, ⟨b, rfl⟩, _, _, rfl, ⟨c, rfl⟩, _, _, rfl, ⟨v, rfl⟩, rfl⟩
    exact ⟨⟨a, b, c, v⟩, rfl⟩)
theorem rQuant : RdT Tryd.prog 86 3 fun cs => ∃ a : QuantT, .agg cs = quantV a :=
  (rd_struct (t := 86) (fs := (Tryd.prog.fieldsOf 86)) (by kernel_rfl) (by kernel_rfl) (rdf_cons (f := (Tryd.prog.fieldsOf 86)[0]!) (rd_bool (by kernel_rfl) (by kernel_rfl)) (by kernel_rfl) rfl (rdf_cons (f := (Tryd.prog.fieldsOf 86)[1]!) (rStr (by kernel_rfl) (by kernel_rfl)) (by kernel_rfl) rfl (rdf_cons (f := (Tryd.prog.fieldsOf 86)[2]!) (rInt (by kernel_rfl) (by kernel_rfl)) (by kernel_rfl) rfl (rdf_nil _))))).mono (by
    rintro _ ⟨_, _, rfl, ⟨a, rfl⟩, _, _, rfl, ⟨b, rfl⟩, _, _, rfl, ⟨c, rfl⟩, rfl⟩
    exact ⟨⟨a, b, c⟩, rfl⟩)
theorem rFree : RdT Tryd.prog 74 5 fun cs => ∃ a : FreeT, .agg cs = freeV a :=
  (rd_struct (t := 74) (fs := (Tryd.prog.fieldsOf 74)) (by kernel_rfl) (by kernel_rfl) (rdf_cons (f := (Tryd.prog.fieldsOf 74)[0]!) (rStr (by kernel_rfl) (by kernel_rfl)) (by kernel_rfl) rfl (rdf_cons (f := (Tryd.prog.fieldsOf 74)[1]!) rVal (by kernel_rfl) rfl (rdf_nil _)))).mono (by
    rintro _ ⟨_, _, rfl, ⟨a, rfl⟩, _, _, rfl, ⟨v, rfl⟩, rfl⟩
    exact ⟨⟨a, v⟩, rfl⟩)
theorem rState : RdT Tryd.prog 81 3 fun cs => ∃ a : StateT, .agg cs = stateV a :=
  (rd_struct (t := 81) (fs := (Tryd.prog.fieldsOf 81)) (by kernel_rfl) (by kernel_rfl) (rdf_cons (f := (Tryd.prog.fieldsOf 81)[0]!) (rStr (by kernel_rfl) (by kernel_rfl)) (by kernel_rfl) rfl (rdf_cons (f := (Tryd.prog.fieldsOf 81)[1]!) (rd_bool (by kernel_rfl) (by kernel_rfl)) (by kernel_rfl) rfl (rdf_cons (f := (Tryd.prog.fieldsOf 81)[2]!) (rd_bool (by kernel_rfl) (by kernel_rfl)) (by kernel_rfl) rfl (rdf_nil _))))).mono (by
    rintro _ ⟨_, _, rfl, ⟨a, rfl⟩, _, _, rfl, ⟨b, rfl⟩, _, _, rfl, ⟨c, rfl⟩, rfl⟩
    exact ⟨⟨a, b, c⟩, rfl⟩)
theorem rSet : RdT Tryd.prog 95 2 fun cs => ∃ a : SetT, .agg cs = setV a :=
  (rd_struct (t := 95) (fs := (Tryd.prog.fieldsOf 95)) (by kernel_rfl) (by kernel_rfl) (rdf_cons (f := (Tryd.prog.fieldsOf 95)[0]!) (rInt (by kernel_rfl) (by kernel_rfl)) (by kernel_rfl) rfl (rdf_cons (f := (Tryd.prog.fieldsOf 95)[1]!) (rInt (by kernel_rfl) (by kernel_rfl)) (by kernel_rfl) rfl (rdf_nil _)))).mono (by
    rintro _ ⟨_, _, rfl, ⟨a, rfl⟩, _, _, rfl, ⟨b, rfl⟩, rfl⟩
    exact ⟨⟨a, b⟩, rfl⟩)
theorem rTrans : RdT Tryd.prog 79 5 fun cs => ∃ a : TransT, .agg cs = transV a :=
  (rd_struct (t := 79) (fs := (Tryd.prog.fieldsOf 79)) (by kernel_rfl) (by kernel_rfl) (rdf_cons (f := (Tryd.prog.fieldsOf 79)[0]!) (rInt (by kernel_rfl) (by kernel_rfl)) (by kernel_rfl) rfl (rdf_cons (f := (Tryd.prog.fieldsOf 79)[1]!) (rInt (by kernel_rfl) (by kernel_rfl)) (by kernel_rfl) rfl (rdf_cons (f := (Tryd.prog.fieldsOf 79)[2]!) (rInt (by kernel_rfl) (by kernel_rfl)) (by kernel_rfl) rfl (rdf_cons (f := (Tryd.prog.fieldsOf 79)[3]!) (rInt (by kernel_rfl) (by kernel_rfl)) (by kernel_rfl) rfl (rdf_cons (f := (Tryd.prog.fieldsOf 79)[4]!) (rd_list (t := 77) (by kernel_rfl) (by kernel_rfl) rSet (by decide)) (by kernel_rfl) rfl (rdf_nil _))))))).mono (by
    rintro _ ⟨_, _, rfl, ⟨a, rfl⟩, _, _, rfl, ⟨b, rfl⟩, _, _, rfl, ⟨c, rfl⟩, _, _, rfl, ⟨d, rfl⟩, _, _, rfl, ⟨l, rfl, _⟩, rfl⟩
    exact ⟨⟨a, b, c, d, l⟩, rfl⟩)
theorem rDecl : RdT Tryd.prog 65 2 fun cs => ∃ a : DeclT, .agg cs = declV a :=
  (rd_struct (t := 65) (fs := (Tryd.prog.fieldsOf 65)) (by kernel_rfl) (by kernel_rfl) (rdf_cons (f := (Tryd.prog.fieldsOf 65)[0]!) (rStr (by kernel_rfl) (by kernel_rfl)) (by kernel_rfl) rfl (rdf_cons (f := (Tryd.prog.fieldsOf 65)[1]!) (rInts (t := 22) (e := 3) (by kernel_rfl) (by kernel_rfl) (by kernel_rfl) (by kernel_rfl)) (by kernel_rfl) rfl (rdf_nil _)))).mono (by
    rintro _ ⟨_, _, rfl, ⟨a, rfl⟩, _, _, rfl, ⟨l, rfl, _⟩, rfl⟩
    exact ⟨⟨a, l⟩, rfl⟩)
theorem rQea : RdT Tryd.prog 46 9 fun cs => ∃ q : QeaT, .agg cs = qeaV q :=
  (rd_struct (t := 46) (fs := (Tryd.prog.fieldsOf 46)) (by kernel_rfl) (by kernel_rfl) (rdf_cons (f := (Tryd.prog.fieldsOf 46)[0]!) (rStr (by kernel_rfl) (by kernel_rfl)) (by kernel_rfl) rfl (rdf_cons (f := (Tryd.prog.fieldsOf 46)[1]!) (rd_list (t := 38) (by kernel_rfl) (by kernel_rfl) rDecl (by decide)) (by kernel_rfl) rfl (rdf_cons (f := (Tryd.prog.fieldsOf 46)[2]!) (rd_list (t := 39) (by kernel_rfl) (by kernel_rfl) rQuant (by decide)) (by kernel_rfl) rfl (rdf_cons (f := (Tryd.prog.fieldsOf 46)[3]!) (rd_list (t := 40) (by kernel_rfl) (by kernel_rfl) rFree (by decide)) (by kernel_rfl) rfl (rdf_cons (f := (Tryd.prog.fieldsOf 46)[4]!) (rd_list (t := 41) (by kernel_rfl) (by kernel_rfl) rState (by decide)) (by kernel_rfl) rfl (rdf_cons (f := (Tryd.prog.fieldsOf 46)[5]!) (rInt (by kernel_rfl) (by kernel_rfl)) (by kernel_rfl) rfl (rdf_cons (f := (Tryd.prog.fieldsOf 46)[6]!) (rd_list (t := 42) (by kernel_rfl) (by kernel_rfl) rSym (by decide)) (by kernel_rfl) rfl (rdf_cons (f := (Tryd.prog.fieldsOf 46)[7]!) (rd_list (t := 43) (by kernel_rfl) (by kernel_rfl) rNode (by decide)) (by kernel_rfl) rfl (rdf_cons (f := (Tryd.prog.fieldsOf 46)[8]!) (rd_list (t := 44) (by kernel_rfl) (by kernel_rfl) rTrans (by decide)) (by kernel_rfl) rfl (rdf_nil _))))))))))).mono (by
    rintro _ ⟨_, _, rfl, ⟨a, rfl⟩, _, _, rfl, ⟨l1, rfl, _⟩, _, _, rfl, ⟨l2, rfl, _⟩, _, _, rfl, ⟨l3, rfl, _⟩, _, _, rfl, ⟨l4, rfl, _⟩, _, _, rfl, ⟨s, rfl⟩, _, _, rfl, ⟨l5, rfl, _⟩, _, _, rfl, ⟨l6, rfl, _⟩, _, _, rfl, ⟨l7, rfl, _⟩, rfl⟩
    exact ⟨⟨a, l1, l2, l3, l4, s, l5, l6, l7⟩, rfl⟩)
end Go.Proofs.YtdfdiglnpekcpaaDoor.Ab
