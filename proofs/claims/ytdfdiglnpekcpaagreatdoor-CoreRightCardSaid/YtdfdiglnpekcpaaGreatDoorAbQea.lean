/-
  How an automaton is read. No claim is proved here.
-/
import Derived.Test.YtdfdiglnpekcpaaGreatDoorAbTrod
import Derived.Test.YtdfdiglnpekcpaaGreatDoorD2
namespace Go.Proofs.YtdfdiglnpekcpaaGreatDoor.Ab
open Go Go.ChangeShapes Go.WideShapes Go.RowKit
set_option maxRecDepth 100000
theorem rInt {t : Nat} (ht : Tryz.prog.underlying t = some (.int .i64)) (hs : Tryz.prog.cellsOf t = 1) : RdT Tryz.prog t 1 fun cs => ∃ n : Int, cs = [iv n] :=
  (rd_int ht hs).mono (by rintro _ ⟨n, rfl, _⟩; exact ⟨n, rfl⟩)
theorem rStr {t : Nat} (ht : Tryz.prog.underlying t = some .string) (hs : Tryz.prog.cellsOf t = 1) : RdT Tryz.prog t 1 fun cs => ∃ s : Str, cs = [.str s] :=
  (rd_str ht hs).mono (by rintro _ ⟨n, rfl, _⟩; exact ⟨n, rfl⟩)
theorem rd_list {α : Type} {f : α → AV} {t e sz : Nat} (ht : Tryz.prog.underlying t = some (.slice e)) (hs : Tryz.prog.cellsOf t = 1) (h : RdT Tryz.prog e sz fun cs => ∃ a : α, .agg cs = f a) (h0 : 0 < sz) :
    RdT Tryz.prog t 1 fun cs => ∃ l : List α, cs = [.seq sz (l.map f)] ∧ l.length ≤ maxLen :=
  (rd_slice true ht hs h h0 (by intro h; cases h)).mono (by
    rintro _ ⟨es, rfl, hl, h⟩
    obtain ⟨l, rfl⟩ := list_of (f := f) (fun x hx => by obtain ⟨_, ⟨o, e⟩, rfl⟩ := h x hx; exact ⟨o, e⟩)
    exact ⟨l, rfl, by simpa using hl⟩)
theorem rInts {t e : Nat} (ht : Tryz.prog.underlying t = some (.slice e)) (hs : Tryz.prog.cellsOf t = 1) (he : Tryz.prog.underlying e = some (.int .i64)) (hse : Tryz.prog.cellsOf e = 1) : RdT Tryz.prog t 1 fun cs => ∃ l : List Int, cs = [intsV l] ∧ l.length ≤ maxLen :=
  (rd_slice (e := e) false ht hs (rInt he hse) (by decide) (by rintro - _ ⟨n, rfl⟩; exact ⟨_, rfl, rfl⟩)).mono (by
    rintro _ ⟨es, rfl, hl, h⟩
    obtain ⟨l, rfl⟩ := list_of (f := iv) (fun x hx => by obtain ⟨_, ⟨n, rfl⟩, rfl⟩ := h x hx; exact ⟨n, rfl⟩)
    exact ⟨l, rfl, by simpa using hl⟩)
theorem rVal : RdT Tryz.prog 41 4 fun cs => ∃ v : Val, cs = [iv v.kind, iv v.int, .str v.str, .bool v.bool] :=
  (rd_struct (t := 41) (fs := (Tryz.prog.fieldsOf 41)) (by kernel_rfl) (by kernel_rfl) (rdf_cons (f := (Tryz.prog.fieldsOf 41)[0]!) (rInt (by kernel_rfl) (by kernel_rfl)) (by kernel_rfl) rfl (rdf_cons (f := (Tryz.prog.fieldsOf 41)[1]!) (rInt (by kernel_rfl) (by kernel_rfl)) (by kernel_rfl) rfl (rdf_cons (f := (Tryz.prog.fieldsOf 41)[2]!) (rStr (by kernel_rfl) (by kernel_rfl)) (by kernel_rfl) rfl (rdf_cons (f := (Tryz.prog.fieldsOf 41)[3]!) (rd_bool (by kernel_rfl) (by kernel_rfl)) (by kernel_rfl) rfl (rdf_nil _)))))).mono (by
    rintro _ ⟨_, _, rfl, ⟨a, rfl⟩, _, _, rfl, ⟨b, rfl⟩, _, _, rfl, ⟨c, rfl⟩, _, _, rfl, ⟨d, rfl⟩, rfl⟩
    exact ⟨⟨a, b, c, d⟩, rfl⟩)
theorem rArg : RdT Tryz.prog 43 6 fun cs => ∃ a : ArgT, .agg cs = argV a :=
  (rd_struct (t := 43) (fs := (Tryz.prog.fieldsOf 43)) (by kernel_rfl) (by kernel_rfl) (rdf_cons (f := (Tryz.prog.fieldsOf 43)[0]!) (rInt (by kernel_rfl) (by kernel_rfl)) (by kernel_rfl) rfl (rdf_cons (f := (Tryz.prog.fieldsOf 43)[1]!) (rInt (by kernel_rfl) (by kernel_rfl)) (by kernel_rfl) rfl (rdf_cons (f := (Tryz.prog.fieldsOf 43)[2]!) rVal (by kernel_rfl) rfl (rdf_nil _))))).mono (by
    rintro _ ⟨_, _, rfl, ⟨a, rfl⟩, _, _, rfl, ⟨b, rfl⟩, _, _, rfl, ⟨v, rfl⟩, rfl⟩
    exact ⟨⟨a, b, v⟩, rfl⟩)
theorem rSym : RdT Tryz.prog 39 2 fun cs => ∃ a : SymT, .agg cs = symV a :=
  (rd_struct (t := 39) (fs := (Tryz.prog.fieldsOf 39)) (by kernel_rfl) (by kernel_rfl) (rdf_cons (f := (Tryz.prog.fieldsOf 39)[0]!) (rInt (by kernel_rfl) (by kernel_rfl)) (by kernel_rfl) rfl (rdf_cons (f := (Tryz.prog.fieldsOf 39)[1]!) (rd_list (t := 37) (by kernel_rfl) (by kernel_rfl) rArg (by decide)) (by kernel_rfl) rfl (rdf_nil _)))).mono (by
    rintro _ ⟨_, _, rfl, ⟨a, rfl⟩, _, _, rfl, ⟨l, rfl, _⟩, rfl⟩
    exact ⟨⟨a, l⟩, rfl⟩)
theorem rNode : RdT Tryz.prog 47 7 fun cs => ∃ a : NodeT, .agg cs = nodeV a :=
  (rd_struct (t := 47) (fs := (Tryz.prog.fieldsOf 47)) (by kernel_rfl) (by kernel_rfl) (rdf_cons (f := (Tryz.prog.fieldsOf 47)[0]!) (rInt (by kernel_rfl) (by kernel_rfl)) (by kernel_rfl) rfl (rdf_cons (f := (Tryz.prog.fieldsOf 47)[1]!) (rInt (by kernel_rfl) (by kernel_rfl)) (by kernel_rfl) rfl (rdf_cons (f := (Tryz.prog.fieldsOf 47)[2]!) (rInt (by kernel_rfl) (by kernel_rfl)) (by kernel_rfl) rfl (rdf_cons (f := (Tryz.prog.fieldsOf 47)[3]!) rVal (by kernel_rfl) rfl (rdf_nil _)))))).mono (by
    rintro _ ⟨_, _, rfl, ⟨a, rfl⟩, _, _, rfl, ⟨b, rfl⟩, _, _, rfl, ⟨c, rfl⟩, _, _, rfl, ⟨v, rfl⟩, rfl⟩
    exact ⟨⟨a, b, c, v⟩, rfl⟩)
theorem rQuant : RdT Tryz.prog 61 3 fun cs => ∃ a : QuantT, .agg cs = quantV a :=
  (rd_struct (t := 61) (fs := (Tryz.prog.fieldsOf 61)) (by kernel_rfl) (by kernel_rfl) (rdf_cons (f := (Tryz.prog.fieldsOf 61)[0]!) (rd_bool (by kernel_rfl) (by kernel_rfl)) (by kernel_rfl) rfl (rdf_cons (f := (Tryz.prog.fieldsOf 61)[1]!) (rStr (by kernel_rfl) (by kernel_rfl)) (by kernel_rfl) rfl (rdf_cons (f := (Tryz.prog.fieldsOf 61)[2]!) (rInt (by kernel_rfl) (by kernel_rfl)) (by kernel_rfl) rfl (rdf_nil _))))).mono (by
    rintro _ ⟨_, _, rfl, ⟨a, rfl⟩, _, _, rfl, ⟨b, rfl⟩, _, _, rfl, ⟨c, rfl⟩, rfl⟩
    exact ⟨⟨a, b, c⟩, rfl⟩)
theorem rFree : RdT Tryz.prog 45 5 fun cs => ∃ a : FreeT, .agg cs = freeV a :=
  (rd_struct (t := 45) (fs := (Tryz.prog.fieldsOf 45)) (by kernel_rfl) (by kernel_rfl) (rdf_cons (f := (Tryz.prog.fieldsOf 45)[0]!) (rStr (by kernel_rfl) (by kernel_rfl)) (by kernel_rfl) rfl (rdf_cons (f := (Tryz.prog.fieldsOf 45)[1]!) rVal (by kernel_rfl) rfl (rdf_nil _)))).mono (by
    rintro _ ⟨_, _, rfl, ⟨a, rfl⟩, _, _, rfl, ⟨v, rfl⟩, rfl⟩
    exact ⟨⟨a, v⟩, rfl⟩)
theorem rState : RdT Tryz.prog 52 3 fun cs => ∃ a : StateT, .agg cs = stateV a :=
  (rd_struct (t := 52) (fs := (Tryz.prog.fieldsOf 52)) (by kernel_rfl) (by kernel_rfl) (rdf_cons (f := (Tryz.prog.fieldsOf 52)[0]!) (rStr (by kernel_rfl) (by kernel_rfl)) (by kernel_rfl) rfl (rdf_cons (f := (Tryz.prog.fieldsOf 52)[1]!) (rd_bool (by kernel_rfl) (by kernel_rfl)) (by kernel_rfl) rfl (rdf_cons (f := (Tryz.prog.fieldsOf 52)[2]!) (rd_bool (by kernel_rfl) (by kernel_rfl)) (by kernel_rfl) rfl (rdf_nil _))))).mono (by
    rintro _ ⟨_, _, rfl, ⟨a, rfl⟩, _, _, rfl, ⟨b, rfl⟩, _, _, rfl, ⟨c, rfl⟩, rfl⟩
    exact ⟨⟨a, b, c⟩, rfl⟩)
theorem rSet : RdT Tryz.prog 79 2 fun cs => ∃ a : SetT, .agg cs = setV a :=
  (rd_struct (t := 79) (fs := (Tryz.prog.fieldsOf 79)) (by kernel_rfl) (by kernel_rfl) (rdf_cons (f := (Tryz.prog.fieldsOf 79)[0]!) (rInt (by kernel_rfl) (by kernel_rfl)) (by kernel_rfl) rfl (rdf_cons (f := (Tryz.prog.fieldsOf 79)[1]!) (rInt (by kernel_rfl) (by kernel_rfl)) (by kernel_rfl) rfl (rdf_nil _)))).mono (by
    rintro _ ⟨_, _, rfl, ⟨a, rfl⟩, _, _, rfl, ⟨b, rfl⟩, rfl⟩
    exact ⟨⟨a, b⟩, rfl⟩)
theorem rTrans : RdT Tryz.prog 50 5 fun cs => ∃ a : TransT, .agg cs = transV a :=
  (rd_struct (t := 50) (fs := (Tryz.prog.fieldsOf 50)) (by kernel_rfl) (by kernel_rfl) (rdf_cons (f := (Tryz.prog.fieldsOf 50)[0]!) (rInt (by kernel_rfl) (by kernel_rfl)) (by kernel_rfl) rfl (rdf_cons (f := (Tryz.prog.fieldsOf 50)[1]!) (rInt (by kernel_rfl) (by kernel_rfl)) (by kernel_rfl) rfl (rdf_cons (f := (Tryz.prog.fieldsOf 50)[2]!) (rInt (by kernel_rfl) (by kernel_rfl)) (by kernel_rfl) rfl (rdf_cons (f := (Tryz.prog.fieldsOf 50)[3]!) (rInt (by kernel_rfl) (by kernel_rfl)) (by kernel_rfl) rfl (rdf_cons (f := (Tryz.prog.fieldsOf 50)[4]!) (rd_list (t := 48) (by kernel_rfl) (by kernel_rfl) rSet (by decide)) (by kernel_rfl) rfl (rdf_nil _))))))).mono (by
    rintro _ ⟨_, _, rfl, ⟨a, rfl⟩, _, _, rfl, ⟨b, rfl⟩, _, _, rfl, ⟨c, rfl⟩, _, _, rfl, ⟨d, rfl⟩, _, _, rfl, ⟨l, rfl, _⟩, rfl⟩
    exact ⟨⟨a, b, c, d, l⟩, rfl⟩)
theorem rDecl : RdT Tryz.prog 36 2 fun cs => ∃ a : DeclT, .agg cs = declV a :=
  (rd_struct (t := 36) (fs := (Tryz.prog.fieldsOf 36)) (by kernel_rfl) (by kernel_rfl) (rdf_cons (f := (Tryz.prog.fieldsOf 36)[0]!) (rStr (by kernel_rfl) (by kernel_rfl)) (by kernel_rfl) rfl (rdf_cons (f := (Tryz.prog.fieldsOf 36)[1]!) (rInts (t := 34) (e := 3) (by kernel_rfl) (by kernel_rfl) (by kernel_rfl) (by kernel_rfl)) (by kernel_rfl) rfl (rdf_nil _)))).mono (by
    rintro _ ⟨_, _, rfl, ⟨a, rfl⟩, _, _, rfl, ⟨l, rfl, _⟩, rfl⟩
    exact ⟨⟨a, l⟩, rfl⟩)
theorem rQea : RdT Tryz.prog 30 9 fun cs => ∃ q : QeaT, .agg cs = qeaV q :=
  (rd_struct (t := 30) (fs := (Tryz.prog.fieldsOf 30)) (by kernel_rfl) (by kernel_rfl) (rdf_cons (f := (Tryz.prog.fieldsOf 30)[0]!) (rStr (by kernel_rfl) (by kernel_rfl)) (by kernel_rfl) rfl (rdf_cons (f := (Tryz.prog.fieldsOf 30)[1]!) (rd_list (t := 22) (by kernel_rfl) (by kernel_rfl) rDecl (by decide)) (by kernel_rfl) rfl (rdf_cons (f := (Tryz.prog.fieldsOf 30)[2]!) (rd_list (t := 23) (by kernel_rfl) (by kernel_rfl) rQuant (by decide)) (by kernel_rfl) rfl (rdf_cons (f := (Tryz.prog.fieldsOf 30)[3]!) (rd_list (t := 24) (by kernel_rfl) (by kernel_rfl) rFree (by decide)) (by kernel_rfl) rfl (rdf_cons (f := (Tryz.prog.fieldsOf 30)[4]!) (rd_list (t := 25) (by kernel_rfl) (by kernel_rfl) rState (by decide)) (by kernel_rfl) rfl (rdf_cons (f := (Tryz.prog.fieldsOf 30)[5]!) (rInt (by kernel_rfl) (by kernel_rfl)) (by kernel_rfl) rfl (rdf_cons (f := (Tryz.prog.fieldsOf 30)[6]!) (rd_list (t := 26) (by kernel_rfl) (by kernel_rfl) rSym (by decide)) (by kernel_rfl) rfl (rdf_cons (f := (Tryz.prog.fieldsOf 30)[7]!) (rd_list (t := 27) (by kernel_rfl) (by kernel_rfl) rNode (by decide)) (by kernel_rfl) rfl (rdf_cons (f := (Tryz.prog.fieldsOf 30)[8]!) (rd_list (t := 28) (by kernel_rfl) (by kernel_rfl) rTrans (by decide)) (by kernel_rfl) rfl (rdf_nil _))))))))))).mono (by
    rintro _ ⟨_, _, rfl, ⟨a, rfl⟩, _, _, rfl, ⟨l1, rfl, _⟩, _, _, rfl, ⟨l2, rfl, _⟩, _, _, rfl, ⟨l3, rfl, _⟩, _, _, rfl, ⟨l4, rfl, _⟩, _, _, rfl, ⟨s, rfl⟩, _, _, rfl, ⟨l5, rfl, _⟩, _, _, rfl, ⟨l6, rfl, _⟩, _, _, rfl, ⟨l7, rfl, _⟩, rfl⟩
    exact ⟨⟨a, l1, l2, l3, l4, s, l5, l6, l7⟩, rfl⟩)
end Go.Proofs.YtdfdiglnpekcpaaGreatDoor.Ab
