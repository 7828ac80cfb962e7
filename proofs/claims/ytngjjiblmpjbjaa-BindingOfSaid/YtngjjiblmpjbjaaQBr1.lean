/-
  How the arguments of the laws on bindings are read. No claim is proved here.
-/
import Derived.Test.YtngjjiblmpjbjaaQBp3
import Derived.Test.YtngjjiblmpjbjaaQAbTrod
namespace Go.Proofs.Ytngjjiblmpjbjaa.Ab
open Go Go.ChangeShapes Go.WideShapes Go.RowKit
set_option linter.unusedSimpArgs false
set_option maxRecDepth 100000
theorem rInt {t : Nat} (ht : Try.prog.underlying t = some (.int .i64)) (hs : Try.prog.cellsOf t = 1) : RdT Try.prog t 1 fun cs => ∃ n : Int, cs = [iv n] :=
  (rd_int ht hs).mono (by rintro _ ⟨n, rfl, _⟩; exact ⟨n, rfl⟩)
theorem rStr {t : Nat} (ht : Try.prog.underlying t = some .string) (hs : Try.prog.cellsOf t = 1) : RdT Try.prog t 1 fun cs => ∃ s : Str, cs = [.str s] :=
  (rd_str ht hs).mono (by rintro _ ⟨n, rfl, _⟩; exact ⟨n, rfl⟩)
theorem rd_list {α : Type} {f : α → AV} {t e sz : Nat} (ht : Try.prog.underlying t = some (.slice e)) (hs : Try.prog.cellsOf t = 1) (h : RdT Try.prog e sz fun cs => ∃ a : α, .agg cs = f a) (h0 : 0 < sz) :
    RdT Try.prog t 1 fun cs => ∃ l : List α, cs = [.seq sz (l.map f)] ∧ l.length ≤ maxLen :=
  (rd_slice true ht hs h h0 (by intro h; cases h)).mono (by
    rintro _ ⟨es, rfl, hl, h⟩
    obtain ⟨l, rfl⟩ := list_of (f := f) (fun x hx => by obtain ⟨_, ⟨o, e⟩, rfl⟩ := h x hx; exact ⟨o, e⟩)
    exact ⟨l, rfl, by simpa using hl⟩)
theorem rValP : RdT Try.prog 28 4 fun cs => ∃ v : Val, cs = [iv v.kind, iv v.int, .str v.str, .bool v.bool] :=
  (rd_struct (t := 28) (fs := (Try.prog.fieldsOf 28)) (by kernel_rfl) (by kernel_rfl) (rdf_cons (f := (Try.prog.fieldsOf 28)[0]!) (rInt (by kernel_rfl) (by kernel_rfl)) (by kernel_rfl) rfl (rdf_cons (f := (Try.prog.fieldsOf 28)[1]!) (rInt (by kernel_rfl) (by kernel_rfl)) (by kernel_rfl) rfl (rdf_cons (f := (Try.prog.fieldsOf 28)[2]!) (rStr (by kernel_rfl) (by kernel_rfl)) (by kernel_rfl) rfl (rdf_cons (f := (Try.prog.fieldsOf 28)[3]!) (rd_bool (by kernel_rfl) (by kernel_rfl)) (by kernel_rfl) rfl (rdf_nil _)))))).mono (by
    rintro _ ⟨_, _, rfl, ⟨a, rfl⟩, _, _, rfl, ⟨b, rfl⟩, _, _, rfl, ⟨c, rfl⟩, _, _, rfl, ⟨d, rfl⟩, rfl⟩
    exact ⟨⟨a, b, c, d⟩, rfl⟩)
theorem rSlotP : RdT Try.prog 32 5 fun cs => ∃ a : SlotT, .agg cs = slotV a :=
  (rd_struct (t := 32) (fs := (Try.prog.fieldsOf 32)) (by kernel_rfl) (by kernel_rfl) (rdf_cons (f := (Try.prog.fieldsOf 32)[0]!) (rInt (by kernel_rfl) (by kernel_rfl)) (by kernel_rfl) rfl (rdf_cons (f := (Try.prog.fieldsOf 32)[1]!) rValP (by kernel_rfl) rfl (rdf_nil _)))).mono (by
    rintro _ ⟨_, _, rfl, ⟨a, rfl⟩, _, _, rfl, ⟨v, rfl⟩, rfl⟩
    exact ⟨⟨a, v⟩, rfl⟩)
theorem rSlotsP : RdT Try.prog 22 1 fun cs => ∃ l : List SlotT, cs = [slotsV l] :=
  (rd_list (t := 22) (by kernel_rfl) (by kernel_rfl) rSlotP (by decide)).mono (by
    rintro _ ⟨l, rfl, _⟩
    exact ⟨l, rfl⟩)
end Go.Proofs.Ytngjjiblmpjbjaa.Ab
