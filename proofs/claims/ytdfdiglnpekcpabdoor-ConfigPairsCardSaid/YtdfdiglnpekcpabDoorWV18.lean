/-
  How the arguments of the laws on configurations are read. No claim is proved here.
-/
import Derived.Test.YtdfdiglnpekcpabDoorWV14
import Derived.Test.YtdfdiglnpekcpabDoorWC1
namespace Go.Proofs.YtdfdiglnpekcpabDoor.Ab
open Go Go.ChangeShapes Go.WideShapes Go.RowKit
set_option linter.unusedSimpArgs false
set_option maxRecDepth 100000
theorem rCfg64 : RdT Tryd.prog 39 2 fun cs => ∃ c : CfgT, .agg cs = cfgV c ∧ ∀ v ∈ c.vals, i64 v.int :=
  (rd_struct (t := 39) (fs := (Tryd.prog.fieldsOf 39)) (by kernel_rfl) (by kernel_rfl) (rdf_cons (f := (Tryd.prog.fieldsOf 39)[0]!) (rInt (by kernel_rfl) (by kernel_rfl)) (by kernel_rfl) rfl (rdf_cons (f := (Tryd.prog.fieldsOf 39)[1]!) rVals (by kernel_rfl) rfl (rdf_nil _)))).mono (by
    rintro _ ⟨_, _, rfl, ⟨a, rfl⟩, _, _, rfl, ⟨⟨l, hl⟩, rfl⟩, rfl⟩
    exact ⟨⟨a, l⟩, rfl, hl⟩)
theorem rCfgs : RdT Tryd.prog 31 1 fun cs => ∃ l : {l : List CfgT // ∀ c ∈ l, ∀ v ∈ c.vals, i64 v.int}, cs = [cfgsV l.1] :=
  (rd_listQ (by kernel_rfl) (by kernel_rfl) rCfg64 (by decide)).mono (by
    rintro _ ⟨l, rfl, _, h⟩
    exact ⟨⟨l, h⟩, rfl⟩)
end Go.Proofs.YtdfdiglnpekcpabDoor.Ab
