/-
  Variables that are laid, as the reading of known variables has them. How an automaton is read. How the law's arguments are read. No claim is proved here.
-/
import Derived.Test.YtdfdiglnpekcpabDoorWAbTrod
import Derived.FnData
import Derived.Test.YtdfdiglnpekcpabDoorWN0
import Derived.Test.YtdfdiglnpekcpabDoorWD7
import Derived.Test.YtdfdiglnpekcpabDoorWV13
import Derived.LaidMore
import Derived.LaidHandle
namespace Go.Proofs.YtdfdiglnpekcpabDoor.Ab
open Go Go.RowKit Go.ChangeShapes Go.WideShapes
/-- A law's contract, in the row's words, where variables are known. -/
theorem PureC.calls_trueG {P : Program} {G : Nat → Option AV} {f : Nat} {args : List AV} (h : PureC P G f args (.bool true)) {w : World} {F : Nat → Prop} {vs : Array Value} (hg : Good w F G) (ha : ArgsR w F args vs) :
    Calls P f vs w fun e w' => e = .returned (.bool true) ∧ Below w.heap.size w w' := by
  refine (h w F vs hg ha).mono ?_
  rintro e w' ⟨v, F', rfl, _, _, _, hr, hb⟩
  cases hr
  exact ⟨rfl, hb⟩
end Go.Proofs.YtdfdiglnpekcpabDoor.Ab
namespace Go.Proofs.YtdfdiglnpekcpabDoor.Ab
open Go Go.ChangeShapes Go.WideShapes Go.RowKit
set_option maxRecDepth 100000
theorem rInt {t : Nat} (ht : Tryd.prog.underlying t = some (.int .i64)) (hs : Tryd.prog.cellsOf t = 1) : RdT Tryd.prog t 1 fun cs => ∃ n : Int, cs = [iv n] :=
  (rd_int ht hs).mono (by rintro _ ⟨n, rfl, _⟩; exact ⟨n, rfl⟩)
theorem rStr {t : Nat} (ht : Tryd.prog.underlying t = some .string) (hs : Tryd.prog.cellsOf t = 1) : RdT Tryd.prog t 1 fun cs => ∃ s : Str, cs = [.str s] :=
  (rd_str ht hs).mono (by rintro _ ⟨n, rfl, _⟩; exact ⟨n, rfl⟩)
end Go.Proofs.YtdfdiglnpekcpabDoor.Ab
namespace Go.Proofs.YtdfdiglnpekcpabDoor.Ab
open Go Go.ChangeShapes Go.WideShapes Go.RowKit
set_option linter.unusedSimpArgs false
set_option maxRecDepth 100000
theorem i64_wf {n : Int} (h : (Lit.int .i64 n).wf = true) : i64 n := by
  simp [Lit.wf, IntKind.min, IntKind.max, IntKind.signed, IntKind.bits] at h
  exact ⟨h.1, by omega⟩
theorem rd_listQ {α : Type} {f : α → AV} {Q : α → Prop} {t e sz : Nat} (ht : Tryd.prog.underlying t = some (.slice e)) (hs : Tryd.prog.cellsOf t = 1) (h : RdT Tryd.prog e sz fun cs => ∃ a : α, .agg cs = f a ∧ Q a) (h0 : 0 < sz) :
    RdT Tryd.prog t 1 fun cs => ∃ l : List α, cs = [.seq sz (l.map f)] ∧ l.length ≤ maxLen ∧ ∀ a ∈ l, Q a :=
  (rd_slice true ht hs h h0 (by intro h; cases h)).mono (by
    rintro _ ⟨es, rfl, hl, h⟩
    obtain ⟨l, rfl, hq⟩ := list_of' (f := f) (Q := Q) (fun x hx => by obtain ⟨_, ⟨o, e, q⟩, rfl⟩ := h x hx; exact ⟨o, e, q⟩)
    exact ⟨l, rfl, by simpa using hl, hq⟩)
theorem rVal64 : RdT Tryd.prog 46 4 fun cs => ∃ v : Val, cs = [iv v.kind, iv v.int, .str v.str, .bool v.bool] ∧ i64 v.int :=
  (rd_struct (t := 46) (fs := (Tryd.prog.fieldsOf 46)) (by kernel_rfl) (by kernel_rfl) (rdf_cons (f := (Tryd.prog.fieldsOf 46)[0]!) (rInt (by kernel_rfl) (by kernel_rfl)) (by kernel_rfl) rfl (rdf_cons (f := (Tryd.prog.fieldsOf 46)[1]!) (rd_int (by kernel_rfl) (by kernel_rfl)) (by kernel_rfl) rfl (rdf_cons (f := (Tryd.prog.fieldsOf 46)[2]!) (rStr (by kernel_rfl) (by kernel_rfl)) (by kernel_rfl) rfl (rdf_cons (f := (Tryd.prog.fieldsOf 46)[3]!) (rd_bool (by kernel_rfl) (by kernel_rfl)) (by kernel_rfl) rfl (rdf_nil _)))))).mono (by
    rintro _ ⟨_, _, rfl, ⟨a, rfl⟩, _, _, rfl, ⟨b, rfl, hb⟩, _, _, rfl, ⟨c, rfl⟩, _, _, rfl, ⟨d, rfl⟩, rfl⟩
    exact ⟨⟨a, b, c, d⟩, rfl, i64_wf hb⟩)
theorem rValA : RdT Tryd.prog 46 4 fun cs => ∃ v : Val, .agg cs = valV v ∧ i64 v.int := rVal64.mono (by
  rintro _ ⟨v, rfl, hv⟩
  exact ⟨v, rfl, hv⟩)
theorem rSlot64 : RdT Tryd.prog 55 5 fun cs => ∃ a : SlotT, .agg cs = slotV a ∧ i64 a.value.int :=
  (rd_struct (t := 55) (fs := (Tryd.prog.fieldsOf 55)) (by kernel_rfl) (by kernel_rfl) (rdf_cons (f := (Tryd.prog.fieldsOf 55)[0]!) (rInt (by kernel_rfl) (by kernel_rfl)) (by kernel_rfl) rfl (rdf_cons (f := (Tryd.prog.fieldsOf 55)[1]!) rVal64 (by kernel_rfl) rfl (rdf_nil _)))).mono (by
    rintro _ ⟨_, _, rfl, ⟨a, rfl⟩, _, _, rfl, ⟨v, rfl, hv⟩, rfl⟩
    exact ⟨⟨a, v⟩, rfl, hv⟩)
theorem rSlots : RdT Tryd.prog 43 1 fun cs => ∃ l : {l : List SlotT // ∀ s ∈ l, i64 s.value.int}, cs = [slotsV l.1] :=
  (rd_listQ (by kernel_rfl) (by kernel_rfl) rSlot64 (by decide)).mono (by
    rintro _ ⟨l, rfl, _, h⟩
    exact ⟨⟨l, h⟩, rfl⟩)
theorem rVals : RdT Tryd.prog 37 1 fun cs => ∃ l : {l : List Val // ∀ v ∈ l, i64 v.int}, cs = [valsV l.1] :=
  (rd_listQ (by kernel_rfl) (by kernel_rfl) rValA (by decide)).mono (by
    rintro _ ⟨l, rfl, _, h⟩
    exact ⟨⟨l, h⟩, rfl⟩)
/-- A listed variable that is a type's handle. -/
theorem handle_laid {W : World} {u : Nat} {x : Value} (h : W.var? Tryd.prog "errors.errorType" = some #[.iface u (.agg #[x])]) {e : AV} (hx : ∀ F nm, Rd W F nm e x) : Rd W (oldF W) noNames (.eptr (.iface u (.agg [e])) 0) (.pointer (some ⟨0, 0, none⟩)) ∧ WholeV W 0 (.iface u (.agg [e])) := by
  have hg : Tryd.prog.globalNamed "errors.errorType" = some 0 := by kernel_rfl
  simp only [World.var?, hg, Option.bind_some] at h
  split at h
  · rename_i cs t fz hb
    simp only [Option.some.injEq] at h
    subst h
    refine ⟨?_, _, t, fz, hb, rfl⟩
    have key := Rd.eptr (w := W) (F := oldF W) noNames (.iface u (.agg [e])) 0 0 0 (fun _ => .iface u (.agg #[x])) (Array.getElem?_eq_some_iff.1 hb).1
      (fun p hp => by
        have : p = 0 := by simp [AV.cells] at hp; omega
        subst this
        simp [World.cell?, hb])
      (fun p hp => rfl)
      (fun j c hj => by
        match j, hj with
        | 0, hj => cases hj; exact .iface _ _ _ _ (.agg _ [_] [_] rfl fun j c z hc hz => by
            match j, hc, hz with
            | 0, hc, hz => cases hc; cases hz; exact hx _ _))
    simpa using key
  · cases h
end Go.Proofs.YtdfdiglnpekcpabDoor.Ab
