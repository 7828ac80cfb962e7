/-
  How outcomes are read. No claim is proved here.
-/
import Derived.Test.YtgdlgdchdohdoaaGreatDoorQBj4
import Derived.Test.YtgdlgdchdohdoaaGreatDoorQAbTrod
namespace Go.Proofs.YtgdlgdchdohdoaaGreatDoor.Ab
open Go Go.ChangeShapes Go.WideShapes Go.RowKit
set_option linter.unusedSimpArgs false
set_option maxRecDepth 100000
theorem rInts : RdT Tryz.prog 24 1 fun cs => ∃ l : List Int, cs = [.seq 1 (l.map iv)] :=
  (rd_slice (e := 3) false (by kernel_rfl) (by kernel_rfl) (rd_int (by kernel_rfl) (by kernel_rfl)) (by decide) (by rintro - _ ⟨n, rfl, _⟩; exact ⟨_, rfl, rfl⟩)).mono (by
    rintro _ ⟨es, rfl, hl, h⟩
    obtain ⟨l, rfl⟩ := list_of (f := iv) (fun x hx => by obtain ⟨_, ⟨n, rfl, _⟩, rfl⟩ := h x hx; exact ⟨n, rfl⟩)
    exact ⟨l, rfl⟩)
theorem rInt {t : Nat} (ht : Tryz.prog.underlying t = some (.int .i64)) (hs : Tryz.prog.cellsOf t = 1) : RdT Tryz.prog t 1 fun cs => ∃ n : Int, cs = [iv n] :=
  (rd_int ht hs).mono (by rintro _ ⟨n, rfl, _⟩; exact ⟨n, rfl⟩)
theorem rFail : RdT Tryz.prog 27 3 fun cs => ∃ a b c : Int, cs = [iv a, iv b, iv c] :=
  (rd_struct (fs := (Tryz.prog.fieldsOf 27)) (by kernel_rfl) (by kernel_rfl) (rdf_cons (f := (Tryz.prog.fieldsOf 27)[0]!) (rInt (by kernel_rfl) (by kernel_rfl)) (by kernel_rfl) rfl
    (rdf_cons (f := (Tryz.prog.fieldsOf 27)[1]!) (rInt (by kernel_rfl) (by kernel_rfl)) (by kernel_rfl) rfl (rdf_cons (f := (Tryz.prog.fieldsOf 27)[2]!) (rInt (by kernel_rfl) (by kernel_rfl)) (by kernel_rfl) rfl (rdf_nil _))))).mono (by
    rintro _ ⟨_, _, rfl, ⟨a, rfl⟩, _, _, rfl, ⟨b, rfl⟩, _, _, rfl, ⟨c, rfl⟩, rfl⟩
    exact ⟨a, b, c, rfl⟩)
theorem rOc : RdT Tryz.prog 29 5 fun cs => ∃ o : Oc, .agg cs = ocV o :=
  (rd_struct (fs := (Tryz.prog.fieldsOf 29)) (by kernel_rfl) (by kernel_rfl) (rdf_cons (f := (Tryz.prog.fieldsOf 29)[0]!) rInts (by kernel_rfl) rfl
    (rdf_cons (f := (Tryz.prog.fieldsOf 29)[1]!) (rInt (by kernel_rfl) (by kernel_rfl)) (by kernel_rfl) rfl (rdf_cons (f := (Tryz.prog.fieldsOf 29)[2]!) rFail (by kernel_rfl) rfl (rdf_nil _))))).mono (by
    rintro _ ⟨_, _, rfl, ⟨l, rfl⟩, _, _, rfl, ⟨p, rfl⟩, _, _, rfl, ⟨a, b, c, rfl⟩, rfl⟩
    exact ⟨⟨l, p, a, b, c⟩, rfl⟩)
theorem rOcs : RdT Tryz.prog 22 1 fun cs => ∃ l : List Oc, cs = [ocsV l] :=
  (rd_slice (e := 29) true (by kernel_rfl) (by kernel_rfl) rOc (by decide) (by intro h; cases h)).mono (by
    rintro _ ⟨es, rfl, hl, h⟩
    obtain ⟨l, rfl⟩ := list_of (f := ocV) (fun x hx => by obtain ⟨_, ⟨o, e⟩, rfl⟩ := h x hx; exact ⟨o, e⟩)
    exact ⟨l, rfl⟩)
/-- A listed variable that is a type's handle, wherever it stands. -/
theorem handle_at {W : World} {u : Nat} {x : Value} (h : W.var? Tryz.prog "errors.errorType" = some #[.iface u (.agg #[x])]) {e : AV} (hx : ∀ F nm, Rd W F nm e x) : Rd W (oldF W) noNames (.eptr (.iface u (.agg [e])) 0) (.pointer (some ⟨1, 0, none⟩)) ∧ WholeV W 1 (.iface u (.agg [e])) := by
  have hg : Tryz.prog.globalNamed "errors.errorType" = some 1 := by kernel_rfl
  simp only [World.var?, hg, Option.bind_some] at h
  split at h
  · rename_i cs t fz hb
    simp only [Option.some.injEq] at h
    subst h
    refine ⟨?_, _, t, fz, hb, rfl⟩
    have key := Rd.eptr (w := W) (F := oldF W) noNames (.iface u (.agg [e])) 0 1 0 (fun _ => .iface u (.agg #[x])) (Array.getElem?_eq_some_iff.1 hb).1
      (fun p hp => by
        have : p = 0 := by simp [AV.cells] at hp; omega
        subst this
        simp [World.cell?, hb])
      (fun p hp => rfl)
      (fun j c hj => by
        match j, hj with
        | 0, hj => cases hj; exact .iface _ _ _ _ (.agg _ [_] [_] rfl fun j c z hc hz => by
            match j, hc, hz with
            | 0, hc, hz => cases hc; cases hz; exact hx _ _))
    simpa using key
  · cases h
end Go.Proofs.YtgdlgdchdohdoaaGreatDoor.Ab
