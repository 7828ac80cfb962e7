/-
  It is proved that proctorlaw42.ReportBest returns true for every list of integers and every list of outcomes and turns nothing that was there (Rows.ReportBestSaid), with no condition.
-/
import Derived.Test.YtdfdiglnpekcpaaRows
import Derived.Test.YtdfdiglnpekcpaaB6
import Derived.Test.YtdfdiglnpekcpaaAbTrod
namespace Go.Proofs.Ytdfdiglnpekcpaa.reportBest
open Go.ChangeShapes Go.WideShapes Go.ChangeAt Go.RowKit Go.Proofs.Ytdfdiglnpekcpaa.Ab

theorem own : ownKnob Try.prog.godebug = none := by kernel_rfl
theorem laidOut : laidOutB Try.prog = true := by kernel_rfl

theorem rInts : RdT Try.prog 27 1 fun cs => ∃ l : List Int, cs = [ivs l] ∧ l.length ≤ maxLen :=
  (rd_slice (e := 3) false (by kernel_rfl) (by kernel_rfl) (rd_int (by kernel_rfl) (by kernel_rfl)) (by decide) (by rintro - _ ⟨n, rfl, _⟩; exact ⟨_, rfl, rfl⟩)).mono (by
    rintro _ ⟨es, rfl, hl, h⟩
    obtain ⟨l, rfl⟩ := list_of (f := iv) (fun x hx => by obtain ⟨_, ⟨n, rfl, _⟩, rfl⟩ := h x hx; exact ⟨n, rfl⟩)
    exact ⟨l, rfl, by simpa using hl⟩)
theorem rInt {t : Nat} (ht : Try.prog.underlying t = some (.int .i64)) (hs : Try.prog.cellsOf t = 1) : RdT Try.prog t 1 fun cs => ∃ n : Int, cs = [iv n] :=
  (rd_int ht hs).mono (by rintro _ ⟨n, rfl, _⟩; exact ⟨n, rfl⟩)
theorem rFail : RdT Try.prog 31 3 fun cs => ∃ a b c : Int, cs = [iv a, iv b, iv c] :=
  (rd_struct (fs := (Try.prog.fieldsOf 31)) (by kernel_rfl) (by kernel_rfl) (rdf_cons (f := (Try.prog.fieldsOf 31)[0]!) (rInt (by kernel_rfl) (by kernel_rfl)) (by kernel_rfl) rfl
    (rdf_cons (f := (Try.prog.fieldsOf 31)[1]!) (rInt (by kernel_rfl) (by kernel_rfl)) (by kernel_rfl) rfl (rdf_cons (f := (Try.prog.fieldsOf 31)[2]!) (rInt (by kernel_rfl) (by kernel_rfl)) (by kernel_rfl) rfl (rdf_nil _))))).mono (by
    rintro _ ⟨_, _, rfl, ⟨a, rfl⟩, _, _, rfl, ⟨b, rfl⟩, _, _, rfl, ⟨c, rfl⟩, rfl⟩
    exact ⟨a, b, c, rfl⟩)
theorem rOc : RdT Try.prog 33 5 fun cs => ∃ o : Oc, .agg cs = ocV o ∧ o.vs.length ≤ maxLen :=
  (rd_struct (fs := (Try.prog.fieldsOf 33)) (by kernel_rfl) (by kernel_rfl) (rdf_cons (f := (Try.prog.fieldsOf 33)[0]!) rInts (by kernel_rfl) rfl
    (rdf_cons (f := (Try.prog.fieldsOf 33)[1]!) (rInt (by kernel_rfl) (by kernel_rfl)) (by kernel_rfl) rfl (rdf_cons (f := (Try.prog.fieldsOf 33)[2]!) rFail (by kernel_rfl) rfl (rdf_nil _))))).mono (by
    rintro _ ⟨_, _, rfl, ⟨l, rfl, hl⟩, _, _, rfl, ⟨p, rfl⟩, _, _, rfl, ⟨a, b, c, rfl⟩, rfl⟩
    exact ⟨⟨l, p, a, b, c⟩, rfl, hl⟩)
theorem rOcs : RdT Try.prog 28 1 fun cs => ∃ l : List Oc, cs = [ocsV l] :=
  (rd_slice (e := 33) true (by kernel_rfl) (by kernel_rfl) rOc (by decide) (by intro h; cases h)).mono (by
    rintro _ ⟨es, rfl, hl, h⟩
    obtain ⟨l, rfl⟩ := list_of (f := ocV) (fun x hx => by obtain ⟨_, ⟨o, e, _⟩, rfl⟩ := h x hx; exact ⟨o, e⟩)
    exact ⟨l, rfl⟩)

theorem walk {a0 a1 : AV} {v0 v1 : Value} {w : World} (h0 : ∃ l : List Int, [a0] = [ivs l] ∧ l.length ≤ maxLen) (h1 : ∃ l : List Oc, [a1] = [ocsV l]) (r0 : Rd w (oldF w) noNames a0 v0) (r1 : Rd w (oldF w) noNames a1 v1) :
    Calls Try.prog 4 #[v0, v1] w fun e w' => e = .returned (.bool true) ∧ Below w.heap.size w w' := by
  obtain ⟨l, e0, -⟩ := h0
  obtain ⟨os, e1⟩ := h1
  cases e0
  cases e1
  exact (ReportBest_pc l os).calls_true (fun _ h => h) (argsR_cons r0 (argsR_cons r1 argsR_nil))

set_option maxRecDepth 100000 in
theorem lifted (os : Os) (started : os.Started) (H : Type) (enc : TypeId × Value → H) :
    ReturnsInHanded {} Try.checked os 4 .any (Rows.reportBestSpec.pre6 enc Try.prog Try.f4 Rows.reportBestRow.domain false) (Rows.reportBestSpec.post enc Try.prog Try.f4 false true false false) := by
  refine returnsInHanded_of_change (C := Try.checked) own started (by kernel_rfl) Try.func4
    (ChangeSpec.witness6 (enc := enc) (C := Try.checked) false ⟨#[], #[.slice none 0 0, .slice none 0 0], []⟩ 8 (by kernel_rfl) (by kernel_rfl) (by kernel_rfl) (by kernel_rfl)) ?_
  intro W base args ds gs before hval0 hW hcnd _
  have hval : ∀ (j : Nat) t v, Try.f4.params[j]? = some t → args[j]? = some v → Value.okWide Try.prog W .any base t v := hval0
  have hW' := hW
  obtain ⟨p, q, hA0, hV, rfl, hfz, hnd⟩ := hW
  have hA : DataW.TrodAll enc Try.prog W 0 (fun _ => true) true Try.f4.params.toList args.toList ds p := hA0
  have hparams : Try.f4.params.toList = [27, 28] := by kernel_rfl
  have hAll := hA
  rw [hparams] at hA
  obtain ⟨v0, vs0, d0, ds0, p0, q0, hargs, rfl, rfl, h0, r0⟩ := trodAll_cons hA
  obtain ⟨v1, vs1, d1, ds1, p1, q1, rfl, rfl, rfl, h1, r1⟩ := trodAll_cons r0
  obtain ⟨rfl, rfl, rfl⟩ := trodAll_nil r1
  obtain rfl : args = #[v0, v1] := by cases args; simp_all
  obtain ⟨rfl, rfl⟩ := trodVars_none hV
  obtain ⟨s0, n0, c0, rfl⟩ := okWide_slice (e := 3) (by kernel_rfl) (hval 0 27 v0 (by kernel_rfl) rfl)
  obtain ⟨s1, n1, c1, rfl⟩ := okWide_slice (e := 33) (by kernel_rfl) (hval 1 28 v1 (by kernel_rfl) rfl)
  obtain ⟨a0, g0, k0⟩ := open_leaf rInts rfl h0
  obtain ⟨a1, g1, k1⟩ := open_leaf rOcs rfl h1
  have hlt := hW'.lt
  refine (walk g0 g1 k0 k1).mono fun e W' ⟨he, hb⟩ => ?_
  subst he
  refine ⟨_, rfl, Ab.post_of_below (pa := p0 ++ (p1 ++ [])) (pv := []) hW' (fun _ _ _ => ?_) (fun sp hs => ?_) (fun _ _ => rfl) rfl hb (ok_one (by kernel_rfl) rfl (okWide_bool_mk (t := 4) (by kernel_rfl) _))⟩
  · exact trodAll_cons_mk (shut_bool (t := 4) (by kernel_rfl) _) trodAll_mk0
  · refine args_stay laidOut hb ?_ hAll (fun x hx => hlt x (by simpa using hx)) sp (fun x hx => hs x (by simpa using hx))
    rw [hparams]
    kernel_rfl

theorem over : Rows.reportBestRow.holds Try.pinned (OpenSpec.ofChange Rows.reportBestSpec) :=
  OpenClaim.holds_of_wide 4 Try.f4 rfl rfl rfl rfl rfl rfl rfl ⟨rfl, rfl, rfl, rfl, rfl⟩ rfl rfl rfl rfl rfl (by kernel_rfl) Try.func4 (by kernel_rfl)
    (of_decide_eq_true (by kernel_rfl)) (by unfold Func.isWrapper; first | (rw [if_pos (by decide +kernel)]; kernel_rfl) | (rw [if_neg (by decide +kernel)]; exact ⟨rfl, rfl⟩))
    (fun os started H enc _ => lifted os started H enc)

/-- The statement. -/
theorem proved : Rows.ReportBestSaid :=
  over
#print axioms proved
end Go.Proofs.Ytdfdiglnpekcpaa.reportBest
