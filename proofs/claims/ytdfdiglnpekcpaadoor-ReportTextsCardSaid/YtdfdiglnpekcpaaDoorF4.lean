/-
  It is proved that proctorlaw42.ReportTexts returns true for every outcome and turns nothing that was there, where the listed variables hold what the program's text lays in them; and the card that ties this (Rows.ReportTextsCardSaid).
-/
import Derived.Test.YtdfdiglnpekcpaaDoorRows
import Derived.Test.YtdfdiglnpekcpaaDoorCards
import Derived.Test.YtdfdiglnpekcpaaDoorTie
import Derived.Test.YtdfdiglnpekcpaaDoorN9
import Derived.Test.YtdfdiglnpekcpaaDoorAbTrod
import Derived.Test.YtdfdiglnpekcpaaDoorAbLaid
import Derived.MakeChecks
import Derived.LaidMore
import Derived.LaidHandle
namespace Go.Proofs.YtdfdiglnpekcpaaDoor.reportTexts
open Go.ChangeShapes Go.WideShapes Go.ChangeAt Go.RowKit Go.Proofs.YtdfdiglnpekcpaaDoor.Ab

theorem own : ownKnob Tryd.prog.godebug = none := by kernel_rfl
theorem laidOut : laidOutB Tryd.prog = true := by kernel_rfl
def laidL : List (String × DataW Unit) := [("math/bits.deBruijn32tab", Rows.laid_math_bits_deBruijn32tab), ("math/bits.deBruijn64tab", Rows.laid_math_bits_deBruijn64tab), ("internal/strconv.uint64pow10", Rows.laid_internal_strconv_uint64pow10), ("proctor/verdict.names", Rows.laid_proctor_verdict_names), ("proctor/report.wheres", Rows.laid_proctor_report_wheres)]
def Gw (g : Nat) : Option AV := if g = 3 then some (.agg (Lib.pow10Tab.map (AV.int .u64))) else if g = 1 then some (.agg (nameL.map AV.str)) else if g = 0 then some (.agg (whereL.map AV.str)) else none
theorem good_laid {W : World} (h : laidMetH Tryd.prog laidL W) : Ab.Good W (oldF W) Gw := by
  rw [MakeChecks.laidMetH_plain _ _ _ (by kernel_rfl)] at h
  refine ⟨fun b hb => hb, fun g e he => ?_⟩
  unfold Gw at he
  split at he
  · rename_i hg; subst hg; cases he
    obtain ⟨g, t, cs, fuel, p, hg, ht, hcell, hwv, hd⟩ := laid_at 2 h rfl
    obtain rfl := Option.some.inj ((show Tryd.prog.globalNamed "internal/strconv.uint64pow10" = some 3 by kernel_rfl).symm.trans hg)
    obtain rfl := Option.some.inj ((show (Tryd.prog.globals[3]?).map (·.type) = some 183 by kernel_rfl).symm.trans ht)
    exact ints_laid (k := .u64) (l := Lib.pow10Tab) (e := 167) (by decide) (by kernel_rfl) (by kernel_rfl) (by kernel_rfl) (by kernel_rfl) hcell hwv hd
  split at he
  · rename_i hg; subst hg; cases he
    obtain ⟨g, t, cs, fuel, p, hg, ht, hcell, hwv, hd⟩ := laid_at 3 h rfl
    obtain rfl := Option.some.inj ((show Tryd.prog.globalNamed "proctor/verdict.names" = some 1 by kernel_rfl).symm.trans hg)
    obtain rfl := Option.some.inj ((show (Tryd.prog.globals[1]?).map (·.type) = some 106 by kernel_rfl).symm.trans ht)
    exact strs_laid (l := nameL) (e := 9) (by decide) (by kernel_rfl) (by kernel_rfl) (by kernel_rfl) (by kernel_rfl) hcell hwv hd
  split at he
  · rename_i hg; subst hg; cases he
    obtain ⟨g, t, cs, fuel, p, hg, ht, hcell, hwv, hd⟩ := laid_at 4 h rfl
    obtain rfl := Option.some.inj ((show Tryd.prog.globalNamed "proctor/report.wheres" = some 0 by kernel_rfl).symm.trans hg)
    obtain rfl := Option.some.inj ((show (Tryd.prog.globals[0]?).map (·.type) = some 61 by kernel_rfl).symm.trans ht)
    exact strs_laid (l := whereL) (e := 9) (by decide) (by kernel_rfl) (by kernel_rfl) (by kernel_rfl) (by kernel_rfl) hcell hwv hd
  cases he
theorem door_met (os : Os) (args : Array Value) : laidMetH Tryd.prog laidL ((World.doorLaid Tryd.prog 400 os).forCall (fun _ _ => 0) ⟨#[], args, []⟩).memory :=
  laidMetH_of_parts3 (fuel := 8) (laidMet_of_run' 8 (by kernel_rfl) (by kernel_rfl)) (by kernel_rfl) (by kernel_rfl)

theorem walk {c0 : List AV} {v0 : Value} {w : World} (hg : Ab.Good w (oldF w) Gw) (h0 : ∃ x : {o : Oc // Oc64 o}, .agg c0 = ocV x.1) (r0 : Rd w (oldF w) noNames (.agg c0) v0) :
    Calls Tryd.prog 3 #[v0] w fun e w' => e = .returned (.bool true) ∧ Below w.heap.size w w' := by
  obtain ⟨x0, e0⟩ := h0
  rw [e0] at r0
  exact ((ReportTexts_pc x0.1 x0.2.1 x0.2.2.1 x0.2.2.2) : PureC _ Gw _ _ _).calls_trueG hg (argsR_cons r0 argsR_nil)

set_option maxRecDepth 100000 in
theorem lifted (os : Os) (started : os.Started) (H : Type) (enc : TypeId × Value → H) :
    ReturnsInHanded {} Tryd.checked os 3 .any (fun w args => (Rows.reportTextsSpec.pre enc Tryd.prog Tryd.f3 [] false w args ∧ laidMetH Tryd.prog laidL w) ∧ sizedMet enc Tryd.prog Tryd.f3 (OpenSpec.ofChange Rows.reportTextsSpec) false w args)
      (Rows.reportTextsSpec.post enc Tryd.prog Tryd.f3 false true false false) := by
  refine returnsInHanded_of_change_and (C := Tryd.checked) (X := fun w _ => laidMetH Tryd.prog laidL w) (fun _ _ _ hh h => h.of_heap hh) own started (by kernel_rfl) Tryd.func3
    (ChangeSpec.witness_shaped (enc := enc) (C := Tryd.checked) (os := os) (X := fun w _ => laidMetH Tryd.prog laidL w) false (World.doorLaid Tryd.prog 400 os) #[.agg #[.slice none 0 0, .int .i64 0, .int .i64 0, .int .i64 0, .int .i64 0]] 8 rfl (World.shaped_of_RefB (by kernel_rfl) (by kernel_rfl)) (by kernel_rfl) (by kernel_rfl) (by kernel_rfl) (door_met os _)) ?_
  intro W base args ds gs before hval0 hW _ _ hL _
  have hval : ∀ (j : Nat) t v, Tryd.f3.params[j]? = some t → args[j]? = some v → Value.okWide Tryd.prog W .any base t v := hval0
  have hW' := hW
  obtain ⟨p, q, hA0, hV, rfl, hfz, hnd⟩ := hW
  have hA : DataW.TrodAll enc Tryd.prog W 0 (fun _ => true) true Tryd.f3.params.toList args.toList ds p := hA0
  have hparams : Tryd.f3.params.toList = [27] := by kernel_rfl
  have hAll := hA
  rw [hparams] at hA
  obtain ⟨v0, vs0, d0, ds0, p0, q0, hargs, rfl, rfl, h0, r0⟩ := trodAll_cons hA
  obtain ⟨rfl, rfl, rfl⟩ := trodAll_nil r0
  obtain rfl : args = #[v0] := by cases args; simp_all
  obtain ⟨rfl, rfl⟩ := trodVars_none hV
  obtain ⟨us0, rfl, _⟩ := okWide_struct (fs := (Tryd.prog.fieldsOf 27)) (by kernel_rfl) (hval 0 27 v0 (by kernel_rfl) rfl)
  obtain ⟨a0, g0, k0⟩ := open_agg rOc64 rfl h0
  have hlt := hW'.lt
  refine (walk (good_laid hL) g0 k0).mono fun e W' ⟨he, hb⟩ => ?_
  subst he
  refine ⟨_, rfl, Ab.post_of_below (pa := (p0 ++ [])) (pv := []) hW' (fun _ _ _ => ?_) (fun sp hs => ?_) (fun _ _ => rfl) rfl hb (ok_one (by kernel_rfl) rfl (okWide_bool_mk (t := 4) (by kernel_rfl) _))⟩
  · exact trodAll_cons_mk (shut_bool (t := 4) (by kernel_rfl) _) trodAll_mk0
  · refine args_stay laidOut hb ?_ hAll (fun x hx => hlt x (by simpa using hx)) sp (fun x hx => hs x (by simpa using hx))
    rw [hparams]
    kernel_rfl

theorem over : Rows.ReportTextsSaid :=
  OpenClaim.holds_of_wide 3 Tryd.f3 rfl rfl rfl rfl rfl rfl rfl ⟨rfl, rfl, rfl, rfl, rfl⟩ rfl rfl rfl rfl rfl (by kernel_rfl) Tryd.func3 (by kernel_rfl)
    (of_decide_eq_true (by kernel_rfl)) (by unfold Func.isWrapper; first | (rw [if_pos (by decide +kernel)]; kernel_rfl) | (rw [if_neg (by decide +kernel)]; exact ⟨rfl, rfl⟩))
    (fun os started H enc _ => lifted os started H enc)

/-- The statement: the tied card. -/
theorem proved : Rows.ReportTextsCardSaid :=
  Claim7.holds_tied_plain_at .later [] [.data, .data, .data, .data, .data] true (true, "21a3b0f4c963ceee25534825f4acee80f786b60b31cf305c9f4cc014d701de34") false
    over (fun _ h => by cases h) (by kernel_rfl) (fun _ h => by cases h) reportTexts_row_tie rfl ⟨rfl, rfl⟩ (by kernel_rfl) rfl
    (fun f fn hf hfn => by
      obtain rfl : f = 3 := Option.some.inj ((show Tryd.prog.funcNamed "proctor/proctorlaw42.ReportTexts" = some 3 by kernel_rfl).symm.trans hf) |>.symm
      obtain rfl : fn = Tryd.f3 := (Option.some.inj (Tryd.func3.symm.trans hfn)).symm
      exact ⟨by kernel_rfl, fun j t ht => by
        have hall : (Tryd.f3.params.toList.all fun u => !Tryd.prog.wantsStandIn u) = true := by kernel_rfl
        have hm : t ∈ Tryd.f3.params.toList := Array.mem_toList_iff.2 (Array.mem_of_getElem? ht)
        exact (show Tryd.prog.wantsStandIn t = false by simpa using List.all_eq_true.1 hall t hm)⟩)
    (by kernel_rfl)
#print axioms proved
end Go.Proofs.YtdfdiglnpekcpaaDoor.reportTexts
