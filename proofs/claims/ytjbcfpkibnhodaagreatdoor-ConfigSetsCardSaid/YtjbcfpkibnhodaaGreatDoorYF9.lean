/-
  It is proved that proctorlaw18.ConfigSets returns true for every automaton and all configurations and turns nothing that was there, where the listed variables hold what the program's text lays in them; and the card that ties this (Rows.ConfigSetsCardSaid).
-/
import Derived.Test.YtjbcfpkibnhodaaGreatDoorRows
import Derived.Test.YtjbcfpkibnhodaaGreatDoorCards
import Derived.Test.YtjbcfpkibnhodaaGreatDoorTie
import Derived.Test.YtjbcfpkibnhodaaGreatDoorYC3
import Derived.Test.YtjbcfpkibnhodaaGreatDoorYC10
import Derived.Test.YtjbcfpkibnhodaaGreatDoorYAbTrod
import Derived.Test.YtjbcfpkibnhodaaGreatDoorYV14
import Derived.MakeChecks
import Derived.LaidMore
import Derived.LaidHandle
namespace Go.Proofs.YtjbcfpkibnhodaaGreatDoor.configSets
open Go.ChangeShapes Go.WideShapes Go.ChangeAt Go.RowKit Go.Proofs.YtjbcfpkibnhodaaGreatDoor.Ab
theorem own : ownKnob Tryz.prog.godebug = none := by kernel_rfl
theorem laidOut : laidOutB Tryz.prog = true := by kernel_rfl
def laidL : List (String × DataW Unit) := [("math/bits.deBruijn32tab", Rows.laid_math_bits_deBruijn32tab), ("math/bits.deBruijn64tab", Rows.laid_math_bits_deBruijn64tab), ("internal/strconv.uint64pow10", Rows.laid_internal_strconv_uint64pow10), ("proctor/quote.marks", Rows.laid_proctor_quote_marks), ("proctor/quote.letters", Rows.laid_proctor_quote_letters)]
def Gw (g : Nat) : Option AV := if g = 7 then some (.agg (Lib.pow10Tab.map (AV.int .u64))) else if g = 2 then some (.agg (marksL.map (AV.int .u8))) else if g = 3 then some (.agg (lettersL.map (AV.int .u8))) else none
theorem good_laid {W : World} (h : laidMetH Tryz.prog laidL W) : Ab.Good W (oldF W) Gw := by
  rw [MakeChecks.laidMetH_plain _ _ _ (by kernel_rfl)] at h
  refine ⟨fun b hb => hb, fun g e he => ?_⟩
  unfold Gw at he
  split at he
  · rename_i hg; subst hg; cases he
    obtain ⟨g, t, cs, fuel, p, hg, ht, hcell, hwv, hd⟩ := laid_at 2 h rfl
    obtain rfl := Option.some.inj ((show Tryz.prog.globalNamed "internal/strconv.uint64pow10" = some 7 by kernel_rfl).symm.trans hg)
    obtain rfl := Option.some.inj ((show (Tryz.prog.globals[7]?).map (·.type) = some 373 by kernel_rfl).symm.trans ht)
    exact ints_laid (k := .u64) (l := Lib.pow10Tab) (e := 57) (by decide) (by kernel_rfl) (by kernel_rfl) (by kernel_rfl) (by kernel_rfl) hcell hwv hd
  split at he
  · rename_i hg; subst hg; cases he
    obtain ⟨g, t, cs, fuel, p, hg, ht, hcell, hwv, hd⟩ := laid_at 3 h rfl
    obtain rfl := Option.some.inj ((show Tryz.prog.globalNamed "proctor/quote.marks" = some 2 by kernel_rfl).symm.trans hg)
    obtain rfl := Option.some.inj ((show (Tryz.prog.globals[2]?).map (·.type) = some 302 by kernel_rfl).symm.trans ht)
    exact ints_laid (k := .u8) (l := marksL) (e := 5) (by decide) (by kernel_rfl) (by kernel_rfl) (by kernel_rfl) (by kernel_rfl) hcell hwv hd
  split at he
  · rename_i hg; subst hg; cases he
    obtain ⟨g, t, cs, fuel, p, hg, ht, hcell, hwv, hd⟩ := laid_at 4 h rfl
    obtain rfl := Option.some.inj ((show Tryz.prog.globalNamed "proctor/quote.letters" = some 3 by kernel_rfl).symm.trans hg)
    obtain rfl := Option.some.inj ((show (Tryz.prog.globals[3]?).map (·.type) = some 302 by kernel_rfl).symm.trans ht)
    exact ints_laid (k := .u8) (l := lettersL) (e := 5) (by decide) (by kernel_rfl) (by kernel_rfl) (by kernel_rfl) (by kernel_rfl) hcell hwv hd
  cases he
theorem door_met (os : Os) (args : Array Value) : laidMetH Tryz.prog laidL ((World.doorLaid Tryz.prog 400 os).forCall (fun _ _ => 0) ⟨#[], args, []⟩).memory :=
  laidMetH_of_parts3 (fuel := 8) (laidMet_of_run' 8 (by kernel_rfl) (by kernel_rfl)) (by kernel_rfl) (by kernel_rfl)
theorem walk {c0 : List AV} {c1 : AV} {v0 v1 : Value} {w : World} (hg : Ab.Good w (oldF w) Gw) (h0 : ∃ x : {q : QeaT // Q64 q}, .agg c0 = qeaV x.1) (h1 : ∃ x : {l : List CfgT // ∀ c ∈ l, ∀ v ∈ c.vals, i64 v.int}, [c1] = [cfgsV x.1]) (r0 : Rd w (oldF w) noNames (.agg c0) v0) (r1 : Rd w (oldF w) noNames (c1) v1) :
    Calls Tryz.prog 3 #[v0, v1] w fun e w' => e = .returned (.bool true) ∧ Below w.heap.size w w' := by
  obtain ⟨x0, e0⟩ := h0
  rw [e0] at r0
  obtain ⟨x1, e1⟩ := h1
  cases e1
  exact ((law18_ConfigSets_pc (G := Gw) ⟨rfl, rfl, rfl⟩ x0.1 x1.1 x1.2) : PureC _ Gw _ _ _).calls_trueG hg (argsR_cons r0 (argsR_cons r1 argsR_nil))
set_option maxRecDepth 100000 in
theorem lifted (os : Os) (started : os.Started) (H : Type) (enc : TypeId × Value → H) :
    ReturnsInHanded {} Tryz.checked os 3 .any (fun w args => (Rows.configSetsSpec.pre enc Tryz.prog Tryz.f3 [] false w args ∧ laidMetH Tryz.prog laidL w) ∧ sizedMet enc Tryz.prog Tryz.f3 (OpenSpec.ofChange Rows.configSetsSpec) false w args)
      (Rows.configSetsSpec.post enc Tryz.prog Tryz.f3 false true false false) := by
  refine returnsInHanded_of_change_and (C := Tryz.checked) (X := fun w _ => laidMetH Tryz.prog laidL w) (fun _ _ _ hh h => h.of_heap hh) own started (by kernel_rfl) Tryz.func3
    (ChangeSpec.witness_shaped (enc := enc) (C := Tryz.checked) (os := os) (X := fun w _ => laidMetH Tryz.prog laidL w) false (World.doorLaid Tryz.prog 400 os) #[.agg #[.string ⟨#[]⟩, .slice none 0 0, .slice none 0 0, .slice none 0 0, .slice none 0 0, .int .i64 0, .slice none 0 0, .slice none 0 0, .slice none 0 0], .slice none 0 0] 8 rfl (World.shaped_of_RefB (by kernel_rfl) (by kernel_rfl)) (by kernel_rfl) (by kernel_rfl) (by kernel_rfl) (door_met os _)) ?_
  intro W base args ds gs before hval0 hW _ _ hL _
  have hval : ∀ (j : Nat) t v, Tryz.f3.params[j]? = some t → args[j]? = some v → Value.okWide Tryz.prog W .any base t v := hval0
  have hW' := hW
  obtain ⟨p, q, hA0, hV, rfl, hfz, hnd⟩ := hW
  have hA : DataW.TrodAll enc Tryz.prog W 0 (fun _ => true) true Tryz.f3.params.toList args.toList ds p := hA0
  have hparams : Tryz.f3.params.toList = [30, 31] := by kernel_rfl
  have hAll := hA
  rw [hparams] at hA
  obtain ⟨v0, vs0, d0, ds0, p0, q0, hargs, rfl, rfl, h0, r0⟩ := trodAll_cons hA
  obtain ⟨v1, vs1, d1, ds1, p1, q1, rfl, rfl, rfl, h1, r1⟩ := trodAll_cons r0
  obtain ⟨rfl, rfl, rfl⟩ := trodAll_nil r1
  obtain rfl : args = #[v0, v1] := by cases args; simp_all
  obtain ⟨rfl, rfl⟩ := trodVars_none hV
  obtain ⟨us0, rfl, _⟩ := okWide_struct (fs := (Tryz.prog.fieldsOf 30)) (by kernel_rfl) (hval 0 30 v0 (by kernel_rfl) rfl)
  obtain ⟨a0, g0, k0⟩ := open_agg rQeaN rfl h0
  obtain ⟨s1, n1, c1, rfl⟩ := okWide_slice (e := 43) (by kernel_rfl) (hval 1 31 v1 (by kernel_rfl) rfl)
  obtain ⟨a1, g1, k1⟩ := open_leaf rCfgs rfl h1
  have hlt := hW'.lt
  refine (walk (good_laid hL) g0 g1 k0 k1).mono fun e W' ⟨he, hb⟩ => ?_
  subst he
  refine ⟨_, rfl, Ab.post_of_below (pa := (p0 ++ (p1 ++ []))) (pv := []) hW' (fun _ _ _ => ?_) (fun sp hs => ?_) (fun _ _ => rfl) rfl hb (ok_one (by kernel_rfl) rfl (okWide_bool_mk (t := 4) (by kernel_rfl) _))⟩
  · exact trodAll_cons_mk (shut_bool (t := 4) (by kernel_rfl) _) trodAll_mk0
  · refine args_stay laidOut hb ?_ hAll (fun x hx => hlt x (by simpa using hx)) sp (fun x hx => hs x (by simpa using hx))
    rw [hparams]
    kernel_rfl
theorem fact0 : mapsRowed Tryz.prog = true := by kernel_rfl
theorem fact1 : (Rows.configSetsRow.inPlace == Tryz.prog.inPlace 3) = true := by kernel_rfl
theorem fact2 : (Rows.configSetsRow.unfollowed == Tryz.prog.unfollowed 3) = true := by kernel_rfl
theorem fact3 : (Rows.configSetsRow.recurses == Tryz.prog.recurses 3) = true := by kernel_rfl
theorem fact4 : (Rows.configSetsRow.named == Tryz.prog.varsNamed 3) = true := by kernel_rfl
theorem fact5 : (Rows.configSetsRow.plainKeys == Tryz.prog.plainKeys) = true := by kernel_rfl
theorem fact6 : Tryz.prog.stopsHeard = true := by kernel_rfl
theorem fact7 : Tryz.prog.mayEnter = true := by kernel_rfl
theorem fact8 : (Rows.configSetsRow.lifted == Tryz.prog.liftsFinal) = true := by kernel_rfl
theorem fact9 : (Tryz.prog.make == some Rows.configSetsRow.make) = true := by kernel_rfl
theorem facts : joinedFacts Tryz.prog 3 Tryz.f3 Rows.configSetsSpec Rows.configSetsRow = true := by
  unfold joinedFacts
  rw [fact0, fact1, fact2, fact3, fact4, fact5, fact6, fact7, fact8, fact9]
  kernel_rfl
theorem over : Rows.ConfigSetsSaid :=
  OpenClaim.holds_of_wide 3 Tryz.f3 rfl rfl rfl rfl rfl rfl rfl ⟨rfl, rfl, rfl, rfl, rfl⟩ rfl rfl rfl rfl rfl (by kernel_rfl) Tryz.func3 facts
    (of_decide_eq_true (by kernel_rfl)) (by unfold Func.isWrapper; first | (rw [if_pos (by decide +kernel)]; kernel_rfl) | (rw [if_neg (by decide +kernel)]; exact ⟨rfl, rfl⟩))
    (fun os started H enc _ => lifted os started H enc)
theorem proved : Rows.ConfigSetsCardSaid :=
  Claim7.holds_tied_plain_at .later [] [.data, .data, .data, .widerDeep, .widerDeep] true (true, "83e2afa12538e0bb58d6f79085591273bba17282942e290ad6a42c8d0e1597a1") true
    over (fun _ h => by cases h) (by kernel_rfl) (fun _ h => by cases h) configSets_row_tie rfl ⟨rfl, rfl⟩ (by kernel_rfl) rfl
    (fun f fn hf hfn => by
      obtain rfl : f = 3 := Option.some.inj ((show Tryz.prog.funcNamed "proctor/proctorlaw18.ConfigSets" = some 3 by kernel_rfl).symm.trans hf) |>.symm
      obtain rfl : fn = Tryz.f3 := (Option.some.inj (Tryz.func3.symm.trans hfn)).symm
      exact ⟨by kernel_rfl, fun j t ht => by
        have hall : (Tryz.f3.params.toList.all fun u => !Tryz.prog.wantsStandIn u) = true := by kernel_rfl
        have hm : t ∈ Tryz.f3.params.toList := Array.mem_toList_iff.2 (Array.mem_of_getElem? ht)
        exact (show Tryz.prog.wantsStandIn t = false by simpa using List.all_eq_true.1 hall t hm)⟩)
    (by kernel_rfl)
#print axioms proved
end Go.Proofs.YtjbcfpkibnhodaaGreatDoor.configSets
