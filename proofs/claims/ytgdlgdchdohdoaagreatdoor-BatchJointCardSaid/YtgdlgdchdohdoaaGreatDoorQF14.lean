/-
  It is proved that proctorlaw44.BatchJoint returns true for all outcomes and turns nothing that was there, where the listed variables hold what the program's text lays in them; and the card that ties this (Rows.BatchJointCardSaid).
-/
import Derived.Test.YtgdlgdchdohdoaaGreatDoorRows
import Derived.Test.YtgdlgdchdohdoaaGreatDoorCards
import Derived.Test.YtgdlgdchdohdoaaGreatDoorTie
import Derived.Test.YtgdlgdchdohdoaaGreatDoorQBj5
import Derived.Test.YtgdlgdchdohdoaaGreatDoorQBj4
import Derived.Test.YtgdlgdchdohdoaaGreatDoorQAbTrod
import Derived.Test.YtgdlgdchdohdoaaGreatDoorQAbLaid
import Derived.MakeChecks
import Derived.LaidMore
import Derived.LaidHandle
import Derived.Stop.Joined
import Derived.Lay
import Derived.Lib.LaidIn
namespace Go.Proofs.YtgdlgdchdohdoaaGreatDoor.batchJoint
open Go.ChangeShapes Go.WideShapes Go.ChangeAt Go.RowKit Go.Proofs.YtgdlgdchdohdoaaGreatDoor.Ab
theorem own : ownKnob Tryz.prog.godebug = none := by kernel_rfl
theorem laidOut : laidOutB Tryz.prog = true := by kernel_rfl
def laidL : List (String × DataW Unit) := [("math/bits.deBruijn32tab", Rows.laid_math_bits_deBruijn32tab), ("math/bits.deBruijn64tab", Rows.laid_math_bits_deBruijn64tab), ("internal/strconv.uint64pow10", Rows.laid_internal_strconv_uint64pow10), ("unicode/utf8.acceptRanges", Rows.laid_unicode_utf8_acceptRanges), ("errors.errorType", Rows.laid_errors_errorType), ("strconv.ErrRange", Rows.laid_strconv_ErrRange), ("strconv.ErrSyntax", Rows.laid_strconv_ErrSyntax), ("proctor/quote.marks", Rows.laid_proctor_quote_marks), ("proctor/quote.letters", Rows.laid_proctor_quote_letters), ("proctor/schema.words", Rows.laid_proctor_schema_words), ("proctor/verdict.names", Rows.laid_proctor_verdict_names), ("unicode/utf8.first", Rows.laid_unicode_utf8_first)]
def plainL : List (String × DataW Unit) := [("math/bits.deBruijn32tab", Rows.laid_math_bits_deBruijn32tab), ("math/bits.deBruijn64tab", Rows.laid_math_bits_deBruijn64tab), ("internal/strconv.uint64pow10", Rows.laid_internal_strconv_uint64pow10), ("unicode/utf8.acceptRanges", Rows.laid_unicode_utf8_acceptRanges), ("strconv.ErrRange", Rows.laid_strconv_ErrRange), ("strconv.ErrSyntax", Rows.laid_strconv_ErrSyntax), ("proctor/quote.marks", Rows.laid_proctor_quote_marks), ("proctor/quote.letters", Rows.laid_proctor_quote_letters), ("proctor/schema.words", Rows.laid_proctor_schema_words), ("proctor/verdict.names", Rows.laid_proctor_verdict_names), ("unicode/utf8.first", Rows.laid_unicode_utf8_first)]
def Gw (g : Nat) : Option AV := if g = 1 then some (.iface 262 (.agg [.rawp 13 75])) else if g = 2 then some (.agg (wordsL.map AV.str)) else if g = 0 then some (.agg (nameL.map AV.str)) else none
theorem oneRow : ((List.range Tryz.prog.types.size).filter fun t => Tryz.prog.rowNamed t [101, 114, 114, 111, 114]) = [75] := by kernel_rfl
set_option maxRecDepth 100000 in
theorem good_laid {W : World} (h0 : laidMetH Tryz.prog laidL W) : Ab.Good W (oldF W) Gw := by
  have h' : laidMet Tryz.prog plainL W ∧ handlesMet Tryz.prog [("errors.errorType", Rows.laid_errors_errorType)] W := h0
  have h := h'.1
  obtain ⟨name, u, ty, e1, e2, e3, e4, e5⟩ := h'.2 _ (List.mem_singleton.2 rfl)
  have en : name = [101, 114, 114, 111, 114] := (Option.some.inj e1).symm
  subst en
  obtain rfl := Option.some.inj ((show (Tryz.prog.cutTypes.find? (·.1 == "internal/reflectlite.rtype")).map (·.2) = some 262 by kernel_rfl).symm.trans e2)
  have hm : ty ∈ (List.range Tryz.prog.types.size).filter fun t => Tryz.prog.rowNamed t [101, 114, 114, 111, 114] := List.mem_filter.2 ⟨List.mem_range.2 e3, e4⟩
  rw [oneRow] at hm
  obtain rfl := List.mem_singleton.1 hm
  have hh : typeHandle Tryz.prog 75 = .pointer (some ⟨13, 75, none⟩) := by kernel_rfl
  rw [hh] at e5
  refine ⟨fun b hb => hb, fun g e he => ?_⟩
  unfold Gw at he
  split at he
  · rename_i hg; subst hg; cases he
    exact handle_at e5 fun F nm => .rawp _ _ _
  split at he
  · rename_i hg; subst hg; cases he
    obtain ⟨g, t, cs, fuel, p, hg, ht, hcell, hwv, hd⟩ := laid_at 8 h rfl
    obtain rfl := Option.some.inj ((show Tryz.prog.globalNamed "proctor/schema.words" = some 2 by kernel_rfl).symm.trans hg)
    obtain rfl := Option.some.inj ((show (Tryz.prog.globals[2]?).map (·.type) = some 339 by kernel_rfl).symm.trans ht)
    exact strs_laid (l := wordsL) (e := 9) (by decide) (by kernel_rfl) (by kernel_rfl) (by kernel_rfl) (by kernel_rfl) hcell hwv hd
  split at he
  · rename_i hg; subst hg; cases he
    obtain ⟨g, t, cs, fuel, p, hg, ht, hcell, hwv, hd⟩ := laid_at 9 h rfl
    obtain rfl := Option.some.inj ((show Tryz.prog.globalNamed "proctor/verdict.names" = some 0 by kernel_rfl).symm.trans hg)
    obtain rfl := Option.some.inj ((show (Tryz.prog.globals[0]?).map (·.type) = some 55 by kernel_rfl).symm.trans ht)
    exact strs_laid (l := nameL) (e := 9) (by decide) (by kernel_rfl) (by kernel_rfl) (by kernel_rfl) (by kernel_rfl) hcell hwv hd
  cases he
def great : List String := ["unicode/utf8.first"]
noncomputable def wit (os : Os) : World := (World.doorLaid Tryz.prog 400 os).layVars Tryz.prog (plainL.filter fun x => great.contains x.1)
noncomputable def others (os : Os) : List Nat := (List.range (World.doorLaid Tryz.prog 400 os).heap.size).filter fun i => i != 7
theorem d1 (os : Os) : (World.doorLaid Tryz.prog 400 os).layFits Tryz.prog (plainL.filter fun x => great.contains x.1) (others os) = true := by kernel_rfl
theorem d2 (os : Os) : (World.doorLaid Tryz.prog 400 os).layIfaces Tryz.prog (plainL.filter fun x => great.contains x.1) (wit os) = true := by kernel_rfl
theorem d3 (os : Os) : (DataW.laidRun Tryz.prog (wit os) 8 ((plainL.filter fun x => !great.contains x.1).map (·.1))).map (·.1) = some (plainL.filter fun x => !great.contains x.1) := by kernel_rfl
theorem d4 (os : Os) : (DataW.laidRun Tryz.prog (wit os) 8 ((plainL.filter fun x => !great.contains x.1).map (·.1))).map (fun x => nodupB (x.2.map MemPlace.codeOf)) = some true := by kernel_rfl
theorem d5 (os : Os) : (DataW.laidRun Tryz.prog (wit os) 8 ((plainL.filter fun x => !great.contains x.1).map (·.1))).map (fun x => laidRowsB Tryz.prog (wit os) x.2) = some true := by kernel_rfl
theorem d6 (os : Os) : (DataW.laidRun Tryz.prog (wit os) 8 ((plainL.filter fun x => !great.contains x.1).map (·.1))).map (fun x => x.2.all fun p => (others os).contains p.block) = some true := by kernel_rfl
theorem wit_met (os : Os) : laidMet Tryz.prog plainL (wit os) := laidMet_layVars (w0 := World.doorLaid Tryz.prog 400 os) great (others os) rfl (d1 os) (d2 os) (LaidIn.of_run (others os) 8 (d3 os) (d4 os) (d5 os) (d6 os))
theorem door_met (os : Os) (args : Array Value) : laidMetH Tryz.prog laidL ((wit os).forCall (fun _ _ => 0) ⟨#[], args, []⟩).memory :=
  laidMetH_of_parts3 (fuel := 8) ((wit_met os).of_heap (by simp [World.memory, World.forCall, Input.heap])) (by kernel_rfl) (by kernel_rfl)
theorem wit_os (os : Os) : (wit os).os = os := World.layVars_os _ _ _
theorem wit_shaped (os : Os) (args : Array Value) : ((wit os).forCall (fun _ _ => 0) ⟨#[], args, []⟩).Shaped Tryz.prog := World.shaped_of_RefB (by kernel_rfl) (by kernel_rfl)
theorem walk {c0 : AV} {v0 : Value} {w : World} (hg : Ab.Good w (oldF w) Gw) (h0 : ∃ x : List Oc, [c0] = [ocsV x]) (r0 : Rd w (oldF w) noNames (c0) v0) :
    Calls Tryz.prog 3 #[v0] w fun e w' => e = .returned (.bool true) ∧ Below w.heap.size w w' := by
  obtain ⟨x0, e0⟩ := h0
  cases e0
  exact ((law44_BatchJoint_pc x0) : PureC _ Gw _ _ _).calls_trueG hg (argsR_cons r0 argsR_nil)
set_option maxRecDepth 100000 in
theorem lifted (os : Os) (started : os.Started) (H : Type) (enc : TypeId × Value → H) :
    ReturnsInHanded {} Tryz.checked os 3 .any (fun w args => (Rows.batchJointSpec.pre enc Tryz.prog Tryz.f3 [] false w args ∧ laidMetH Tryz.prog laidL w) ∧ sizedMet enc Tryz.prog Tryz.f3 (OpenSpec.ofChange Rows.batchJointSpec) false w args)
      (Rows.batchJointSpec.post enc Tryz.prog Tryz.f3 false true false false) := by
  refine returnsInHanded_of_change_and (C := Tryz.checked) (X := fun w _ => laidMetH Tryz.prog laidL w) (fun _ _ _ hh h => h.of_heap hh) own started (by kernel_rfl) Tryz.func3
    (ChangeSpec.witness_shaped (enc := enc) (C := Tryz.checked) (os := os) (X := fun w _ => laidMetH Tryz.prog laidL w) false (wit os) #[.slice none 0 0] 8 (wit_os os) (wit_shaped os _) (by kernel_rfl) (by kernel_rfl) (by kernel_rfl) (door_met os _)) ?_
  intro W base args ds gs before hval0 hW _ _ hL _
  have hval : ∀ (j : Nat) t v, Tryz.f3.params[j]? = some t → args[j]? = some v → Value.okWide Tryz.prog W .any base t v := hval0
  have hW' := hW
  obtain ⟨p, q, hA0, hV, rfl, hfz, hnd⟩ := hW
  have hA : DataW.TrodAll enc Tryz.prog W 0 (fun _ => true) true Tryz.f3.params.toList args.toList ds p := hA0
  have hparams : Tryz.f3.params.toList = [22] := by kernel_rfl
  have hAll := hA
  rw [hparams] at hA
  obtain ⟨v0, vs0, d0, ds0, p0, q0, hargs, rfl, rfl, h0, r0⟩ := trodAll_cons hA
  obtain ⟨rfl, rfl, rfl⟩ := trodAll_nil r0
  obtain rfl : args = #[v0] := by cases args; simp_all
  obtain ⟨rfl, rfl⟩ := trodVars_none hV
  obtain ⟨s0, n0, c0, rfl⟩ := okWide_slice (e := 29) (by kernel_rfl) (hval 0 22 v0 (by kernel_rfl) rfl)
  obtain ⟨a0, g0, k0⟩ := open_leaf rOcs rfl h0
  have hlt := hW'.lt
  refine (walk (good_laid hL) g0 k0).mono fun e W' ⟨he, hb⟩ => ?_
  subst he
  refine ⟨_, rfl, Ab.post_of_below (pa := (p0 ++ [])) (pv := []) hW' (fun _ _ _ => ?_) (fun sp hs => ?_) (fun _ _ => rfl) rfl hb (ok_one (by kernel_rfl) rfl (okWide_bool_mk (t := 4) (by kernel_rfl) _))⟩
  · exact trodAll_cons_mk (shut_bool (t := 4) (by kernel_rfl) _) trodAll_mk0
  · refine args_stay laidOut hb ?_ hAll (fun x hx => hlt x (by simpa using hx)) sp (fun x hx => hs x (by simpa using hx))
    rw [hparams]
    kernel_rfl
theorem fact0 : mapsRowed Tryz.prog = true := by kernel_rfl
theorem fact1 : (Rows.batchJointRow.inPlace == Tryz.prog.inPlace 3) = true := by kernel_rfl
theorem fact2 : (Rows.batchJointRow.unfollowed == Tryz.prog.unfollowed 3) = true := by kernel_rfl
theorem fact3 : (Rows.batchJointRow.recurses == Tryz.prog.recurses 3) = true := by kernel_rfl
theorem fact4 : (Rows.batchJointRow.named == Tryz.prog.varsNamed 3) = true := by kernel_rfl
theorem fact5 : (Rows.batchJointRow.plainKeys == Tryz.prog.plainKeys) = true := by kernel_rfl
theorem fact6 : Tryz.prog.stopsHeard = true := by kernel_rfl
theorem fact7 : Tryz.prog.mayEnter = true := by kernel_rfl
theorem fact8 : (Rows.batchJointRow.lifted == Tryz.prog.liftsFinal) = true := by kernel_rfl
theorem fact9 : (Tryz.prog.make == some Rows.batchJointRow.make) = true := by kernel_rfl
theorem facts : joinedFacts Tryz.prog 3 Tryz.f3 Rows.batchJointSpec Rows.batchJointRow = true := by
  unfold joinedFacts
  rw [fact0, fact1, fact2, fact3, fact4, fact5, fact6, fact7, fact8, fact9]
  kernel_rfl
theorem over : Rows.BatchJointSaid :=
  OpenClaim.holds_of_wide 3 Tryz.f3 rfl rfl rfl rfl rfl rfl rfl ⟨rfl, rfl, rfl, rfl, rfl⟩ rfl rfl rfl rfl rfl (by kernel_rfl) Tryz.func3 facts
    (of_decide_eq_true (by kernel_rfl)) (by unfold Func.isWrapper; first | (rw [if_pos (by decide +kernel)]; kernel_rfl) | (rw [if_neg (by decide +kernel)]; exact ⟨rfl, rfl⟩))
    (fun os started H enc _ => lifted os started H enc)
/-- The statement: the tied card. -/
theorem proved : Rows.BatchJointCardSaid :=
  Claim7.holds_tied_plain_at .later [] [.data, .data, .data, .data, .handle, .sentinel, .sentinel, .widerDeep, .widerDeep, .widerDeep, .data, .pinned] true (true, "ef74ad686b81ad32f437b64a6f6bff85015020202206880acdd1cf14ae7832c4") true
    over (fun _ h => by cases h) (by kernel_rfl) (fun _ h => by cases h) batchJoint_row_tie rfl ⟨rfl, rfl⟩ (by kernel_rfl) rfl
    (fun f fn hf hfn => by
      obtain rfl : f = 3 := Option.some.inj ((show Tryz.prog.funcNamed "proctor/proctorlaw44.BatchJoint" = some 3 by kernel_rfl).symm.trans hf) |>.symm
      obtain rfl : fn = Tryz.f3 := (Option.some.inj (Tryz.func3.symm.trans hfn)).symm
      exact ⟨by kernel_rfl, fun j t ht => by
        have hall : (Tryz.f3.params.toList.all fun u => !Tryz.prog.wantsStandIn u) = true := by kernel_rfl
        have hm : t ∈ Tryz.f3.params.toList := Array.mem_toList_iff.2 (Array.mem_of_getElem? ht)
        exact (show Tryz.prog.wantsStandIn t = false by simpa using List.all_eq_true.1 hall t hm)⟩)
    (by kernel_rfl)
#print axioms proved
end Go.Proofs.YtgdlgdchdohdoaaGreatDoor.batchJoint
