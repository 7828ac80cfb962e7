/-
  It is proved that proctorlaw28.SubsetHits returns true for every automaton, binding, all states and every event and turns nothing that was there, where the listed variable proctor/schema.words holds what the program's text lays in it; and the card that ties this (Rows.SubsetHitsCardSaid).
-/
import Derived.Test.YtjbcfpkibnhodaaGreatDoorCards
import Derived.Test.YtjbcfpkibnhodaaGreatDoorTie
import Derived.Test.YtjbcfpkibnhodaaGreatDoorWSb12
namespace Go.Proofs.YtjbcfpkibnhodaaGreatDoor.subsetHits
open Go.ChangeShapes Go.WideShapes Go.ChangeAt Go.RowKit Go.Proofs.YtjbcfpkibnhodaaGreatDoor.Ab
theorem own : ownKnob Tryz.prog.godebug = none := by kernel_rfl
theorem laidOut : laidOutB Tryz.prog = true := by kernel_rfl
def laidL : List (String × DataW Unit) := [("proctor/schema.words", Rows.laid_proctor_schema_words)]
def Gw (g : Nat) : Option AV := if g = 5 then some (.agg (wordsL.map AV.str)) else none
theorem good_laid {W : World} (h : laidMetH Tryz.prog laidL W) : Ab.Good W (oldF W) Gw := by
  rw [MakeChecks.laidMetH_plain _ _ _ (by kernel_rfl)] at h
  refine ⟨fun b hb => hb, fun g e he => ?_⟩
  unfold Gw at he
  split at he
  · rename_i hg; subst hg; cases he
    obtain ⟨g, t, cs, fuel, p, hg, ht, hcell, hwv, hd⟩ := laid_at 0 h rfl
    obtain rfl := Option.some.inj ((show Tryz.prog.globalNamed "proctor/schema.words" = some 5 by kernel_rfl).symm.trans hg)
    obtain rfl := Option.some.inj ((show (Tryz.prog.globals[5]?).map (·.type) = some 346 by kernel_rfl).symm.trans ht)
    exact strs_laid (l := wordsL) (e := 9) (by decide) (by kernel_rfl) (by kernel_rfl) (by kernel_rfl) (by kernel_rfl) hcell hwv hd
  cases he
theorem door_met (os : Os) (args : Array Value) : laidMetH Tryz.prog laidL ((World.doorLaid Tryz.prog 400 os).forCall (fun _ _ => 0) ⟨#[], args, []⟩).memory :=
  laidMetH_of_parts3 (fuel := 8) (laidMet_of_run' 8 (by kernel_rfl) (by kernel_rfl)) (by kernel_rfl) (by kernel_rfl)
theorem walk {c0 : List AV} {c1 : AV} {c2 : AV} {c3 : List AV} {v0 v1 v2 v3 : Value} {w : World} (hg : Ab.Good w (oldF w) Gw) (h0 : ∃ x : {q : QeaT // Q64 q}, .agg c0 = qeaV x.1) (h1 : ∃ x : {l : List SlotT // ∀ s ∈ l, i64 s.value.int}, [c1] = [s11 x.1]) (h2 : ∃ x : {k : Nat // k < 4294967296}, [c2] = [.int .u32 (x.1 : Int)]) (h3 : ∃ x : {e : EvT // ∀ v ∈ e.args, i64 v.int}, .agg c3 = eventV x.1) (r0 : Rd w (oldF w) n10 (.agg c0) v0) (r1 : Rd w (oldF w) n10 (c1) v1) (r2 : Rd w (oldF w) n10 (c2) v2) (r3 : Rd w (oldF w) n10 (.agg c3) v3) :
    Calls Tryz.prog 5 #[v0, v1, v2, v3] w fun e w' => e = .returned (.bool true) ∧ Below w.heap.size w w' := by
  obtain ⟨x0, e0⟩ := h0
  rw [e0] at r0
  obtain ⟨x1, e1⟩ := h1
  cases e1
  obtain ⟨x2, e2⟩ := h2
  cases e2
  obtain ⟨x3, e3⟩ := h3
  rw [e3] at r3
  exact ((law28_SubsetHits_pc (G := Gw) rfl x0.1 x0.2.nodes x1.1 x2.1 x2.2 x3.1 x3.2) : P_ _ Gw _ _ _).calls_trueG hg (argsR_cons r0 (argsR_cons r1 (argsR_cons r2 (argsR_cons r3 argsR_nil))))
set_option maxRecDepth 100000 in
theorem lifted (os : Os) (started : os.Started) (H : Type) (enc : TypeId × Value → H) :
    ReturnsInHanded {} Tryz.checked os 5 .any (fun w args => (Rows.subsetHitsSpec.pre enc Tryz.prog Tryz.f5 [] false w args ∧ laidMetH Tryz.prog laidL w) ∧ sizedMet enc Tryz.prog Tryz.f5 (OpenSpec.ofChange Rows.subsetHitsSpec) false w args)
      (Rows.subsetHitsSpec.post enc Tryz.prog Tryz.f5 false true false false) := by
  refine returnsInHanded_of_change_and (C := Tryz.checked) (X := fun w _ => laidMetH Tryz.prog laidL w) (fun _ _ _ hh h => h.of_heap hh) own started (by kernel_rfl) Tryz.func5
    (ChangeSpec.witness_shaped (enc := enc) (C := Tryz.checked) (os := os) (X := fun w _ => laidMetH Tryz.prog laidL w) false (World.doorLaid Tryz.prog 400 os) #[.agg #[.string ⟨#[]⟩, .slice none 0 0, .slice none 0 0, .slice none 0 0, .slice none 0 0, .int .i64 0, .slice none 0 0, .slice none 0 0, .slice none 0 0], .slice none 0 0, .int .u32 0, .agg #[.string ⟨#[]⟩, .slice none 0 0]] 8 rfl (World.shaped_of_RefB (by kernel_rfl) (by kernel_rfl)) (by kernel_rfl) (by kernel_rfl) (by kernel_rfl) (door_met os _)) ?_
  intro W base args ds gs before hval0 hW _ _ hL _
  have hval : ∀ (j : Nat) t v, Tryz.f5.params[j]? = some t → args[j]? = some v → Value.okWide Tryz.prog W .any base t v := hval0
  have hW' := hW
  obtain ⟨p, q, hA0, hV, rfl, hfz, hnd⟩ := hW
  have hA : DataW.TrodAll enc Tryz.prog W 0 (fun _ => true) true Tryz.f5.params.toList args.toList ds p := hA0
  have hparams : Tryz.f5.params.toList = [30, 70, 40, 72] := by kernel_rfl
  have hAll := hA
  rw [hparams] at hA
  obtain ⟨v0, vs0, d0, ds0, p0, q0, hargs, rfl, rfl, h0, r0⟩ := trodAll_cons hA
  obtain ⟨v1, vs1, d1, ds1, p1, q1, rfl, rfl, rfl, h1, r1⟩ := trodAll_cons r0
  obtain ⟨v2, vs2, d2, ds2, p2, q2, rfl, rfl, rfl, h2, r2⟩ := trodAll_cons r1
  obtain ⟨v3, vs3, d3, ds3, p3, q3, rfl, rfl, rfl, h3, r3⟩ := trodAll_cons r2
  obtain ⟨rfl, rfl, rfl⟩ := trodAll_nil r3
  obtain rfl : args = #[v0, v1, v2, v3] := by cases args; simp_all
  obtain ⟨rfl, rfl⟩ := trodVars_none hV
  obtain ⟨us0, rfl, _⟩ := okWide_struct (fs := (Tryz.prog.fieldsOf 30)) (by kernel_rfl) (hval 0 30 v0 (by kernel_rfl) rfl)
  obtain ⟨a0, g0, k0⟩ := open_agg rQeaN rfl h0
  obtain ⟨s1, n1, c1, rfl⟩ := okWide_slice (e := 97) (by kernel_rfl) (hval 1 70 v1 (by kernel_rfl) rfl)
  obtain ⟨a1, g1, k1⟩ := open_leaf rSlots rfl h1
  obtain ⟨n2, rfl⟩ := okWide_int (k := .u32) (by kernel_rfl) (hval 2 40 v2 (by kernel_rfl) rfl)
  obtain ⟨a2, g2, k2⟩ := open_leaf rU32 rfl h2
  obtain ⟨us3, rfl, _⟩ := okWide_struct (fs := (Tryz.prog.fieldsOf 72)) (by kernel_rfl) (hval 3 72 v3 (by kernel_rfl) rfl)
  obtain ⟨a3, g3, k3⟩ := open_agg rEvent rfl h3
  have hlt := hW'.lt
  refine (walk (good_laid hL) g0 g1 g2 g3 k0 k1 k2 k3).mono fun e W' ⟨he, hb⟩ => ?_
  subst he
  refine ⟨_, rfl, Ab.post_of_below (pa := (p0 ++ (p1 ++ (p2 ++ (p3 ++ []))))) (pv := []) hW' (fun _ _ _ => ?_) (fun sp hs => ?_) (fun _ _ => rfl) rfl hb (ok_one (by kernel_rfl) rfl (okWide_bool_mk (t := 4) (by kernel_rfl) _))⟩
  · exact trodAll_cons_mk (shut_bool (t := 4) (by kernel_rfl) _) trodAll_mk0
  · refine args_stay laidOut hb ?_ hAll (fun x hx => hlt x (by simpa using hx)) sp (fun x hx => hs x (by simpa using hx))
    rw [hparams]
    kernel_rfl
theorem fact0 : mapsRowed Tryz.prog = true := by kernel_rfl
theorem fact1 : (Rows.subsetHitsRow.inPlace == Tryz.prog.inPlace 5) = true := by kernel_rfl
theorem fact2 : (Rows.subsetHitsRow.unfollowed == Tryz.prog.unfollowed 5) = true := by kernel_rfl
theorem fact3 : (Rows.subsetHitsRow.recurses == Tryz.prog.recurses 5) = true := by kernel_rfl
theorem fact4 : (Rows.subsetHitsRow.named == Tryz.prog.varsNamed 5) = true := by kernel_rfl
theorem fact5 : (Rows.subsetHitsRow.plainKeys == Tryz.prog.plainKeys) = true := by kernel_rfl
theorem fact6 : Tryz.prog.stopsHeard = true := by kernel_rfl
theorem fact7 : Tryz.prog.mayEnter = true := by kernel_rfl
theorem fact8 : (Rows.subsetHitsRow.lifted == Tryz.prog.liftsFinal) = true := by kernel_rfl
theorem fact9 : (Tryz.prog.make == some Rows.subsetHitsRow.make) = true := by kernel_rfl
theorem facts : joinedFacts Tryz.prog 5 Tryz.f5 Rows.subsetHitsSpec Rows.subsetHitsRow = true := by
  unfold joinedFacts
  rw [fact0, fact1, fact2, fact3, fact4, fact5, fact6, fact7, fact8, fact9]
  kernel_rfl
theorem over : Rows.SubsetHitsSaid :=
  OpenClaim.holds_of_wide 5 Tryz.f5 rfl rfl rfl rfl rfl rfl rfl ⟨rfl, rfl, rfl, rfl, rfl⟩ rfl rfl rfl rfl rfl (by kernel_rfl) Tryz.func5 facts
    (of_decide_eq_true (by kernel_rfl)) (by unfold Func.isWrapper; first | (rw [if_pos (by decide +kernel)]; kernel_rfl) | (rw [if_neg (by decide +kernel)]; exact ⟨rfl, rfl⟩))
    (fun os started H enc _ => lifted os started H enc)
theorem proved : Rows.SubsetHitsCardSaid :=
  Claim7.holds_tied_plain_at .later [] [.widerDeep] true (true, "83e2afa12538e0bb58d6f79085591273bba17282942e290ad6a42c8d0e1597a1") true
    over (fun _ h => by cases h) (by kernel_rfl) (fun _ h => by cases h) subsetHits_row_tie rfl ⟨rfl, rfl⟩ (by kernel_rfl) rfl
    (fun f fn hf hfn => by
      obtain rfl : f = 5 := Option.some.inj ((show Tryz.prog.funcNamed "proctor/proctorlaw28.SubsetHits" = some 5 by kernel_rfl).symm.trans hf) |>.symm
      obtain rfl : fn = Tryz.f5 := (Option.some.inj (Tryz.func5.symm.trans hfn)).symm
      exact ⟨by kernel_rfl, fun j t ht => by
        have hall : (Tryz.f5.params.toList.all fun u => !Tryz.prog.wantsStandIn u) = true := by kernel_rfl
        have hm : t ∈ Tryz.f5.params.toList := Array.mem_toList_iff.2 (Array.mem_of_getElem? ht)
        exact (show Tryz.prog.wantsStandIn t = false by simpa using List.all_eq_true.1 hall t hm)⟩)
    (by kernel_rfl)
#print axioms proved
end Go.Proofs.YtjbcfpkibnhodaaGreatDoor.subsetHits
