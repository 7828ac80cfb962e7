/-
  It is proved that proctorlaw13.CoreRight returns true for every automaton and turns nothing that was there, where the listed variable proctor/schema.words holds what the program's text lays in it; and the card that ties this (Rows.CoreRightCardSaid).
-/
import Derived.Test.YtdfdiglnpekcpaaGreatDoorRows
import Derived.Test.YtdfdiglnpekcpaaGreatDoorCards
import Derived.Test.YtdfdiglnpekcpaaGreatDoorTie
import Derived.Test.YtdfdiglnpekcpaaGreatDoorD26
import Derived.Test.YtdfdiglnpekcpaaGreatDoorAbQea
import Derived.Test.YtdfdiglnpekcpaaGreatDoorAbLaid
import Derived.MakeChecks
import Derived.LaidMore
import Derived.LaidHandle
namespace Go.Proofs.YtdfdiglnpekcpaaGreatDoor.coreRight
open Go.ChangeShapes Go.WideShapes Go.ChangeAt Go.RowKit Go.Proofs.YtdfdiglnpekcpaaGreatDoor.Ab

theorem own : ownKnob Tryz.prog.godebug = none := by kernel_rfl
theorem laidOut : laidOutB Tryz.prog = true := by kernel_rfl
theorem gWords : Tryz.prog.globalNamed "proctor/schema.words" = some 0 := by kernel_rfl
theorem tWords : (Tryz.prog.globals[0]?).map (·.type) = some 130 := by kernel_rfl
def laidL : List (String × DataW Unit) := [("proctor/schema.words", Rows.laid_proctor_schema_words)]
def Gw (g : Nat) : Option AV := if g = 0 then some (.agg (wordsL.map AV.str)) else none
theorem gw_ok : words_global Gw := rfl
theorem good_words {W : World} (h : laidMetH Tryz.prog laidL W) : Ab.Good W (oldF W) Gw := by
  rw [MakeChecks.laidMetH_plain _ _ _ (by kernel_rfl)] at h
  obtain ⟨g, t, cs, fuel, p, hg, ht, hcell, hd⟩ := laid_one h
  obtain rfl := Option.some.inj (gWords.symm.trans hg)
  obtain rfl := Option.some.inj (tWords.symm.trans ht)
  refine ⟨fun b hb => hb, fun g e he => ?_⟩
  unfold Gw at he
  split at he
  · rename_i hg; subst hg; cases he
    exact strs_laid (l := wordsL) (e := 9) (by decide) (by kernel_rfl) (by kernel_rfl) (by kernel_rfl) hcell hd
  · cases he
theorem door_met (os : Os) (args : Array Value) : laidMetH Tryz.prog laidL ((World.doorLaid Tryz.prog 400 os).forCall (fun _ _ => 0) ⟨#[], args, []⟩).memory :=
  laidMetH_of_parts3 (fuel := 8) (laidMet_of_run' 8 (by kernel_rfl) (by kernel_rfl)) (by kernel_rfl) (by kernel_rfl)

theorem walk {cs : List AV} {v : Value} {w : World} (hg : Ab.Good w (oldF w) Gw) (h : ∃ q : QeaT, .agg cs = qeaV q) (r : Rd w (oldF w) noNames (.agg cs) v) :
    Calls Tryz.prog 3 #[v] w fun e w' => e = .returned (.bool true) ∧ Below w.heap.size w w' := by
  obtain ⟨q, e⟩ := h
  rw [e] at r
  exact (law13_CoreRight_pc gw_ok q).calls_trueG hg (argsR_cons r argsR_nil)

set_option maxRecDepth 100000 in
theorem lifted (os : Os) (started : os.Started) (H : Type) (enc : TypeId × Value → H) :
    ReturnsInHanded {} Tryz.checked os 3 .any (fun w args => (Rows.coreRightSpec.pre enc Tryz.prog Tryz.f3 [] false w args ∧ laidMetH Tryz.prog laidL w) ∧ sizedMet enc Tryz.prog Tryz.f3 (OpenSpec.ofChange Rows.coreRightSpec) false w args)
      (Rows.coreRightSpec.post enc Tryz.prog Tryz.f3 false true false false) := by
  refine returnsInHanded_of_change_and (C := Tryz.checked) (X := fun w _ => laidMetH Tryz.prog laidL w) (fun _ _ _ hh h => h.of_heap hh) own started (by kernel_rfl) Tryz.func3
    (ChangeSpec.witness_shaped (enc := enc) (C := Tryz.checked) (os := os) (X := fun w _ => laidMetH Tryz.prog laidL w) false (World.doorLaid Tryz.prog 400 os) #[.agg #[.string ⟨#[]⟩, .slice none 0 0, .slice none 0 0, .slice none 0 0, .slice none 0 0, .int .i64 0, .slice none 0 0, .slice none 0 0, .slice none 0 0]] 8 rfl (World.shaped_of_RefB (by kernel_rfl) (by kernel_rfl)) (by kernel_rfl) (by kernel_rfl) (by kernel_rfl) (door_met os _)) ?_
  intro W base args ds gs before hval0 hW _ _ hL _
  have hval : ∀ (j : Nat) t v, Tryz.f3.params[j]? = some t → args[j]? = some v → Value.okWide Tryz.prog W .any base t v := hval0
  have hW' := hW
  obtain ⟨p, q, hA0, hV, rfl, hfz, hnd⟩ := hW
  have hA : DataW.TrodAll enc Tryz.prog W 0 (fun _ => true) true Tryz.f3.params.toList args.toList ds p := hA0
  have hparams : Tryz.f3.params.toList = [30] := by kernel_rfl
  have hAll := hA
  rw [hparams] at hA
  obtain ⟨v0, vs0, d0, ds0, p0, q0, hargs, rfl, rfl, h0, r0⟩ := trodAll_cons hA
  obtain ⟨rfl, rfl, rfl⟩ := trodAll_nil r0
  obtain rfl : args = #[v0] := by cases args; simp_all
  obtain ⟨rfl, rfl⟩ := trodVars_none hV
  obtain ⟨us, rfl, _⟩ := okWide_struct (fs := (Tryz.prog.fieldsOf 30)) (by kernel_rfl) (hval 0 30 v0 (by kernel_rfl) rfl)
  obtain ⟨a0, g0, k0⟩ := open_agg rQea rfl h0
  have hlt := hW'.lt
  refine (walk (good_words hL) g0 k0).mono fun e W' ⟨he, hb⟩ => ?_
  subst he
  refine ⟨_, rfl, Ab.post_of_below (pa := p0 ++ []) (pv := []) hW' (fun _ _ _ => ?_) (fun sp hs => ?_) (fun _ _ => rfl) rfl hb (ok_one (by kernel_rfl) rfl (okWide_bool_mk (t := 4) (by kernel_rfl) _))⟩
  · exact trodAll_cons_mk (shut_bool (t := 4) (by kernel_rfl) _) trodAll_mk0
  · refine args_stay laidOut hb ?_ hAll (fun x hx => hlt x (by simpa using hx)) sp (fun x hx => hs x (by simpa using hx))
    rw [hparams]
    kernel_rfl

theorem over : Rows.CoreRightSaid :=
  OpenClaim.holds_of_wide 3 Tryz.f3 rfl rfl rfl rfl rfl rfl rfl ⟨rfl, rfl, rfl, rfl, rfl⟩ rfl rfl rfl rfl rfl (by kernel_rfl) Tryz.func3 (by kernel_rfl)
    (of_decide_eq_true (by kernel_rfl)) (by unfold Func.isWrapper; first | (rw [if_pos (by decide +kernel)]; kernel_rfl) | (rw [if_neg (by decide +kernel)]; exact ⟨rfl, rfl⟩))
    (fun os started H enc _ => lifted os started H enc)

/-- The statement: the tied card. -/
theorem proved : Rows.CoreRightCardSaid :=
  Claim7.holds_tied_plain_at .later [] [.widerDeep] true (true, "23367b6acc2892abc46baad41af5e11018c214a8cc97e580a745edee161f35a5") false
    over (fun _ h => by cases h) (by kernel_rfl) (fun _ h => by cases h) coreRight_row_tie rfl ⟨rfl, rfl⟩ (by kernel_rfl) rfl
    (fun f fn hf hfn => by
      obtain rfl : f = 3 := Option.some.inj ((show Tryz.prog.funcNamed "proctor/proctorlaw13.CoreRight" = some 3 by kernel_rfl).symm.trans hf) |>.symm
      obtain rfl : fn = Tryz.f3 := (Option.some.inj (Tryz.func3.symm.trans hfn)).symm
      exact ⟨by kernel_rfl, fun j t ht => by
        have hall : (Tryz.f3.params.toList.all fun u => !Tryz.prog.wantsStandIn u) = true := by kernel_rfl
        have hm : t ∈ Tryz.f3.params.toList := Array.mem_toList_iff.2 (Array.mem_of_getElem? ht)
        exact (show Tryz.prog.wantsStandIn t = false by simpa using List.all_eq_true.1 hall t hm)⟩)
    (by kernel_rfl)
#print axioms proved
end Go.Proofs.YtdfdiglnpekcpaaGreatDoor.coreRight
