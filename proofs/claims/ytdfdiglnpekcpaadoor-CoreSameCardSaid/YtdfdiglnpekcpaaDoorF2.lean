/-
  It is proved that proctorlaw13.CoreSame returns true for every two automata and turns nothing that was there, where the listed variable proctor/schema.words holds what the program's text lays in it; and the card that ties this (Rows.CoreSameCardSaid).
-/
import Derived.Test.YtdfdiglnpekcpaaDoorRows
import Derived.Test.YtdfdiglnpekcpaaDoorCards
import Derived.Test.YtdfdiglnpekcpaaDoorTie
import Derived.Test.YtdfdiglnpekcpaaDoorS3
import Derived.Test.YtdfdiglnpekcpaaDoorAbQea
import Derived.Test.YtdfdiglnpekcpaaDoorAbTrod
import Derived.Test.YtdfdiglnpekcpaaDoorAbLaid
import Derived.MakeChecks
import Derived.LaidMore
import Derived.LaidHandle
namespace Go.Proofs.YtdfdiglnpekcpaaDoor.coreSame
open Go.ChangeShapes Go.WideShapes Go.ChangeAt Go.RowKit Go.Proofs.YtdfdiglnpekcpaaDoor.Ab

theorem own : ownKnob Tryd.prog.godebug = none := by kernel_rfl
theorem laidOut : laidOutB Tryd.prog = true := by kernel_rfl
def laidL : List (String × DataW Unit) := [("proctor/schema.words", Rows.laid_proctor_schema_words)]
def Gw (g : Nat) : Option AV := if g = 2 then some (.agg (wordsL.map AV.str)) else none
theorem good_laid {W : World} (h : laidMetH Tryd.prog laidL W) : Ab.Good W (oldF W) Gw := by
  rw [MakeChecks.laidMetH_plain _ _ _ (by kernel_rfl)] at h
  refine ⟨fun b hb => hb, fun g e he => ?_⟩
  unfold Gw at he
  split at he
  · rename_i hg; subst hg; cases he
    obtain ⟨g, t, cs, fuel, p, hg, ht, hcell, hd⟩ := laid_at 0 h rfl
    obtain rfl := Option.some.inj ((show Tryd.prog.globalNamed "proctor/schema.words" = some 2 by kernel_rfl).symm.trans hg)
    obtain rfl := Option.some.inj ((show (Tryd.prog.globals[2]?).map (·.type) = some 178 by kernel_rfl).symm.trans ht)
    exact strs_laid (l := wordsL) (e := 9) (by decide) (by kernel_rfl) (by kernel_rfl) (by kernel_rfl) hcell hd
  cases he
theorem door_met (os : Os) (args : Array Value) : laidMetH Tryd.prog laidL ((World.doorLaid Tryd.prog 400 os).forCall (fun _ _ => 0) ⟨#[], args, []⟩).memory :=
  laidMetH_of_parts3 (fuel := 8) (laidMet_of_run' 8 (by kernel_rfl) (by kernel_rfl)) (by kernel_rfl) (by kernel_rfl)

theorem walk {c0 : List AV} {c1 : List AV} {v0 v1 : Value} {w : World} (hg : Ab.Good w (oldF w) Gw) (h0 : ∃ x : QeaT, .agg c0 = qeaV x) (h1 : ∃ x : QeaT, .agg c1 = qeaV x) (r0 : Rd w (oldF w) noNames (.agg c0) v0) (r1 : Rd w (oldF w) noNames (.agg c1) v1) :
    Calls Tryd.prog 4 #[v0, v1] w fun e w' => e = .returned (.bool true) ∧ Below w.heap.size w w' := by
  obtain ⟨x0, e0⟩ := h0
  rw [e0] at r0
  obtain ⟨x1, e1⟩ := h1
  rw [e1] at r1
  exact ((law13_CoreSame_pc (G := Gw) rfl x0 x1) : PureC _ Gw _ _ _).calls_trueG hg (argsR_cons r0 (argsR_cons r1 argsR_nil))

set_option maxRecDepth 100000 in
theorem lifted (os : Os) (started : os.Started) (H : Type) (enc : TypeId × Value → H) :
    ReturnsInHanded {} Tryd.checked os 4 .any (fun w args => (Rows.coreSameSpec.pre enc Tryd.prog Tryd.f4 [] false w args ∧ laidMetH Tryd.prog laidL w) ∧ sizedMet enc Tryd.prog Tryd.f4 (OpenSpec.ofChange Rows.coreSameSpec) false w args)
      (Rows.coreSameSpec.post enc Tryd.prog Tryd.f4 false true false false) := by
  refine returnsInHanded_of_change_and (C := Tryd.checked) (X := fun w _ => laidMetH Tryd.prog laidL w) (fun _ _ _ hh h => h.of_heap hh) own started (by kernel_rfl) Tryd.func4
    (ChangeSpec.witness_shaped (enc := enc) (C := Tryd.checked) (os := os) (X := fun w _ => laidMetH Tryd.prog laidL w) false (World.doorLaid Tryd.prog 400 os) #[.agg #[.string ⟨#[]⟩, .slice none 0 0, .slice none 0 0, .slice none 0 0, .slice none 0 0, .int .i64 0, .slice none 0 0, .slice none 0 0, .slice none 0 0], .agg #[.string ⟨#[]⟩, .slice none 0 0, .slice none 0 0, .slice none 0 0, .slice none 0 0, .int .i64 0, .slice none 0 0, .slice none 0 0, .slice none 0 0]] 8 rfl (World.shaped_of_RefB (by kernel_rfl) (by kernel_rfl)) (by kernel_rfl) (by kernel_rfl) (by kernel_rfl) (door_met os _)) ?_
  intro W base args ds gs before hval0 hW _ _ hL _
  have hval : ∀ (j : Nat) t v, Tryd.f4.params[j]? = some t → args[j]? = some v → Value.okWide Tryd.prog W .any base t v := hval0
  have hW' := hW
  obtain ⟨p, q, hA0, hV, rfl, hfz, hnd⟩ := hW
  have hA : DataW.TrodAll enc Tryd.prog W 0 (fun _ => true) true Tryd.f4.params.toList args.toList ds p := hA0
  have hparams : Tryd.f4.params.toList = [46, 46] := by kernel_rfl
  have hAll := hA
  rw [hparams] at hA
  obtain ⟨v0, vs0, d0, ds0, p0, q0, hargs, rfl, rfl, h0, r0⟩ := trodAll_cons hA
  obtain ⟨v1, vs1, d1, ds1, p1, q1, rfl, rfl, rfl, h1, r1⟩ := trodAll_cons r0
  obtain ⟨rfl, rfl, rfl⟩ := trodAll_nil r1
  obtain rfl : args = #[v0, v1] := by cases args; simp_all
  obtain ⟨rfl, rfl⟩ := trodVars_none hV
  obtain ⟨us0, rfl, _⟩ := okWide_struct (fs := (Tryd.prog.fieldsOf 46)) (by kernel_rfl) (hval 0 46 v0 (by kernel_rfl) rfl)
  obtain ⟨a0, g0, k0⟩ := open_agg rQea rfl h0
  obtain ⟨us1, rfl, _⟩ := okWide_struct (fs := (Tryd.prog.fieldsOf 46)) (by kernel_rfl) (hval 1 46 v1 (by kernel_rfl) rfl)
  obtain ⟨a1, g1, k1⟩ := open_agg rQea rfl h1
  have hlt := hW'.lt
  refine (walk (good_laid hL) g0 g1 k0 k1).mono fun e W' ⟨he, hb⟩ => ?_
  subst he
  refine ⟨_, rfl, Ab.post_of_below (pa := (p0 ++ (p1 ++ []))) (pv := []) hW' (fun _ _ _ => ?_) (fun sp hs => ?_) (fun _ _ => rfl) rfl hb (ok_one (by kernel_rfl) rfl (okWide_bool_mk (t := 4) (by kernel_rfl) _))⟩
  · exact trodAll_cons_mk (shut_bool (t := 4) (by kernel_rfl) _) trodAll_mk0
  · refine args_stay laidOut hb ?_ hAll (fun x hx => hlt x (by simpa using hx)) sp (fun x hx => hs x (by simpa using hx))
    rw [hparams]
    kernel_rfl

theorem over : Rows.CoreSameSaid :=
  OpenClaim.holds_of_wide 4 Tryd.f4 rfl rfl rfl rfl rfl rfl rfl ⟨rfl, rfl, rfl, rfl, rfl⟩ rfl rfl rfl rfl rfl (by kernel_rfl) Tryd.func4 (by kernel_rfl)
    (of_decide_eq_true (by kernel_rfl)) (by unfold Func.isWrapper; first | (rw [if_pos (by decide +kernel)]; kernel_rfl) | (rw [if_neg (by decide +kernel)]; exact ⟨rfl, rfl⟩))
    (fun os started H enc _ => lifted os started H enc)

/-- The statement: the tied card. -/
theorem proved : Rows.CoreSameCardSaid :=
  Claim7.holds_tied_plain_at .later [] [.widerDeep] true (true, "21a3b0f4c963ceee25534825f4acee80f786b60b31cf305c9f4cc014d701de34") false
    over (fun _ h => by cases h) (by kernel_rfl) (fun _ h => by cases h) coreSame_row_tie rfl ⟨rfl, rfl⟩ (by kernel_rfl) rfl
    (fun f fn hf hfn => by
      obtain rfl : f = 4 := Option.some.inj ((show Tryd.prog.funcNamed "proctor/proctorlaw13.CoreSame" = some 4 by kernel_rfl).symm.trans hf) |>.symm
      obtain rfl : fn = Tryd.f4 := (Option.some.inj (Tryd.func4.symm.trans hfn)).symm
      exact ⟨by kernel_rfl, fun j t ht => by
        have hall : (Tryd.f4.params.toList.all fun u => !Tryd.prog.wantsStandIn u) = true := by kernel_rfl
        have hm : t ∈ Tryd.f4.params.toList := Array.mem_toList_iff.2 (Array.mem_of_getElem? ht)
        exact (show Tryd.prog.wantsStandIn t = false by simpa using List.all_eq_true.1 hall t hm)⟩)
    (by kernel_rfl)
#print axioms proved
end Go.Proofs.YtdfdiglnpekcpaaDoor.coreSame
