/-
  It is proved that proctorlaw05.BindingParts returns true for all slots and numbers and turns nothing that was there (Rows.BindingPartsSaid).
-/
import Derived.Test.YtjkdpahaingjjaaRows
import Derived.Test.YtjkdpahaingjjaaYC3
import Derived.Test.YtjkdpahaingjjaaYPa3
import Derived.Test.YtjkdpahaingjjaaYSo4
import Derived.Test.YtjkdpahaingjjaaYAbTrod
namespace Go.Proofs.Ytjkdpahaingjjaa.bindingParts
open Go.ChangeShapes Go.WideShapes Go.ChangeAt Go.RowKit Go.Proofs.Ytjkdpahaingjjaa.Ab
theorem own : ownKnob Try.prog.godebug = none := by kernel_rfl
theorem laidOut : laidOutB Try.prog = true := by kernel_rfl
theorem walk {c0 : AV} {c1 : AV} {v0 v1 : Value} {w : World} (hg : Ab.Good w (oldF w) (fun _ => none)) (h0 : ∃ x : {l : List SlotT // SlotsOk l}, [c0] = [slotsV x.1]) (h1 : ∃ x : List Int, [c1] = [.seq 1 (x.map iv)]) (r0 : Rd w (oldF w) noNames (c0) v0) (r1 : Rd w (oldF w) noNames (c1) v1) :
    Calls Try.prog 5 #[v0, v1] w fun e w' => e = .returned (.bool true) ∧ Below w.heap.size w w' := by
  obtain ⟨x0, e0⟩ := h0
  cases e0
  obtain ⟨x1, e1⟩ := h1
  cases e1
  exact ((law05_BindingParts_pc (G := fun _ => none) order_hc x0.1 x1 x0.2.n64) : PureC _ (fun _ => none) _ _ _).calls_trueG hg (argsR_cons r0 (argsR_cons r1 argsR_nil))
set_option maxRecDepth 100000 in
theorem lifted (os : Os) (started : os.Started) (H : Type) (enc : TypeId × Value → H) :
    ReturnsInHanded {} Try.checked os 5 .any (Rows.bindingPartsSpec.pre6 enc Try.prog Try.f5 Rows.bindingPartsRow.domain false) (Rows.bindingPartsSpec.post enc Try.prog Try.f5 false true false false) := by
  refine returnsInHanded_of_change (C := Try.checked) own started (by kernel_rfl) Try.func5
    (ChangeSpec.witness6 (enc := enc) (C := Try.checked) false ⟨#[], #[.slice none 0 0, .slice none 0 0], []⟩ 8 (by kernel_rfl) (by kernel_rfl) (by kernel_rfl) (by kernel_rfl)) ?_
  intro W base args ds gs before hval0 hW hcnd _
  have hval : ∀ (j : Nat) t v, Try.f5.params[j]? = some t → args[j]? = some v → Value.okWide Try.prog W .any base t v := hval0
  have hW' := hW
  obtain ⟨p, q, hA0, hV, rfl, hfz, hnd⟩ := hW
  have hA : DataW.TrodAll enc Try.prog W 0 (fun _ => true) true Try.f5.params.toList args.toList ds p := hA0
  have hparams : Try.f5.params.toList = [22, 35] := by kernel_rfl
  have hAll := hA
  rw [hparams] at hA
  obtain ⟨v0, vs0, d0, ds0, p0, q0, hargs, rfl, rfl, h0, r0⟩ := trodAll_cons hA
  obtain ⟨v1, vs1, d1, ds1, p1, q1, rfl, rfl, rfl, h1, r1⟩ := trodAll_cons r0
  obtain ⟨rfl, rfl, rfl⟩ := trodAll_nil r1
  obtain rfl : args = #[v0, v1] := by cases args; simp_all
  obtain ⟨rfl, rfl⟩ := trodVars_none hV
  obtain ⟨s0, n0, c0, rfl⟩ := okWide_slice (e := 40) (by kernel_rfl) (hval 0 22 v0 (by kernel_rfl) rfl)
  obtain ⟨a0, g0, k0⟩ := open_leaf rSlotsB rfl h0
  obtain ⟨s1, n1, c1, rfl⟩ := okWide_slice (e := 3) (by kernel_rfl) (hval 1 35 v1 (by kernel_rfl) rfl)
  obtain ⟨a1, g1, k1⟩ := open_leaf rIntsP rfl h1
  have hlt := hW'.lt
  refine (walk (good_none fun _ h => h) g0 g1 k0 k1).mono fun e W' ⟨he, hb⟩ => ?_
  subst he
  refine ⟨_, rfl, Ab.post_of_below (pa := (p0 ++ (p1 ++ []))) (pv := []) hW' (fun _ _ _ => ?_) (fun sp hs => ?_) (fun _ _ => rfl) rfl hb (ok_one (by kernel_rfl) rfl (okWide_bool_mk (t := 4) (by kernel_rfl) _))⟩
  · exact trodAll_cons_mk (shut_bool (t := 4) (by kernel_rfl) _) trodAll_mk0
  · refine args_stay laidOut hb ?_ hAll (fun x hx => hlt x (by simpa using hx)) sp (fun x hx => hs x (by simpa using hx))
    rw [hparams]
    kernel_rfl
theorem over : Rows.BindingPartsSaid :=
  OpenClaim.holds_of_wide 5 Try.f5 rfl rfl rfl rfl rfl rfl rfl ⟨rfl, rfl, rfl, rfl, rfl⟩ rfl rfl rfl rfl rfl (by kernel_rfl) Try.func5 (by kernel_rfl)
    (of_decide_eq_true (by kernel_rfl)) (by unfold Func.isWrapper; first | (rw [if_pos (by decide +kernel)]; kernel_rfl) | (rw [if_neg (by decide +kernel)]; exact ⟨rfl, rfl⟩))
    (fun os started H enc _ => lifted os started H enc)
/-- The statement. -/
theorem proved : Rows.BindingPartsSaid :=
  over
#print axioms proved
end Go.Proofs.Ytjkdpahaingjjaa.bindingParts
