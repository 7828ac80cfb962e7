/-
  From a row's reading to the contracts, and back. No claim is proved here.
-/
import Derived.Test.YtdfdiglnpekcpaaDoorAbRun
import Derived.WalkKit
import Derived.ProofKit
import Derived.OpenShut
import Derived.Below
namespace Go.Proofs.YtdfdiglnpekcpaaDoor.Ab
open Go Go.RowKit Go.ChangeShapes
variable {H : Type} {enc : TypeId × Value → H} {P : Program}
/-- The row's 'post', where the call has made blocks of its own only, and the results hold no memory. -/
theorem post_of_below {f : Func} {s : ChangeSpec} {apart fresh handsOn again : Bool} {W W' : World} {args : Array Value} {v : Value} {ds gs : List (DataW H)} {before pa pv : List MemPlace}
    (hW : DataW.Whole enc P f.params.toList s.vars apart W args.toList ds gs before)
    (hres : ∀ (b : Nat) (sp : Nat → Bool) (hd : Bool), DataW.TrodAll enc P W' b sp hd f.resultTypes.toList (v.resultList f.resultTypes.size) (s.fn H (ds ++ gs)).results [])
    (hargs : ∀ sp : Nat → Bool, (∀ p ∈ before, sp p.block = true) → DataW.TrodAll enc P W' 0 sp true f.params.toList args.toList (s.fn H (ds ++ gs)).args pa)
    (hvars : ∀ sp : Nat → Bool, (∀ p ∈ before, sp p.block = true) → DataW.TrodVars enc P W' sp s.vars (s.fn H (ds ++ gs)).vars pv)
    (hps : before = pa ++ pv) (hb : Below W.heap.size W W')
    (hok : ∀ (j : Nat) (t : TypeId) (r : Value), f.resultTypes[j]? = some t → (v.resultList f.resultTypes.size)[j]? = some r → Value.okWide P W' .any 0 t r) :
    s.post enc P f apart fresh handsOn again W args v W' := by
  have hlt := fun p hp => hW.lt p hp
  have hold : ∀ p ∈ before, (fun b => decide (b < W.heap.size)) p.block = true := fun p hp => by simpa using hlt p hp
  have hw := hW
  obtain ⟨_, _, _, _, _, hz, hn⟩ := hw
  subst hps
  refine ⟨ds, gs, pa ++ pv, [], pa, pv, hW, hres _ _ _, hargs _ hold, hvars _ hold, hb.frame _, fun _ => ⟨hok, _, _, ([] ++ pa) ++ pv, ⟨[] ++ pa, pv, trodAll_append (hargs _ fun _ _ => rfl) (hres _ _ _), hvars _ fun _ _ => rfl, rfl, fun b off hp => ?_, fun ha => by simpa using hn ha⟩, fun p hp _ => by simpa using hp⟩⟩
  have hp' : MemPlace.cell b off ∈ pa ++ pv := by simpa using hp
  have := hlt _ hp'
  have hf := hb.frozen (p := ⟨b, off, none⟩) this
  exact hf.trans (hz b off hp')

theorem argsR_nil {w : World} {F : Nat → Prop} : ArgsR w F [] #[] := ⟨rfl, fun j c u h => by simp at h⟩
theorem argsR_cons {w : World} {F : Nat → Prop} {c : AV} {u : Value} {cs : List AV} {us : List Value} (h : Rd w F noNames c u) (hs : ArgsR w F cs us.toArray) : ArgsR w F (c :: cs) (u :: us).toArray := by
  refine ⟨by have := hs.1; simp at this; simp [this], fun j d x hd hx => ?_⟩
  match j with
  | 0 => simp at hd hx; subst hd; subst hx; exact h
  | j + 1 => exact hs.2 j d x (by simpa using hd) (by simpa using hx)
theorem good_none {w : World} {F : Nat → Prop} (h : ∀ b, F b → b < w.heap.size) : Good w F fun _ => none := ⟨h, fun _ _ e => by simp at e⟩

/-- A law's contract, in the row's words. -/
theorem PureC.calls_true {P : Program} {f : Nat} {args : List AV} (h : PureC P (fun _ => none) f args (.bool true)) {w : World} {F : Nat → Prop} {vs : Array Value} (hF : ∀ b, F b → b < w.heap.size) (ha : ArgsR w F args vs) :
    Calls P f vs w fun e w' => e = .returned (.bool true) ∧ Below w.heap.size w w' := by
  refine (h w F vs (good_none hF) ha).mono ?_
  rintro e w' ⟨v, F', rfl, _, _, _, hr, hb⟩
  cases hr
  exact ⟨rfl, hb⟩
end Go.Proofs.YtdfdiglnpekcpaaDoor.Ab
