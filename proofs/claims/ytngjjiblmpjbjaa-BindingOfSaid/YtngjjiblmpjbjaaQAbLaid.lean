/-
  Variables that are laid, as the reading of known variables has them. No claim is proved here.
-/
import Derived.Test.YtngjjiblmpjbjaaQAbTrod
import Derived.FnData
import Derived.Test.YtngjjiblmpjbjaaQN0
namespace Go.Proofs.Ytngjjiblmpjbjaa.Ab
open Go Go.RowKit Go.ChangeShapes Go.WideShapes
theorem cell_lt {W : World} {g o : Nat} {v : Value} (h : W.cell? ⟨g, o, none⟩ = some v) : g < W.heap.size := by
  unfold World.cell? at h
  split at h
  · rename_i c _ _ hb
    exact (Array.getElem?_eq_some_iff.1 hb).1
  · cases h
/-- A law's contract, in the row's words, where variables are known. -/
theorem PureC.calls_trueG {P : Program} {G : Nat → Option AV} {f : Nat} {args : List AV} (h : PureC P G f args (.bool true)) {w : World} {F : Nat → Prop} {vs : Array Value} (hg : Good w F G) (ha : ArgsR w F args vs) :
    Calls P f vs w fun e w' => e = .returned (.bool true) ∧ Below w.heap.size w w' := by
  refine (h w F vs hg ha).mono ?_
  rintro e w' ⟨v, F', rfl, _, _, _, hr, hb⟩
  cases hr
  exact ⟨rfl, hb⟩
end Go.Proofs.Ytngjjiblmpjbjaa.Ab
