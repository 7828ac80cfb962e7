/-
  No cell of these rows narrows 'for every input' (looked for: loops, veiled, ifaces, maps, wideKeys, modest, calm, conditions, laid).
  DERIVED. THE GIVEN ROWS OF THIS SEAT. 4 by the template 'for every input the law returns true; each argument reads behind the call as it read before'; 0 by the template 'total and deterministic' (their statements: YtdfdiglnpekcpaaTotals.lean).
  GIVEN WITH THE SEED: the statements are not yours to turn. If you find one false, say at which input.
  Laid BY PROGRAM, IN A SANDBOX (cutbox-rows.mjs): the forced cells as the released guide's own fill.sh prints them over the translation abbd8ee9c32f0835… (all of the seat's roots in one cut). By AI agents, Wed Nov 11 2026. No macro, syntax, notation, axiom, sorry.
-/
import Derived.Test.YtdfdiglnpekcpaaChecked
import GoSem.Claim
import GoSem.ClaimJoined
import GoSem.ClaimMapViews
import Derived.JoinedTies
import Derived.KernelRfl
namespace Go.Proofs.Ytdfdiglnpekcpaa
/- THE CELL 'sum', in the pinned program and in every row, IS THE sha256 OF THE DUMP (.gsa) THAT YtdfdiglnpekcpaaProg.lean LOADS. Nothing in Lean hashes anything: it is a label: what it is worth is what the hold of that sum in a sandbox is worth. -/
noncomputable def Try.pinned : Pinned := { name := "ytdfdiglnpekcpaa", sum := "abbd8ee9c32f08356ec8b962e62850a15fc1b9b06814e0290f83922cb8201ab0", checked := Try.checked }
namespace Rows
def none {H : Type} : Left H := { results := [], args := [] }

/-- 'proctorlaw43.EightOptions': WHATEVER THE INPUT: true; the input reads as it did. -/
def eightOptionsSpec : ChangeSpec := { name := "eightOptions", fn := fun _ => fun
  | [d1, d2] => { results := [.lit (.bool true)], args := [d1, d2] }
  | _ => none }
def eightOptionsRow : OpenClaim := { program := "ytdfdiglnpekcpaa", sum := "abbd8ee9c32f08356ec8b962e62850a15fc1b9b06814e0290f83922cb8201ab0", func := "proctor/proctorlaw43.EightOptions", spec := "eightOptions", apart := false }
def EightOptionsSaid : Prop := eightOptionsRow.holds Try.pinned (OpenSpec.ofChange eightOptionsSpec)

/-- ITS FALSE NEIGHBOUR: 'it returns false'. Refute it at one input. -/
def eightOptionsWrong : ChangeSpec := { name := "eightOptions", fn := fun _ => fun
  | [d1, d2] => { results := [.lit (.bool false)], args := [d1, d2] }
  | _ => none }
def EightOptionsWrongFalsely : Prop := eightOptionsRow.holds Try.pinned (OpenSpec.ofChange eightOptionsWrong)

/-- 'proctorlaw42.ReportBest': WHATEVER THE INPUT: true; the input reads as it did. -/
def reportBestSpec : ChangeSpec := { name := "reportBest", fn := fun _ => fun
  | [d1, d2] => { results := [.lit (.bool true)], args := [d1, d2] }
  | _ => none }
def reportBestRow : OpenClaim := { program := "ytdfdiglnpekcpaa", sum := "abbd8ee9c32f08356ec8b962e62850a15fc1b9b06814e0290f83922cb8201ab0", func := "proctor/proctorlaw42.ReportBest", spec := "reportBest", unfollowed := true, recurses := true, apart := false }
def ReportBestSaid : Prop := reportBestRow.holds Try.pinned (OpenSpec.ofChange reportBestSpec)

/-- ITS FALSE NEIGHBOUR: 'it returns false'. Refute it at one input. -/
def reportBestWrong : ChangeSpec := { name := "reportBest", fn := fun _ => fun
  | [d1, d2] => { results := [.lit (.bool false)], args := [d1, d2] }
  | _ => none }
def ReportBestWrongFalsely : Prop := reportBestRow.holds Try.pinned (OpenSpec.ofChange reportBestWrong)

/-- 'proctorlaw05.BindingOf': WHATEVER THE INPUT: true; the input reads as it did. -/
def bindingOfSpec : ChangeSpec := { name := "bindingOf", fn := fun _ => fun
  | [d1, d2] => { results := [.lit (.bool true)], args := [d1, d2] }
  | _ => none }
def bindingOfRow : OpenClaim := { program := "ytdfdiglnpekcpaa", sum := "abbd8ee9c32f08356ec8b962e62850a15fc1b9b06814e0290f83922cb8201ab0", func := "proctor/proctorlaw05.BindingOf", spec := "bindingOf", inPlace := ["slices.overlaps[proctor/api.Slot]"], unfollowed := true, recurses := true, apart := false }
def BindingOfSaid : Prop := bindingOfRow.holds Try.pinned (OpenSpec.ofChange bindingOfSpec)

/-- ITS FALSE NEIGHBOUR: 'it returns false'. Refute it at one input. -/
def bindingOfWrong : ChangeSpec := { name := "bindingOf", fn := fun _ => fun
  | [d1, d2] => { results := [.lit (.bool false)], args := [d1, d2] }
  | _ => none }
def BindingOfWrongFalsely : Prop := bindingOfRow.holds Try.pinned (OpenSpec.ofChange bindingOfWrong)

/-- 'proctorlaw05.BindingPairs': WHATEVER THE INPUT: true; the input reads as it did. -/
def bindingPairsSpec : ChangeSpec := { name := "bindingPairs", fn := fun _ => fun
  | [d1, d2] => { results := [.lit (.bool true)], args := [d1, d2] }
  | _ => none }
def bindingPairsRow : OpenClaim := { program := "ytdfdiglnpekcpaa", sum := "abbd8ee9c32f08356ec8b962e62850a15fc1b9b06814e0290f83922cb8201ab0", func := "proctor/proctorlaw05.BindingPairs", spec := "bindingPairs", inPlace := ["slices.overlaps[proctor/api.Slot]"], unfollowed := true, recurses := true, apart := false }
def BindingPairsSaid : Prop := bindingPairsRow.holds Try.pinned (OpenSpec.ofChange bindingPairsSpec)

/-- ITS FALSE NEIGHBOUR: 'it returns false'. Refute it at one input. -/
def bindingPairsWrong : ChangeSpec := { name := "bindingPairs", fn := fun _ => fun
  | [d1, d2] => { results := [.lit (.bool false)], args := [d1, d2] }
  | _ => none }
def BindingPairsWrongFalsely : Prop := bindingPairsRow.holds Try.pinned (OpenSpec.ofChange bindingPairsWrong)

/- THE SECOND FORM. 'bulk': how many values and letters a reading holds, each counted each time it is reached (what is shared counts as often as it is met; a slice's spare places count too). A statement '..UptoSaid' is the law's where the arguments, and the package variables that the reading takes, are together of bulk at most 1048576: NARROWER than '..Said'. Prove '..Said' where nothing that the law and all that it calls make is longer than what came in: it says more and counts as full. Else prove '..UptoSaid'. A law counts once. -/
mutual
def uptoBulk {H : Type} : DataW H → Nat
  | .lit (.string bytes) => bytes.length + 1
  | .lit _ => 1
  | .nil => 1
  | .ptr d => uptoBulk d + 1
  | .slice elems spare => uptoBulkAll elems + uptoBulkAll spare + 1
  | .agg parts => uptoBulkAll parts + 1
  | .iface _ d => uptoBulk d + 1
  | .map entries => uptoBulkEntries entries + 1
  | .held _ => 1
def uptoBulkAll {H : Type} : List (DataW H) → Nat
  | [] => 0
  | d :: r => uptoBulk d + uptoBulkAll r
def uptoBulkEntries {H : Type} : List (Lit × DataW H) → Nat
  | [] => 0
  | x :: r => uptoBulkEntry x + uptoBulkEntries r
def uptoBulkEntry {H : Type} : Lit × DataW H → Nat
  | (.string bytes, d) => bytes.length + uptoBulk d + 1
  | (_, d) => uptoBulk d + 1
 end
def uptoSmall : (H : Type) → List (DataW H) → Bool := fun _ ds => decide (uptoBulkAll ds ≤ 1048576)
def OpenSpec.upto (s : _root_.Go.ChangeSpec) : _root_.Go.OpenSpec := { _root_.Go.OpenSpec.ofChange s with cond := some uptoSmall }

/-- 'proctorlaw43.EightOptions', WHERE WHAT IT READS IS OF BULK AT MOST 1048576: true; the input reads as it did. -/
def eightOptionsUptoRow : OpenClaim := { program := "ytdfdiglnpekcpaa", sum := "abbd8ee9c32f08356ec8b962e62850a15fc1b9b06814e0290f83922cb8201ab0", func := "proctor/proctorlaw43.EightOptions", spec := "eightOptions", apart := false, narrowed := true }
def EightOptionsUptoSaid : Prop := eightOptionsUptoRow.holds Try.pinned (OpenSpec.upto eightOptionsSpec)

/-- 'proctorlaw42.ReportBest', WHERE WHAT IT READS IS OF BULK AT MOST 1048576: true; the input reads as it did. -/
def reportBestUptoRow : OpenClaim := { program := "ytdfdiglnpekcpaa", sum := "abbd8ee9c32f08356ec8b962e62850a15fc1b9b06814e0290f83922cb8201ab0", func := "proctor/proctorlaw42.ReportBest", spec := "reportBest", unfollowed := true, recurses := true, apart := false, narrowed := true }
def ReportBestUptoSaid : Prop := reportBestUptoRow.holds Try.pinned (OpenSpec.upto reportBestSpec)

/-- 'proctorlaw05.BindingOf', WHERE WHAT IT READS IS OF BULK AT MOST 1048576: true; the input reads as it did. -/
def bindingOfUptoRow : OpenClaim := { program := "ytdfdiglnpekcpaa", sum := "abbd8ee9c32f08356ec8b962e62850a15fc1b9b06814e0290f83922cb8201ab0", func := "proctor/proctorlaw05.BindingOf", spec := "bindingOf", inPlace := ["slices.overlaps[proctor/api.Slot]"], unfollowed := true, recurses := true, apart := false, narrowed := true }
def BindingOfUptoSaid : Prop := bindingOfUptoRow.holds Try.pinned (OpenSpec.upto bindingOfSpec)

/-- 'proctorlaw05.BindingPairs', WHERE WHAT IT READS IS OF BULK AT MOST 1048576: true; the input reads as it did. -/
def bindingPairsUptoRow : OpenClaim := { program := "ytdfdiglnpekcpaa", sum := "abbd8ee9c32f08356ec8b962e62850a15fc1b9b06814e0290f83922cb8201ab0", func := "proctor/proctorlaw05.BindingPairs", spec := "bindingPairs", inPlace := ["slices.overlaps[proctor/api.Slot]"], unfollowed := true, recurses := true, apart := false, narrowed := true }
def BindingPairsUptoSaid : Prop := bindingPairsUptoRow.holds Try.pinned (OpenSpec.upto bindingPairsSpec)

end Rows
end Go.Proofs.Ytdfdiglnpekcpaa
