/-
  No cell of these rows narrows 'for every input' (looked for: loops, veiled, ifaces, maps, wideKeys, modest, calm, conditions, laid).
  DERIVED. THE GIVEN ROWS OF THIS SEAT. 3 by the template 'for every input the law returns true; each argument reads behind the call as it read before'; 0 by the template 'total and deterministic' (their statements: YtjkdpahaingjjaaTotals.lean).
  GIVEN WITH THE SEED: the statements are not yours to turn. If you find one false, say at which input.
  Laid BY PROGRAM, IN A SANDBOX (cutbox-rows.mjs): the forced cells as the released guide's own fill.sh prints them over the translation 141983f7c1fcabb5… (all of the seat's roots in one cut). By AI agents, Wed Nov 11 2026. No macro, syntax, notation, axiom, sorry.
-/
import Derived.Test.YtjkdpahaingjjaaChecked
import GoSem.Claim
import GoSem.ClaimJoined
import GoSem.ClaimMapViews
import Derived.JoinedTies
import Derived.KernelRfl
namespace Go.Proofs.Ytjkdpahaingjjaa
/- THE CELL 'sum', in the pinned program and in every row, IS THE sha256 OF THE DUMP (.gsa) THAT YtjkdpahaingjjaaProg.lean LOADS. Nothing in Lean hashes anything: it is a label: what it is worth is what the hold of that sum in a sandbox is worth. -/
noncomputable def Try.pinned : Pinned := { name := "ytjkdpahaingjjaa", sum := "141983f7c1fcabb5717e356fc64f4a84dfd17af3d5ff43456ac40f2c0fa01929", checked := Try.checked }
namespace Rows
def none {H : Type} : Left H := { results := [], args := [] }

/-- 'proctorlaw05.BindingPairs': WHATEVER THE INPUT: true; the input reads as it did. -/
def bindingPairsSpec : ChangeSpec := { name := "bindingPairs", fn := fun _ => fun
  | [d1, d2] => { results := [.lit (.bool true)], args := [d1, d2] }
  | _ => none }
def bindingPairsRow : OpenClaim := { program := "ytjkdpahaingjjaa", sum := "141983f7c1fcabb5717e356fc64f4a84dfd17af3d5ff43456ac40f2c0fa01929", func := "proctor/proctorlaw05.BindingPairs", spec := "bindingPairs", inPlace := ["slices.overlaps[proctor/api.Slot]"], unfollowed := true, recurses := true, apart := false }
def BindingPairsSaid : Prop := bindingPairsRow.holds Try.pinned (OpenSpec.ofChange bindingPairsSpec)

/-- ITS FALSE NEIGHBOUR: 'it returns false'. Refute it at one input. -/
def bindingPairsWrong : ChangeSpec := { name := "bindingPairs", fn := fun _ => fun
  | [d1, d2] => { results := [.lit (.bool false)], args := [d1, d2] }
  | _ => none }
def BindingPairsWrongFalsely : Prop := bindingPairsRow.holds Try.pinned (OpenSpec.ofChange bindingPairsWrong)

/-- 'proctorlaw05.BindingMost': WHATEVER THE INPUT: true; the input reads as it did. -/
def bindingMostSpec : ChangeSpec := { name := "bindingMost", fn := fun _ => fun
  | [d1, d2] => { results := [.lit (.bool true)], args := [d1, d2] }
  | _ => none }
def bindingMostRow : OpenClaim := { program := "ytjkdpahaingjjaa", sum := "141983f7c1fcabb5717e356fc64f4a84dfd17af3d5ff43456ac40f2c0fa01929", func := "proctor/proctorlaw05.BindingMost", spec := "bindingMost", inPlace := ["slices.overlaps[proctor/api.Slot]"], unfollowed := true, recurses := true, apart := false }
def BindingMostSaid : Prop := bindingMostRow.holds Try.pinned (OpenSpec.ofChange bindingMostSpec)

/-- ITS FALSE NEIGHBOUR: 'it returns false'. Refute it at one input. -/
def bindingMostWrong : ChangeSpec := { name := "bindingMost", fn := fun _ => fun
  | [d1, d2] => { results := [.lit (.bool false)], args := [d1, d2] }
  | _ => none }
def BindingMostWrongFalsely : Prop := bindingMostRow.holds Try.pinned (OpenSpec.ofChange bindingMostWrong)

/-- 'proctorlaw05.BindingParts': WHATEVER THE INPUT: true; the input reads as it did. -/
def bindingPartsSpec : ChangeSpec := { name := "bindingParts", fn := fun _ => fun
  | [d1, d2] => { results := [.lit (.bool true)], args := [d1, d2] }
  | _ => none }
def bindingPartsRow : OpenClaim := { program := "ytjkdpahaingjjaa", sum := "141983f7c1fcabb5717e356fc64f4a84dfd17af3d5ff43456ac40f2c0fa01929", func := "proctor/proctorlaw05.BindingParts", spec := "bindingParts", inPlace := ["slices.overlaps[proctor/api.Slot]"], unfollowed := true, recurses := true, apart := false }
def BindingPartsSaid : Prop := bindingPartsRow.holds Try.pinned (OpenSpec.ofChange bindingPartsSpec)

/-- ITS FALSE NEIGHBOUR: 'it returns false'. Refute it at one input. -/
def bindingPartsWrong : ChangeSpec := { name := "bindingParts", fn := fun _ => fun
  | [d1, d2] => { results := [.lit (.bool false)], args := [d1, d2] }
  | _ => none }
def BindingPartsWrongFalsely : Prop := bindingPartsRow.holds Try.pinned (OpenSpec.ofChange bindingPartsWrong)

/- THE SECOND FORM. 'bulk': how many values and letters a reading holds, each counted each time it is reached (what is shared counts as often as it is met; a slice's spare places count too). A statement '..UptoSaid' is the law's where the arguments, and the package variables that the reading takes, are together of bulk at most 1048576: NARROWER than '..Said'. Prove '..Said' where nothing that the law and all that it calls make is longer than what came in: it says more and counts as full. Else prove '..UptoSaid'. A law counts once. -/
mutual
def uptoBulk {H : Type} : DataW H → Nat
  | .lit (.string bytes) => bytes.length + 1
  | .lit _ => 1
  | .nil => 1
  | .ptr d => uptoBulk d + 1
  | .slice elems spare => uptoBulkAll elems + uptoBulkAll spare + 1
  | .agg parts => uptoBulkAll parts + 1
  | .iface _ d => uptoBulk d + 1
  | .map entries => uptoBulkEntries entries + 1
  | .held _ => 1
def uptoBulkAll {H : Type} : List (DataW H) → Nat
  | [] => 0
  | d :: r => uptoBulk d + uptoBulkAll r
def uptoBulkEntries {H : Type} : List (Lit × DataW H) → Nat
  | [] => 0
  | x :: r => uptoBulkEntry x + uptoBulkEntries r
def uptoBulkEntry {H : Type} : Lit × DataW H → Nat
  | (.string bytes, d) => bytes.length + uptoBulk d + 1
  | (_, d) => uptoBulk d + 1
 end
def uptoSmall : (H : Type) → List (DataW H) → Bool := fun _ ds => decide (uptoBulkAll ds ≤ 1048576)
def OpenSpec.upto (s : _root_.Go.ChangeSpec) : _root_.Go.OpenSpec := { _root_.Go.OpenSpec.ofChange s with cond := some uptoSmall }

/-- 'proctorlaw05.BindingPairs', WHERE WHAT IT READS IS OF BULK AT MOST 1048576: true; the input reads as it did. -/
def bindingPairsUptoRow : OpenClaim := { program := "ytjkdpahaingjjaa", sum := "141983f7c1fcabb5717e356fc64f4a84dfd17af3d5ff43456ac40f2c0fa01929", func := "proctor/proctorlaw05.BindingPairs", spec := "bindingPairs", inPlace := ["slices.overlaps[proctor/api.Slot]"], unfollowed := true, recurses := true, apart := false, narrowed := true }
def BindingPairsUptoSaid : Prop := bindingPairsUptoRow.holds Try.pinned (OpenSpec.upto bindingPairsSpec)

/-- 'proctorlaw05.BindingMost', WHERE WHAT IT READS IS OF BULK AT MOST 1048576: true; the input reads as it did. -/
def bindingMostUptoRow : OpenClaim := { program := "ytjkdpahaingjjaa", sum := "141983f7c1fcabb5717e356fc64f4a84dfd17af3d5ff43456ac40f2c0fa01929", func := "proctor/proctorlaw05.BindingMost", spec := "bindingMost", inPlace := ["slices.overlaps[proctor/api.Slot]"], unfollowed := true, recurses := true, apart := false, narrowed := true }
def BindingMostUptoSaid : Prop := bindingMostUptoRow.holds Try.pinned (OpenSpec.upto bindingMostSpec)

/-- 'proctorlaw05.BindingParts', WHERE WHAT IT READS IS OF BULK AT MOST 1048576: true; the input reads as it did. -/
def bindingPartsUptoRow : OpenClaim := { program := "ytjkdpahaingjjaa", sum := "141983f7c1fcabb5717e356fc64f4a84dfd17af3d5ff43456ac40f2c0fa01929", func := "proctor/proctorlaw05.BindingParts", spec := "bindingParts", inPlace := ["slices.overlaps[proctor/api.Slot]"], unfollowed := true, recurses := true, apart := false, narrowed := true }
def BindingPartsUptoSaid : Prop := bindingPartsUptoRow.holds Try.pinned (OpenSpec.upto bindingPartsSpec)

end Rows
end Go.Proofs.Ytjkdpahaingjjaa
