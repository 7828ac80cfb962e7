/-
  NARROWER THAN 'FOR EVERY INPUT', by the rows' own cells (each row's printed sentence says how): TrimHolds: laid.
  DERIVED. THE GIVEN ROWS OF THIS SEAT. 1 by the template 'for every input the law returns true; each argument reads behind the call as it read before'; 0 by the template 'total and deterministic' (their statements: YtkgcnoghjibiaaaGreatDoorTotals.lean).
  GIVEN WITH THE SEED: the statements are not yours to turn. If you find one false, say at which input.
  Laid BY PROGRAM, IN A SANDBOX (cutbox-rows.mjs): the forced cells as the released guide's own fill.sh prints them over the translation d7e9392b06341868… (all of the seat's roots in one cut). By AI agents, Wed Nov 11 2026. No macro, syntax, notation, axiom, sorry.
-/
import Derived.Test.YtkgcnoghjibiaaaGreatDoorChecked
import GoSem.Claim
import GoSem.ClaimJoined
import GoSem.ClaimMapViews
import Derived.JoinedTies
import Derived.KernelRfl
namespace Go.Proofs.YtkgcnoghjibiaaaGreatDoor
/- THE CELL 'sum', in the pinned program and in every row, IS THE sha256 OF THE DUMP (.gsa) THAT YtkgcnoghjibiaaaGreatDoorProg.lean LOADS. Nothing in Lean hashes anything: it is a label: what it is worth is what the hold of that sum in a sandbox is worth. -/
noncomputable def Tryz.pinned : Pinned := { name := "ytkgcnoghjibiaaagreatdoor", sum := "d7e9392b06341868bf42187764ee82ad61db836ccce74a7a2e32ecf25a56c1e9", checked := Tryz.checked }
namespace Rows
def none {H : Type} : Left H := { results := [], args := [] }

/- WHAT THE LISTED PACKAGE-LEVEL VARIABLES READ AS WHEN THE CALL BEGINS. Each datum BY PROGRAM (the guide's laid-datum.mjs) off the statement by which the dump's own 'gosem.cut.vars' lays the variable. In a bare row this is a premise. The card (YtkgcnoghjibiaaaGreatDoorCards.lean) ties it to the program's text. -/
def laid_errors_errorType {H : Type} : DataW H := .iface "internal/reflectlite.rtype" (.agg [.ptr (.lit (.string [101, 114, 114, 111, 114]))])
def laid_proctor_schema_words {H : Type} : DataW H := .agg [.lit (.string [97, 99, 99, 101, 112, 116]), .lit (.string [97, 108, 115, 111]), .lit (.string [97, 110, 100]), .lit (.string [98, 111, 111, 108]), .lit (.string [100, 111]), .lit (.string [101, 118, 101, 110, 116]), .lit (.string [101, 120, 105, 115, 116, 115]), .lit (.string [102, 97, 108, 115, 101]), .lit (.string [102, 111, 114, 97, 108, 108]), .lit (.string [102, 114, 101, 101]), .lit (.string [105, 102]), .lit (.string [105, 110, 116]), .lit (.string [110, 101, 120, 116]), .lit (.string [110, 111, 116]), .lit (.string [111, 110]), .lit (.string [111, 114]), .lit (.string [113, 101, 97]), .lit (.string [115, 107, 105, 112]), .lit (.string [115, 116, 97, 114, 116]), .lit (.string [115, 116, 114, 105, 110, 103]), .lit (.string [116, 111]), .lit (.string [116, 114, 117, 101])]

/-- 'proctorlaw41.TrimHolds': WHATEVER THE INPUT: true; the input reads as it did. -/
def trimHoldsSpec : ChangeSpec := { name := "trimHolds", fn := fun _ => fun
  | [d1, d2] => { results := [.lit (.bool true)], args := [d1, d2] }
  | _ => none }
def trimHoldsRow : OpenClaim := { program := "ytkgcnoghjibiaaagreatdoor", sum := "d7e9392b06341868bf42187764ee82ad61db836ccce74a7a2e32ecf25a56c1e9", func := "proctor/proctorlaw41.TrimHolds", spec := "trimHolds", inPlace := ["internal/reflectlite.ValueOf", "(internal/reflectlite.Value).Type", "(internal/reflectlite.Value).IsNil", "internal/reflectlite.TypeOf", "(internal/reflectlite.Value).Elem", "(internal/reflectlite.Value).Set"], unfollowed := true, recurses := true, named := ["proctor/schema.words", "errors.errorType"], apart := false, laid := [("errors.errorType", laid_errors_errorType), ("proctor/schema.words", laid_proctor_schema_words)] }
def TrimHoldsSaid : Prop := trimHoldsRow.holds Tryz.pinned (OpenSpec.ofChange trimHoldsSpec)

/-- ITS FALSE NEIGHBOUR: 'it returns false'. Refute it at one input. -/
def trimHoldsWrong : ChangeSpec := { name := "trimHolds", fn := fun _ => fun
  | [d1, d2] => { results := [.lit (.bool false)], args := [d1, d2] }
  | _ => none }
def TrimHoldsWrongFalsely : Prop := trimHoldsRow.holds Tryz.pinned (OpenSpec.ofChange trimHoldsWrong)

/- THE SECOND FORM. 'bulk': how many values and letters a reading holds, each counted each time it is reached (what is shared counts as often as it is met; a slice's spare places count too). A statement '..UptoSaid' is the law's where the arguments, and the package variables that the reading takes, are together of bulk at most 1048576: NARROWER than '..Said'. Prove '..Said' where nothing that the law and all that it calls make is longer than what came in: it says more and counts as full. Else prove '..UptoSaid'. A law counts once. -/
mutual
def uptoBulk {H : Type} : DataW H → Nat
  | .lit (.string bytes) => bytes.length + 1
  | .lit _ => 1
  | .nil => 1
  | .ptr d => uptoBulk d + 1
  | .slice elems spare => uptoBulkAll elems + uptoBulkAll spare + 1
  | .agg parts => uptoBulkAll parts + 1
  | .iface _ d => uptoBulk d + 1
  | .map entries => uptoBulkEntries entries + 1
  | .held _ => 1
def uptoBulkAll {H : Type} : List (DataW H) → Nat
  | [] => 0
  | d :: r => uptoBulk d + uptoBulkAll r
def uptoBulkEntries {H : Type} : List (Lit × DataW H) → Nat
  | [] => 0
  | x :: r => uptoBulkEntry x + uptoBulkEntries r
def uptoBulkEntry {H : Type} : Lit × DataW H → Nat
  | (.string bytes, d) => bytes.length + uptoBulk d + 1
  | (_, d) => uptoBulk d + 1
 end
def uptoSmall : (H : Type) → List (DataW H) → Bool := fun _ ds => decide (uptoBulkAll ds ≤ 1048576)
def OpenSpec.upto (s : _root_.Go.ChangeSpec) : _root_.Go.OpenSpec := { _root_.Go.OpenSpec.ofChange s with cond := some uptoSmall }

/-- 'proctorlaw41.TrimHolds', WHERE WHAT IT READS IS OF BULK AT MOST 1048576: true; the input reads as it did. -/
def trimHoldsUptoRow : OpenClaim := { program := "ytkgcnoghjibiaaagreatdoor", sum := "d7e9392b06341868bf42187764ee82ad61db836ccce74a7a2e32ecf25a56c1e9", func := "proctor/proctorlaw41.TrimHolds", spec := "trimHolds", inPlace := ["internal/reflectlite.ValueOf", "(internal/reflectlite.Value).Type", "(internal/reflectlite.Value).IsNil", "internal/reflectlite.TypeOf", "(internal/reflectlite.Value).Elem", "(internal/reflectlite.Value).Set"], unfollowed := true, recurses := true, named := ["proctor/schema.words", "errors.errorType"], apart := false, laid := [("errors.errorType", laid_errors_errorType), ("proctor/schema.words", laid_proctor_schema_words)], narrowed := true }
def TrimHoldsUptoSaid : Prop := trimHoldsUptoRow.holds Tryz.pinned (OpenSpec.upto trimHoldsSpec)

end Rows
end Go.Proofs.YtkgcnoghjibiaaaGreatDoor
