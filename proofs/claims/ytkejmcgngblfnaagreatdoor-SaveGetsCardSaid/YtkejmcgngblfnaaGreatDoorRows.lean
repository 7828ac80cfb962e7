/-
  NARROWER THAN 'FOR EVERY INPUT', by the rows' own cells (each row's printed sentence says how): SavePuts: laid · SaveGets: laid · SaveNone: laid · SaveRestores: laid.
  DERIVED. THE GIVEN ROWS OF THIS SEAT. 4 by the template 'for every input the law returns true; each argument reads behind the call as it read before'; 0 by the template 'total and deterministic' (their statements: YtkejmcgngblfnaaGreatDoorTotals.lean).
  GIVEN WITH THE SEED: the statements are not yours to turn. If you find one false, say at which input.
  Laid BY PROGRAM, IN A SANDBOX (cutbox-rows.mjs): the forced cells as the released guide's own fill.sh prints them over the translation 8da018ff550c0b8e… (all of the seat's roots in one cut). By AI agents, Wed Nov 11 2026. No macro, syntax, notation, axiom, sorry.
-/
import Derived.Test.YtkejmcgngblfnaaGreatDoorChecked
import GoSem.Claim
import GoSem.ClaimJoined
import GoSem.ClaimMapViews
import Derived.JoinedTies
import Derived.KernelRfl
namespace Go.Proofs.YtkejmcgngblfnaaGreatDoor
/- THE CELL 'sum', in the pinned program and in every row, IS THE sha256 OF THE DUMP (.gsa) THAT YtkejmcgngblfnaaGreatDoorProg.lean LOADS. Nothing in Lean hashes anything: it is a label: what it is worth is what the hold of that sum in a sandbox is worth. -/
noncomputable def Tryz.pinned : Pinned := { name := "ytkejmcgngblfnaagreatdoor", sum := "8da018ff550c0b8ec6c5c3509bcf825977823647f8738f93d131ae10df5334b8", checked := Tryz.checked }
namespace Rows
def none {H : Type} : Left H := { results := [], args := [] }

/- WHAT THE LISTED PACKAGE-LEVEL VARIABLES READ AS WHEN THE CALL BEGINS. Each datum BY PROGRAM (the guide's laid-datum.mjs) off the statement by which the dump's own 'gosem.cut.vars' lays the variable. In a bare row this is a premise. The card (YtkejmcgngblfnaaGreatDoorCards.lean) ties it to the program's text. -/
def laid_proctor_schema_words {H : Type} : DataW H := .agg [.lit (.string [97, 99, 99, 101, 112, 116]), .lit (.string [97, 108, 115, 111]), .lit (.string [97, 110, 100]), .lit (.string [98, 111, 111, 108]), .lit (.string [100, 111]), .lit (.string [101, 118, 101, 110, 116]), .lit (.string [101, 120, 105, 115, 116, 115]), .lit (.string [102, 97, 108, 115, 101]), .lit (.string [102, 111, 114, 97, 108, 108]), .lit (.string [102, 114, 101, 101]), .lit (.string [105, 102]), .lit (.string [105, 110, 116]), .lit (.string [110, 101, 120, 116]), .lit (.string [110, 111, 116]), .lit (.string [111, 110]), .lit (.string [111, 114]), .lit (.string [113, 101, 97]), .lit (.string [115, 107, 105, 112]), .lit (.string [115, 116, 97, 114, 116]), .lit (.string [115, 116, 114, 105, 110, 103]), .lit (.string [116, 111]), .lit (.string [116, 114, 117, 101])]
def laid_proctor_save_errShort {H : Type} : DataW H := .iface "*errors.errorString" (.ptr (.agg [.lit (.string [115, 97, 118, 101, 58, 32, 110, 111, 32, 115, 117, 99, 104, 32, 98, 121, 116, 101, 115])]))

/-- 'proctorlaw38.SavePuts': WHATEVER THE INPUT: true; the input reads as it did. -/
def savePutsSpec : ChangeSpec := { name := "savePuts", fn := fun _ => fun
  | [d] => { results := [.lit (.bool true)], args := [d] }
  | _ => none }
def savePutsRow : OpenClaim := { program := "ytkejmcgngblfnaagreatdoor", sum := "8da018ff550c0b8ec6c5c3509bcf825977823647f8738f93d131ae10df5334b8", func := "proctor/proctorlaw38.SavePuts", spec := "savePuts", inPlace := ["slices.overlaps[proctor/api.Slot]", "slices.overlaps[proctor/api.Value]", "slices.overlaps[int]", "internal/reflectlite.TypeOf"], unfollowed := true, recurses := true, named := ["proctor/schema.words", "proctor/save.errShort"], plainKeys := false, apart := false, laid := [("proctor/schema.words", laid_proctor_schema_words), ("proctor/save.errShort", laid_proctor_save_errShort)] }
def SavePutsSaid : Prop := savePutsRow.holds Tryz.pinned (OpenSpec.ofChange savePutsSpec)

/-- ITS FALSE NEIGHBOUR: 'it returns false'. Refute it at one input. -/
def savePutsWrong : ChangeSpec := { name := "savePuts", fn := fun _ => fun
  | [d] => { results := [.lit (.bool false)], args := [d] }
  | _ => none }
def SavePutsWrongFalsely : Prop := savePutsRow.holds Tryz.pinned (OpenSpec.ofChange savePutsWrong)

/-- 'proctorlaw38.SaveGets': WHATEVER THE INPUT: true; the input reads as it did. -/
def saveGetsSpec : ChangeSpec := { name := "saveGets", fn := fun _ => fun
  | [d] => { results := [.lit (.bool true)], args := [d] }
  | _ => none }
def saveGetsRow : OpenClaim := { program := "ytkejmcgngblfnaagreatdoor", sum := "8da018ff550c0b8ec6c5c3509bcf825977823647f8738f93d131ae10df5334b8", func := "proctor/proctorlaw38.SaveGets", spec := "saveGets", inPlace := ["slices.overlaps[proctor/api.Slot]", "slices.overlaps[proctor/api.Value]", "slices.overlaps[int]", "internal/reflectlite.TypeOf"], unfollowed := true, recurses := true, named := ["proctor/schema.words", "proctor/save.errShort"], plainKeys := false, apart := false, laid := [("proctor/schema.words", laid_proctor_schema_words), ("proctor/save.errShort", laid_proctor_save_errShort)] }
def SaveGetsSaid : Prop := saveGetsRow.holds Tryz.pinned (OpenSpec.ofChange saveGetsSpec)

/-- ITS FALSE NEIGHBOUR: 'it returns false'. Refute it at one input. -/
def saveGetsWrong : ChangeSpec := { name := "saveGets", fn := fun _ => fun
  | [d] => { results := [.lit (.bool false)], args := [d] }
  | _ => none }
def SaveGetsWrongFalsely : Prop := saveGetsRow.holds Tryz.pinned (OpenSpec.ofChange saveGetsWrong)

/-- 'proctorlaw38.SaveNone': WHATEVER THE INPUT: true; the input reads as it did. -/
def saveNoneSpec : ChangeSpec := { name := "saveNone", fn := fun _ => fun
  | [d1, d2, d3] => { results := [.lit (.bool true)], args := [d1, d2, d3] }
  | _ => none }
def saveNoneRow : OpenClaim := { program := "ytkejmcgngblfnaagreatdoor", sum := "8da018ff550c0b8ec6c5c3509bcf825977823647f8738f93d131ae10df5334b8", func := "proctor/proctorlaw38.SaveNone", spec := "saveNone", inPlace := ["slices.overlaps[proctor/api.Slot]", "slices.overlaps[proctor/api.Value]", "slices.overlaps[int]", "internal/reflectlite.TypeOf"], unfollowed := true, recurses := true, named := ["proctor/schema.words", "proctor/save.errShort"], plainKeys := false, apart := false, laid := [("proctor/schema.words", laid_proctor_schema_words), ("proctor/save.errShort", laid_proctor_save_errShort)] }
def SaveNoneSaid : Prop := saveNoneRow.holds Tryz.pinned (OpenSpec.ofChange saveNoneSpec)

/-- ITS FALSE NEIGHBOUR: 'it returns false'. Refute it at one input. -/
def saveNoneWrong : ChangeSpec := { name := "saveNone", fn := fun _ => fun
  | [d1, d2, d3] => { results := [.lit (.bool false)], args := [d1, d2, d3] }
  | _ => none }
def SaveNoneWrongFalsely : Prop := saveNoneRow.holds Tryz.pinned (OpenSpec.ofChange saveNoneWrong)

/-- 'proctorlaw38.SaveRestores': WHATEVER THE INPUT: true; the input reads as it did. -/
def saveRestoresSpec : ChangeSpec := { name := "saveRestores", fn := fun _ => fun
  | [d1, d2, d3] => { results := [.lit (.bool true)], args := [d1, d2, d3] }
  | _ => none }
def saveRestoresRow : OpenClaim := { program := "ytkejmcgngblfnaagreatdoor", sum := "8da018ff550c0b8ec6c5c3509bcf825977823647f8738f93d131ae10df5334b8", func := "proctor/proctorlaw38.SaveRestores", spec := "saveRestores", inPlace := ["slices.overlaps[proctor/api.Slot]", "slices.overlaps[proctor/api.Value]", "slices.overlaps[int]", "internal/reflectlite.TypeOf"], unfollowed := true, recurses := true, named := ["proctor/schema.words", "proctor/save.errShort"], plainKeys := false, apart := false, laid := [("proctor/schema.words", laid_proctor_schema_words), ("proctor/save.errShort", laid_proctor_save_errShort)] }
def SaveRestoresSaid : Prop := saveRestoresRow.holds Tryz.pinned (OpenSpec.ofChange saveRestoresSpec)

/-- ITS FALSE NEIGHBOUR: 'it returns false'. Refute it at one input. -/
def saveRestoresWrong : ChangeSpec := { name := "saveRestores", fn := fun _ => fun
  | [d1, d2, d3] => { results := [.lit (.bool false)], args := [d1, d2, d3] }
  | _ => none }
def SaveRestoresWrongFalsely : Prop := saveRestoresRow.holds Tryz.pinned (OpenSpec.ofChange saveRestoresWrong)

/- THE SECOND FORM. 'bulk': how many values and letters a reading holds, each counted each time it is reached (what is shared counts as often as it is met; a slice's spare places count too). A statement '..UptoSaid' is the law's where the arguments, and the package variables that the reading takes, are together of bulk at most 1048576: NARROWER than '..Said'. Prove '..Said' where nothing that the law and all that it calls make is longer than what came in: it says more and counts as full. Else prove '..UptoSaid'. A law counts once. -/
mutual
def uptoBulk {H : Type} : DataW H → Nat
  | .lit (.string bytes) => bytes.length + 1
  | .lit _ => 1
  | .nil => 1
  | .ptr d => uptoBulk d + 1
  | .slice elems spare => uptoBulkAll elems + uptoBulkAll spare + 1
  | .agg parts => uptoBulkAll parts + 1
  | .iface _ d => uptoBulk d + 1
  | .map entries => uptoBulkEntries entries + 1
  | .held _ => 1
def uptoBulkAll {H : Type} : List (DataW H) → Nat
  | [] => 0
  | d :: r => uptoBulk d + uptoBulkAll r
def uptoBulkEntries {H : Type} : List (Lit × DataW H) → Nat
  | [] => 0
  | x :: r => uptoBulkEntry x + uptoBulkEntries r
def uptoBulkEntry {H : Type} : Lit × DataW H → Nat
  | (.string bytes, d) => bytes.length + uptoBulk d + 1
  | (_, d) => uptoBulk d + 1
 end
def uptoSmall : (H : Type) → List (DataW H) → Bool := fun _ ds => decide (uptoBulkAll ds ≤ 1048576)
def OpenSpec.upto (s : _root_.Go.ChangeSpec) : _root_.Go.OpenSpec := { _root_.Go.OpenSpec.ofChange s with cond := some uptoSmall }

/-- 'proctorlaw38.SavePuts', WHERE WHAT IT READS IS OF BULK AT MOST 1048576: true; the input reads as it did. -/
def savePutsUptoRow : OpenClaim := { program := "ytkejmcgngblfnaagreatdoor", sum := "8da018ff550c0b8ec6c5c3509bcf825977823647f8738f93d131ae10df5334b8", func := "proctor/proctorlaw38.SavePuts", spec := "savePuts", inPlace := ["slices.overlaps[proctor/api.Slot]", "slices.overlaps[proctor/api.Value]", "slices.overlaps[int]", "internal/reflectlite.TypeOf"], unfollowed := true, recurses := true, named := ["proctor/schema.words", "proctor/save.errShort"], plainKeys := false, apart := false, laid := [("proctor/schema.words", laid_proctor_schema_words), ("proctor/save.errShort", laid_proctor_save_errShort)], narrowed := true }
def SavePutsUptoSaid : Prop := savePutsUptoRow.holds Tryz.pinned (OpenSpec.upto savePutsSpec)

/-- 'proctorlaw38.SaveGets', WHERE WHAT IT READS IS OF BULK AT MOST 1048576: true; the input reads as it did. -/
def saveGetsUptoRow : OpenClaim := { program := "ytkejmcgngblfnaagreatdoor", sum := "8da018ff550c0b8ec6c5c3509bcf825977823647f8738f93d131ae10df5334b8", func := "proctor/proctorlaw38.SaveGets", spec := "saveGets", inPlace := ["slices.overlaps[proctor/api.Slot]", "slices.overlaps[proctor/api.Value]", "slices.overlaps[int]", "internal/reflectlite.TypeOf"], unfollowed := true, recurses := true, named := ["proctor/schema.words", "proctor/save.errShort"], plainKeys := false, apart := false, laid := [("proctor/schema.words", laid_proctor_schema_words), ("proctor/save.errShort", laid_proctor_save_errShort)], narrowed := true }
def SaveGetsUptoSaid : Prop := saveGetsUptoRow.holds Tryz.pinned (OpenSpec.upto saveGetsSpec)

/-- 'proctorlaw38.SaveNone', WHERE WHAT IT READS IS OF BULK AT MOST 1048576: true; the input reads as it did. -/
def saveNoneUptoRow : OpenClaim := { program := "ytkejmcgngblfnaagreatdoor", sum := "8da018ff550c0b8ec6c5c3509bcf825977823647f8738f93d131ae10df5334b8", func := "proctor/proctorlaw38.SaveNone", spec := "saveNone", inPlace := ["slices.overlaps[proctor/api.Slot]", "slices.overlaps[proctor/api.Value]", "slices.overlaps[int]", "internal/reflectlite.TypeOf"], unfollowed := true, recurses := true, named := ["proctor/schema.words", "proctor/save.errShort"], plainKeys := false, apart := false, laid := [("proctor/schema.words", laid_proctor_schema_words), ("proctor/save.errShort", laid_proctor_save_errShort)], narrowed := true }
def SaveNoneUptoSaid : Prop := saveNoneUptoRow.holds Tryz.pinned (OpenSpec.upto saveNoneSpec)

/-- 'proctorlaw38.SaveRestores', WHERE WHAT IT READS IS OF BULK AT MOST 1048576: true; the input reads as it did. -/
def saveRestoresUptoRow : OpenClaim := { program := "ytkejmcgngblfnaagreatdoor", sum := "8da018ff550c0b8ec6c5c3509bcf825977823647f8738f93d131ae10df5334b8", func := "proctor/proctorlaw38.SaveRestores", spec := "saveRestores", inPlace := ["slices.overlaps[proctor/api.Slot]", "slices.overlaps[proctor/api.Value]", "slices.overlaps[int]", "internal/reflectlite.TypeOf"], unfollowed := true, recurses := true, named := ["proctor/schema.words", "proctor/save.errShort"], plainKeys := false, apart := false, laid := [("proctor/schema.words", laid_proctor_schema_words), ("proctor/save.errShort", laid_proctor_save_errShort)], narrowed := true }
def SaveRestoresUptoSaid : Prop := saveRestoresUptoRow.holds Tryz.pinned (OpenSpec.upto saveRestoresSpec)

end Rows
end Go.Proofs.YtkejmcgngblfnaaGreatDoor
