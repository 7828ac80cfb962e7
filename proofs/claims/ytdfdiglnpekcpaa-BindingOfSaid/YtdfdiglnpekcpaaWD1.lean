/-
  Nothing here: the seat's abstract code is one text. num, proctorref01: sums, differences, products, quotients. DERIVED: THE SHELF's CONTRACTS AT THIS DUMP, IN PLAIN WORDS (tools/lay-plain.mjs out of 'TrymShelf.lean', which tools/lay-shelf.mjs wrote): THE SAME DECLARATIONS UNDER THE SAME NAMES: 'import', 'namespace', 'open', 'def', 'theorem' AND NOTHING ELSE: no command of the shelf's: FOR A HAND-IN. Each laying: the table of numbers ('.._ren') and one theorem, a field a fact of the dump's own or the kernel's comparison; each contract: ONE APPLICATION. num.Mul, proctorref01.Mul: products. value, proctorref03: values. No claim is proved here.
-/
import Derived.Test.YtdfdiglnpekcpaaWAcR
import Derived.Test.YtdfdiglnpekcpaaWN0
import Derived.Shelf.Bits.Mul64
import Derived.Test.YtdfdiglnpekcpaaProg

namespace Go.Proofs.Ytdfdiglnpekcpaa.Ab
open Go
set_option linter.unusedSimpArgs false
set_option maxHeartbeats 4000000
variable {G : Nat → Option AV}
def t2 (r : Int × Int) : AV := .tup [iv r.1, iv r.2]
end Go.Proofs.Ytdfdiglnpekcpaa.Ab
namespace Go.Proofs
open Go.Shelf
end Go.Proofs
namespace Go.Proofs.Ytdfdiglnpekcpaa.Ab
open Go Go.RowKit
set_option linter.unusedSimpArgs false
set_option maxHeartbeats 4000000
set_option maxRecDepth 100000
variable {G : Nat → Option AV}
end Go.Proofs.Ytdfdiglnpekcpaa.Ab
namespace Go.Proofs.Ytdfdiglnpekcpaa.Ab
open Nat renaming reduceAdd → zq0, reduceSub → zq1, reduceMul → zq2, reduceLT → zq3, reduceLeDiff → zq4, reduceEqDiff → zq5, reduceBEq → zq6
open Int renaming reduceNeg → zq7, reduceAdd → zq8, reduceLT → zq9, reduceLE → zq10, reduceToNat → zq11, reduceEq → zq12, reduceNe → zq13, reduceBEq → zq14, reduceBNe → zq15, reduceMul → zq16, reduceSub → zq17
open Go
set_option linter.unusedSimpArgs false
set_option maxHeartbeats 4000000
variable {G : Nat → Option AV}
structure Val where
  kind : Int
  int : Int
  str : Str
  bool : Bool
deriving DecidableEq
abbrev v0 : Val := ⟨0, 0, [], false⟩
def valV (v : Val) : AV := .agg [iv v.kind, iv v.int, .str v.str, .bool v.bool]
theorem value_Int_pc (n : Int) : PureC Try.prog G n_value_Int [iv n] (valV ⟨1, n, [], false⟩) := by
  refine pc_value_Int (Runs.of fun Φ h => ?_)
  unfold c_value_Int
  simp -implicitDefEqProofs only [go_sem, zq0, zq1, zq2, zq3, zq4, zq5, zq6, zq7, zq8, zq9, zq10, zq11, zq12, zq13, zq14, zq15, zq16, zq17, reduceIte, reduceCtorEq]
  exact h _ ⟨_, _, rfl, rfl, .refl _⟩
theorem value_Str_pc (s : Str) : PureC Try.prog G n_value_Str [.str s] (valV ⟨2, 0, s, false⟩) := by
  refine pc_value_Str (Runs.of fun Φ h => ?_)
  unfold c_value_Str
  simp -implicitDefEqProofs only [go_sem, zq0, zq1, zq2, zq3, zq4, zq5, zq6, zq7, zq8, zq9, zq10, zq11, zq12, zq13, zq14, zq15, zq16, zq17, reduceIte, reduceCtorEq]
  exact h _ ⟨_, _, rfl, rfl, .refl _⟩
theorem value_Bool_pc (b : Bool) : PureC Try.prog G n_value_Bool [.bool b] (valV ⟨3, 0, [], b⟩) := by
  refine pc_value_Bool (Runs.of fun Φ h => ?_)
  unfold c_value_Bool
  simp -implicitDefEqProofs only [go_sem, zq0, zq1, zq2, zq3, zq4, zq5, zq6, zq7, zq8, zq9, zq10, zq11, zq12, zq13, zq14, zq15, zq16, zq17, reduceIte, reduceCtorEq]
  exact h _ ⟨_, _, rfl, rfl, .refl _⟩
/-- Which values may be. -/
def Val.ok (v : Val) : Bool :=
  if v.kind = 1 then v.str == [] && !v.bool else if v.kind = 2 then v.int == 0 && (!v.bool && decide ((v.str.length : Int) ≤ 4096)) else decide (v.kind = 3) && (v.int == 0 && v.str == [])
theorem value_Right_pc (v : Val) : PureC Try.prog G n_value_Right [valV v] (.bool v.ok) := by
  obtain ⟨k, n, s, b⟩ := v
  refine pc_value_Right (Runs.of fun Φ h => ?_)
  unfold c_value_Right
  (try (simp -implicitDefEqProofs only [go_sem, zq0, zq1, zq2, zq3, zq4, zq5, zq6, zq7, zq8, zq9, zq10, zq11, zq12, zq13, zq14, zq15, zq16, zq17, reduceIte, reduceCtorEq, valV])); repeat' ((first | refine at_guard (fun hb => ?_) (fun hb => ?_) | refine ⟨fun hb => ?_, fun hb => ?_⟩ | refine at_call (value_Int_pc _) rfl rfl ?_ | refine at_call (value_Str_pc _) rfl rfl ?_ | refine at_call (value_Bool_pc _) rfl rfl ?_ | fail) <;> (try (simp -implicitDefEqProofs only [go_sem, zq0, zq1, zq2, zq3, zq4, zq5, zq6, zq7, zq8, zq9, zq10, zq11, zq12, zq13, zq14, zq15, zq16, zq17, reduceIte, reduceCtorEq, valV])))
  all_goals (refine h _ ⟨_, _, rfl, rfl, fit_eq ?_⟩; clear h; first | rfl | simp_all [Val.ok])
theorem ref03_Right_pc (v : Val) : PureC Try.prog G n_proctorref03_Right [valV v] (.bool v.ok) := by
  obtain ⟨k, n, s, b⟩ := v
  refine pc_proctorref03_Right (Runs.of fun Φ h => ?_)
  unfold c_proctorref03_Right
  (try (simp -implicitDefEqProofs only [go_sem, zq0, zq1, zq2, zq3, zq4, zq5, zq6, zq7, zq8, zq9, zq10, zq11, zq12, zq13, zq14, zq15, zq16, zq17, reduceIte, reduceCtorEq, valV])); repeat' ((first | refine at_guard (fun hb => ?_) (fun hb => ?_) | refine ⟨fun hb => ?_, fun hb => ?_⟩ | fail) <;> (try (simp -implicitDefEqProofs only [go_sem, zq0, zq1, zq2, zq3, zq4, zq5, zq6, zq7, zq8, zq9, zq10, zq11, zq12, zq13, zq14, zq15, zq16, zq17, reduceIte, reduceCtorEq, valV])))
  all_goals (refine h _ ⟨_, _, rfl, rfl, fit_eq ?_⟩; clear h; first | rfl | simp_all [Val.ok])
end Go.Proofs.Ytdfdiglnpekcpaa.Ab
