/-
  Nothing here: the seat's abstract code is one text. num, proctorref01: sums, differences, products, quotients. DERIVED: THE SHELF's CONTRACTS AT THIS DUMP, IN PLAIN WORDS (tools/lay-plain.mjs out of 'TrymShelf.lean', which tools/lay-shelf.mjs wrote): THE SAME DECLARATIONS UNDER THE SAME NAMES: 'import', 'namespace', 'open', 'def', 'theorem' AND NOTHING ELSE: no command of the shelf's: FOR A HAND-IN. Each laying: the table of numbers ('.._ren') and one theorem, a field a fact of the dump's own or the kernel's comparison; each contract: ONE APPLICATION. num.Mul, proctorref01.Mul: products. value, proctorref03: values. num.Op, value.truth, text, Less, Op: what operators make of values. No claim is proved here.
-/
import Derived.Test.YtjkdpahaingjjaaQAcR
import Derived.Test.YtjkdpahaingjjaaQN0
import Derived.Shelf.Bits.Mul64
import Derived.Test.YtjkdpahaingjjaaProg

namespace Go.Proofs.Ytjkdpahaingjjaa.Ab
open Go
set_option linter.unusedSimpArgs false
set_option maxHeartbeats 4000000
variable {G : Nat → Option AV}
def t2 (r : Int × Int) : AV := .tup [iv r.1, iv r.2]
end Go.Proofs.Ytjkdpahaingjjaa.Ab
namespace Go.Proofs
open Go.Shelf
end Go.Proofs
namespace Go.Proofs.Ytjkdpahaingjjaa.Ab
open Go Go.RowKit
set_option linter.unusedSimpArgs false
set_option maxHeartbeats 4000000
set_option maxRecDepth 100000
variable {G : Nat → Option AV}
end Go.Proofs.Ytjkdpahaingjjaa.Ab
namespace Go.Proofs.Ytjkdpahaingjjaa.Ab
open Go
set_option linter.unusedSimpArgs false
set_option maxHeartbeats 4000000
variable {G : Nat → Option AV}
structure Val where
  kind : Int
  int : Int
  str : Str
  bool : Bool
deriving DecidableEq
abbrev v0 : Val := ⟨0, 0, [], false⟩
def valV (v : Val) : AV := .agg [iv v.kind, iv v.int, .str v.str, .bool v.bool]
theorem value_Int_pc (n : Int) : PureC Try.prog G n_value_Int [iv n] (valV ⟨1, n, [], false⟩) := by
  refine pc_value_Int (Runs.of fun Φ h => ?_)
  unfold c_value_Int
  simp -implicitDefEqProofs only [go_sem, Nat.reduceAdd, Nat.reduceSub, Nat.reduceMul, Nat.reduceLT, Nat.reduceLeDiff, Nat.reduceEqDiff, Nat.reduceBEq, Int.reduceNeg, Int.reduceAdd, Int.reduceLT, Int.reduceLE, Int.reduceToNat, Int.reduceEq, Int.reduceNe, Int.reduceBEq, Int.reduceBNe, Int.reduceMul, Int.reduceSub, reduceIte, reduceCtorEq]
  exact h _ ⟨_, _, rfl, rfl, .refl _⟩
theorem value_Str_pc (s : Str) : PureC Try.prog G n_value_Str [.str s] (valV ⟨2, 0, s, false⟩) := by
  refine pc_value_Str (Runs.of fun Φ h => ?_)
  unfold c_value_Str
  simp -implicitDefEqProofs only [go_sem, Nat.reduceAdd, Nat.reduceSub, Nat.reduceMul, Nat.reduceLT, Nat.reduceLeDiff, Nat.reduceEqDiff, Nat.reduceBEq, Int.reduceNeg, Int.reduceAdd, Int.reduceLT, Int.reduceLE, Int.reduceToNat, Int.reduceEq, Int.reduceNe, Int.reduceBEq, Int.reduceBNe, Int.reduceMul, Int.reduceSub, reduceIte, reduceCtorEq]
  exact h _ ⟨_, _, rfl, rfl, .refl _⟩
theorem value_Bool_pc (b : Bool) : PureC Try.prog G n_value_Bool [.bool b] (valV ⟨3, 0, [], b⟩) := by
  refine pc_value_Bool (Runs.of fun Φ h => ?_)
  unfold c_value_Bool
  simp -implicitDefEqProofs only [go_sem, Nat.reduceAdd, Nat.reduceSub, Nat.reduceMul, Nat.reduceLT, Nat.reduceLeDiff, Nat.reduceEqDiff, Nat.reduceBEq, Int.reduceNeg, Int.reduceAdd, Int.reduceLT, Int.reduceLE, Int.reduceToNat, Int.reduceEq, Int.reduceNe, Int.reduceBEq, Int.reduceBNe, Int.reduceMul, Int.reduceSub, reduceIte, reduceCtorEq]
  exact h _ ⟨_, _, rfl, rfl, .refl _⟩
/-- Which values may be. -/
def Val.ok (v : Val) : Bool :=
  if v.kind = 1 then v.str == [] && !v.bool else if v.kind = 2 then v.int == 0 && (!v.bool && decide ((v.str.length : Int) ≤ 4096)) else decide (v.kind = 3) && (v.int == 0 && v.str == [])
theorem value_Right_pc (v : Val) : PureC Try.prog G n_value_Right [valV v] (.bool v.ok) := by
  obtain ⟨k, n, s, b⟩ := v
  refine pc_value_Right (Runs.of fun Φ h => ?_)
  unfold c_value_Right
  (try (simp -implicitDefEqProofs only [go_sem, Nat.reduceAdd, Nat.reduceSub, Nat.reduceMul, Nat.reduceLT, Nat.reduceLeDiff, Nat.reduceEqDiff, Nat.reduceBEq, Int.reduceNeg, Int.reduceAdd, Int.reduceLT, Int.reduceLE, Int.reduceToNat, Int.reduceEq, Int.reduceNe, Int.reduceBEq, Int.reduceBNe, Int.reduceMul, Int.reduceSub, reduceIte, reduceCtorEq, valV])); repeat' ((first | refine at_guard (fun hb => ?_) (fun hb => ?_) | refine ⟨fun hb => ?_, fun hb => ?_⟩ | refine at_call (value_Int_pc _) rfl rfl ?_ | refine at_call (value_Str_pc _) rfl rfl ?_ | refine at_call (value_Bool_pc _) rfl rfl ?_ | fail) <;> (try (simp -implicitDefEqProofs only [go_sem, Nat.reduceAdd, Nat.reduceSub, Nat.reduceMul, Nat.reduceLT, Nat.reduceLeDiff, Nat.reduceEqDiff, Nat.reduceBEq, Int.reduceNeg, Int.reduceAdd, Int.reduceLT, Int.reduceLE, Int.reduceToNat, Int.reduceEq, Int.reduceNe, Int.reduceBEq, Int.reduceBNe, Int.reduceMul, Int.reduceSub, reduceIte, reduceCtorEq, valV])))
  all_goals (refine h _ ⟨_, _, rfl, rfl, fit_eq ?_⟩; clear h; first | rfl | simp_all [Val.ok])
theorem ref03_Right_pc (v : Val) : PureC Try.prog G n_proctorref03_Right [valV v] (.bool v.ok) := by
  obtain ⟨k, n, s, b⟩ := v
  refine pc_proctorref03_Right (Runs.of fun Φ h => ?_)
  unfold c_proctorref03_Right
  (try (simp -implicitDefEqProofs only [go_sem, Nat.reduceAdd, Nat.reduceSub, Nat.reduceMul, Nat.reduceLT, Nat.reduceLeDiff, Nat.reduceEqDiff, Nat.reduceBEq, Int.reduceNeg, Int.reduceAdd, Int.reduceLT, Int.reduceLE, Int.reduceToNat, Int.reduceEq, Int.reduceNe, Int.reduceBEq, Int.reduceBNe, Int.reduceMul, Int.reduceSub, reduceIte, reduceCtorEq, valV])); repeat' ((first | refine at_guard (fun hb => ?_) (fun hb => ?_) | refine ⟨fun hb => ?_, fun hb => ?_⟩ | fail) <;> (try (simp -implicitDefEqProofs only [go_sem, Nat.reduceAdd, Nat.reduceSub, Nat.reduceMul, Nat.reduceLT, Nat.reduceLeDiff, Nat.reduceEqDiff, Nat.reduceBEq, Int.reduceNeg, Int.reduceAdd, Int.reduceLT, Int.reduceLE, Int.reduceToNat, Int.reduceEq, Int.reduceNe, Int.reduceBEq, Int.reduceBNe, Int.reduceMul, Int.reduceSub, reduceIte, reduceCtorEq, valV])))
  all_goals (refine h _ ⟨_, _, rfl, rfl, fit_eq ?_⟩; clear h; first | rfl | simp_all [Val.ok])
end Go.Proofs.Ytjkdpahaingjjaa.Ab
namespace Go.Proofs.Ytjkdpahaingjjaa.Ab
open Go
set_option linter.unusedSimpArgs false
set_option maxHeartbeats 4000000
set_option maxRecDepth 100000
variable {G : Nat → Option AV}
def lessV (a b : Val) : Bool := if ¬ a.kind = b.kind then decide (a.kind < b.kind) else if a.kind = 1 then decide (a.int < b.int) else if a.kind = 2 then Op.bytesLess a.str b.str else !a.bool && b.bool
theorem value_Less_pc (a b : Val) : PureC Try.prog G n_value_Less [valV a, valV b] (.bool (lessV a b)) := by
  obtain ⟨k, n, s, t⟩ := a
  obtain ⟨k', n', s', t'⟩ := b
  refine pc_value_Less (Runs.of fun Φ h => ?_)
  unfold c_value_Less
  unfold lessV at h
  (try (simp -implicitDefEqProofs only [go_sem, Nat.reduceAdd, Nat.reduceSub, Nat.reduceMul, Nat.reduceLT, Nat.reduceLeDiff, Nat.reduceEqDiff, Nat.reduceBEq, Int.reduceNeg, Int.reduceAdd, Int.reduceLT, Int.reduceLE, Int.reduceToNat, Int.reduceEq, Int.reduceNe, Int.reduceBEq, Int.reduceBNe, Int.reduceMul, Int.reduceSub, reduceIte, reduceCtorEq, valV])); repeat' ((first | refine at_guard (fun hb => ?_) (fun hb => ?_) | refine ⟨fun hb => ?_, fun hb => ?_⟩ | fail) <;> (try (simp -implicitDefEqProofs only [go_sem, Nat.reduceAdd, Nat.reduceSub, Nat.reduceMul, Nat.reduceLT, Nat.reduceLeDiff, Nat.reduceEqDiff, Nat.reduceBEq, Int.reduceNeg, Int.reduceAdd, Int.reduceLT, Int.reduceLE, Int.reduceToNat, Int.reduceEq, Int.reduceNe, Int.reduceBEq, Int.reduceBNe, Int.reduceMul, Int.reduceSub, reduceIte, reduceCtorEq, valV])))
  all_goals
    refine h _ ⟨_, _, rfl, rfl, fit_eq ?_⟩
    clear h
    simp_all
theorem val_beq (k n : Int) (s : Str) (t : Bool) (k' n' : Int) (s' : Str) (t' : Bool) : ((⟨k, n, s, t⟩ : Val) == ⟨k', n', s', t'⟩) = (k == k' && (n == n' && (s == s' && t == t'))) := by
  rw [Bool.eq_iff_iff]
  simp
end Go.Proofs.Ytjkdpahaingjjaa.Ab
