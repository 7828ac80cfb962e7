/-
  Nothing here: the seat's abstract code is one text. num, proctorref01: sums, differences, products, quotients. DERIVED: THE SHELF's CONTRACTS AT THIS DUMP, IN PLAIN WORDS (tools/lay-plain.mjs out of 'TrymShelf.lean', which tools/lay-shelf.mjs wrote): THE SAME DECLARATIONS UNDER THE SAME NAMES: 'import', 'namespace', 'open', 'def', 'theorem' AND NOTHING ELSE: no command of the shelf's: FOR A HAND-IN. Each laying: the table of numbers ('.._ren') and one theorem, a field a fact of the dump's own or the kernel's comparison; each contract: ONE APPLICATION. num.Mul, proctorref01.Mul: products. value, proctorref03: values. num.Op, value.truth, text, Less, Op: what operators make of values. proctorref03: the order of texts and values, what operators make of values. Automata's parts as values; slices' and core's generic functions over them. Names, in plain words: bytes, signs, words. strings, schema, proctorref07: names and declarations. schema, proctorref07: declarations. proctorref01, proctorref03, proctorref13.Type: what operators make of empty values. core: expressions. core: the expressions of all nodes. No claim is proved here.
-/
import Derived.Test.YtjkdpahaingjjaaYAcR
import Derived.Test.YtjkdpahaingjjaaYN0
import Derived.Shelf.Bits.Mul64
import Derived.Test.YtjkdpahaingjjaaProg

namespace Go.Proofs.Ytjkdpahaingjjaa.Ab
open Go
set_option linter.unusedSimpArgs false
set_option maxHeartbeats 4000000
variable {G : Nat → Option AV}
def t2 (r : Int × Int) : AV := .tup [iv r.1, iv r.2]
end Go.Proofs.Ytjkdpahaingjjaa.Ab
namespace Go.Proofs
open Go.Shelf
end Go.Proofs
namespace Go.Proofs.Ytjkdpahaingjjaa.Ab
open Go Go.RowKit
set_option linter.unusedSimpArgs false
set_option maxHeartbeats 4000000
set_option maxRecDepth 100000
variable {G : Nat → Option AV}
end Go.Proofs.Ytjkdpahaingjjaa.Ab
namespace Go.Proofs.Ytjkdpahaingjjaa.Ab
open Go
set_option linter.unusedSimpArgs false
set_option maxHeartbeats 4000000
variable {G : Nat → Option AV}
structure Val where
  kind : Int
  int : Int
  str : Str
  bool : Bool
deriving DecidableEq
abbrev v0 : Val := ⟨0, 0, [], false⟩
def valV (v : Val) : AV := .agg [iv v.kind, iv v.int, .str v.str, .bool v.bool]
theorem value_Int_pc (n : Int) : PureC Try.prog G n_value_Int [iv n] (valV ⟨1, n, [], false⟩) := by
  refine pc_value_Int (Runs.of fun Φ h => ?_)
  unfold c_value_Int
  simp -implicitDefEqProofs only [go_sem, Nat.reduceAdd, Nat.reduceSub, Nat.reduceMul, Nat.reduceLT, Nat.reduceLeDiff, Nat.reduceEqDiff, Nat.reduceBEq, Int.reduceNeg, Int.reduceAdd, Int.reduceLT, Int.reduceLE, Int.reduceToNat, Int.reduceEq, Int.reduceNe, Int.reduceBEq, Int.reduceBNe, Int.reduceMul, Int.reduceSub, reduceIte, reduceCtorEq]
  exact h _ ⟨_, _, rfl, rfl, .refl _⟩
theorem value_Str_pc (s : Str) : PureC Try.prog G n_value_Str [.str s] (valV ⟨2, 0, s, false⟩) := by
  refine pc_value_Str (Runs.of fun Φ h => ?_)
  unfold c_value_Str
  simp -implicitDefEqProofs only [go_sem, Nat.reduceAdd, Nat.reduceSub, Nat.reduceMul, Nat.reduceLT, Nat.reduceLeDiff, Nat.reduceEqDiff, Nat.reduceBEq, Int.reduceNeg, Int.reduceAdd, Int.reduceLT, Int.reduceLE, Int.reduceToNat, Int.reduceEq, Int.reduceNe, Int.reduceBEq, Int.reduceBNe, Int.reduceMul, Int.reduceSub, reduceIte, reduceCtorEq]
  exact h _ ⟨_, _, rfl, rfl, .refl _⟩
theorem value_Bool_pc (b : Bool) : PureC Try.prog G n_value_Bool [.bool b] (valV ⟨3, 0, [], b⟩) := by
  refine pc_value_Bool (Runs.of fun Φ h => ?_)
  unfold c_value_Bool
  simp -implicitDefEqProofs only [go_sem, Nat.reduceAdd, Nat.reduceSub, Nat.reduceMul, Nat.reduceLT, Nat.reduceLeDiff, Nat.reduceEqDiff, Nat.reduceBEq, Int.reduceNeg, Int.reduceAdd, Int.reduceLT, Int.reduceLE, Int.reduceToNat, Int.reduceEq, Int.reduceNe, Int.reduceBEq, Int.reduceBNe, Int.reduceMul, Int.reduceSub, reduceIte, reduceCtorEq]
  exact h _ ⟨_, _, rfl, rfl, .refl _⟩
/-- Which values may be. -/
def Val.ok (v : Val) : Bool :=
  if v.kind = 1 then v.str == [] && !v.bool else if v.kind = 2 then v.int == 0 && (!v.bool && decide ((v.str.length : Int) ≤ 4096)) else decide (v.kind = 3) && (v.int == 0 && v.str == [])
theorem value_Right_pc (v : Val) : PureC Try.prog G n_value_Right [valV v] (.bool v.ok) := by
  obtain ⟨k, n, s, b⟩ := v
  refine pc_value_Right (Runs.of fun Φ h => ?_)
  unfold c_value_Right
  (try (simp -implicitDefEqProofs only [go_sem, Nat.reduceAdd, Nat.reduceSub, Nat.reduceMul, Nat.reduceLT, Nat.reduceLeDiff, Nat.reduceEqDiff, Nat.reduceBEq, Int.reduceNeg, Int.reduceAdd, Int.reduceLT, Int.reduceLE, Int.reduceToNat, Int.reduceEq, Int.reduceNe, Int.reduceBEq, Int.reduceBNe, Int.reduceMul, Int.reduceSub, reduceIte, reduceCtorEq, valV])); repeat' ((first | refine at_guard (fun hb => ?_) (fun hb => ?_) | refine ⟨fun hb => ?_, fun hb => ?_⟩ | refine at_call (value_Int_pc _) rfl rfl ?_ | refine at_call (value_Str_pc _) rfl rfl ?_ | refine at_call (value_Bool_pc _) rfl rfl ?_ | fail) <;> (try (simp -implicitDefEqProofs only [go_sem, Nat.reduceAdd, Nat.reduceSub, Nat.reduceMul, Nat.reduceLT, Nat.reduceLeDiff, Nat.reduceEqDiff, Nat.reduceBEq, Int.reduceNeg, Int.reduceAdd, Int.reduceLT, Int.reduceLE, Int.reduceToNat, Int.reduceEq, Int.reduceNe, Int.reduceBEq, Int.reduceBNe, Int.reduceMul, Int.reduceSub, reduceIte, reduceCtorEq, valV])))
  all_goals (refine h _ ⟨_, _, rfl, rfl, fit_eq ?_⟩; clear h; first | rfl | simp_all [Val.ok])
theorem ref03_Right_pc (v : Val) : PureC Try.prog G n_proctorref03_Right [valV v] (.bool v.ok) := by
  obtain ⟨k, n, s, b⟩ := v
  refine pc_proctorref03_Right (Runs.of fun Φ h => ?_)
  unfold c_proctorref03_Right
  (try (simp -implicitDefEqProofs only [go_sem, Nat.reduceAdd, Nat.reduceSub, Nat.reduceMul, Nat.reduceLT, Nat.reduceLeDiff, Nat.reduceEqDiff, Nat.reduceBEq, Int.reduceNeg, Int.reduceAdd, Int.reduceLT, Int.reduceLE, Int.reduceToNat, Int.reduceEq, Int.reduceNe, Int.reduceBEq, Int.reduceBNe, Int.reduceMul, Int.reduceSub, reduceIte, reduceCtorEq, valV])); repeat' ((first | refine at_guard (fun hb => ?_) (fun hb => ?_) | refine ⟨fun hb => ?_, fun hb => ?_⟩ | fail) <;> (try (simp -implicitDefEqProofs only [go_sem, Nat.reduceAdd, Nat.reduceSub, Nat.reduceMul, Nat.reduceLT, Nat.reduceLeDiff, Nat.reduceEqDiff, Nat.reduceBEq, Int.reduceNeg, Int.reduceAdd, Int.reduceLT, Int.reduceLE, Int.reduceToNat, Int.reduceEq, Int.reduceNe, Int.reduceBEq, Int.reduceBNe, Int.reduceMul, Int.reduceSub, reduceIte, reduceCtorEq, valV])))
  all_goals (refine h _ ⟨_, _, rfl, rfl, fit_eq ?_⟩; clear h; first | rfl | simp_all [Val.ok])
end Go.Proofs.Ytjkdpahaingjjaa.Ab
namespace Go.Proofs.Ytjkdpahaingjjaa.Ab
open Go
set_option linter.unusedSimpArgs false
set_option maxHeartbeats 4000000
set_option maxRecDepth 100000
variable {G : Nat → Option AV}
def lessV (a b : Val) : Bool := if ¬ a.kind = b.kind then decide (a.kind < b.kind) else if a.kind = 1 then decide (a.int < b.int) else if a.kind = 2 then Op.bytesLess a.str b.str else !a.bool && b.bool
theorem value_Less_pc (a b : Val) : PureC Try.prog G n_value_Less [valV a, valV b] (.bool (lessV a b)) := by
  obtain ⟨k, n, s, t⟩ := a
  obtain ⟨k', n', s', t'⟩ := b
  refine pc_value_Less (Runs.of fun Φ h => ?_)
  unfold c_value_Less
  unfold lessV at h
  (try (simp -implicitDefEqProofs only [go_sem, Nat.reduceAdd, Nat.reduceSub, Nat.reduceMul, Nat.reduceLT, Nat.reduceLeDiff, Nat.reduceEqDiff, Nat.reduceBEq, Int.reduceNeg, Int.reduceAdd, Int.reduceLT, Int.reduceLE, Int.reduceToNat, Int.reduceEq, Int.reduceNe, Int.reduceBEq, Int.reduceBNe, Int.reduceMul, Int.reduceSub, reduceIte, reduceCtorEq, valV])); repeat' ((first | refine at_guard (fun hb => ?_) (fun hb => ?_) | refine ⟨fun hb => ?_, fun hb => ?_⟩ | fail) <;> (try (simp -implicitDefEqProofs only [go_sem, Nat.reduceAdd, Nat.reduceSub, Nat.reduceMul, Nat.reduceLT, Nat.reduceLeDiff, Nat.reduceEqDiff, Nat.reduceBEq, Int.reduceNeg, Int.reduceAdd, Int.reduceLT, Int.reduceLE, Int.reduceToNat, Int.reduceEq, Int.reduceNe, Int.reduceBEq, Int.reduceBNe, Int.reduceMul, Int.reduceSub, reduceIte, reduceCtorEq, valV])))
  all_goals
    refine h _ ⟨_, _, rfl, rfl, fit_eq ?_⟩
    clear h
    simp_all
theorem val_beq (k n : Int) (s : Str) (t : Bool) (k' n' : Int) (s' : Str) (t' : Bool) : ((⟨k, n, s, t⟩ : Val) == ⟨k', n', s', t'⟩) = (k == k' && (n == n' && (s == s' && t == t'))) := by
  rw [Bool.eq_iff_iff]
  simp
end Go.Proofs.Ytjkdpahaingjjaa.Ab
namespace Go.Proofs.Ytjkdpahaingjjaa.Ab
open Go
set_option linter.unusedSimpArgs false
set_option maxHeartbeats 4000000
set_option maxRecDepth 100000
variable {G : Nat → Option AV}
theorem bl_same (x : UInt8) (s t : Str) : Op.bytesLess (x :: s) (x :: t) = Op.bytesLess s t := by simp [Op.bytesLess]
theorem bl_ne {x y : UInt8} (h : ¬ x = y) (s t : Str) : Op.bytesLess (x :: s) (y :: t) = decide (x < y) := by simp [Op.bytesLess, h]
theorem bl_end {s t : Str} (h : s = [] ∨ t = []) : Op.bytesLess s t = decide ((s.length : Int) < t.length) := by
  rcases h with rfl | rfl
  · cases t <;> simp [Op.bytesLess] <;> omega
  · cases s <;> simp [Op.bytesLess] <;> omega
theorem drop_at {α : Type} {l : List α} {i : Nat} {x : α} (h : l[i]? = some x) : l.drop i = x :: l.drop (i + 1) := by
  obtain ⟨hlt, rfl⟩ := List.getElem?_eq_some_iff.1 h
  exact List.drop_eq_getElem_cons hlt
theorem ref03_Below_pc (a b : Str) (ha : a.length < 9223372036854775807) : PureC Try.prog G n_proctorref03_Below [.str a, .str b] (.bool (Op.bytesLess a b)) := by
  refine pc_proctorref03_Below (Runs.of fun Φ h => ?_)
  unfold c_proctorref03_Below
  simp -implicitDefEqProofs only [go_sem, Nat.reduceAdd, Nat.reduceSub, Nat.reduceMul, Nat.reduceLT, Nat.reduceLeDiff, Nat.reduceEqDiff, Nat.reduceBEq, Int.reduceNeg, Int.reduceAdd, Int.reduceLT, Int.reduceLE, Int.reduceToNat, Int.reduceEq, Int.reduceNe, Int.reduceBEq, Int.reduceBNe, Int.reduceMul, Int.reduceSub, reduceIte, reduceCtorEq]
  refine at_loop (fun n st => ∃ i : Nat, i + n = a.length ∧ i ≤ b.length ∧ st = ⟨37, [(0, .str a), (1, .str b), (5, iv i)], []⟩ ∧ Op.bytesLess (a.drop i) (b.drop i) = Op.bytesLess a b) a.length ⟨0, by simp, Nat.zero_le _, rfl, rfl⟩ ?_
  rintro I hI n st ⟨i, hi, hib, rfl, hno⟩
  have hle : i ≤ a.length := by omega
  by_cases h1 : i < a.length
  · obtain ⟨x, hx, _⟩ := at_some h1
    have hw := wrap_succ h1 (by omega)
    by_cases h2 : i < b.length
    · obtain ⟨y, hy, _⟩ := at_some h2
      rw [drop_at hx, drop_at hy] at hno
      have k1 : ((i : Int) < (a.length : Int)) = True := by simp; omega
      have k2 : ((i : Int) < (b.length : Int)) = True := by simp; omega
      have e1 : aidx (.str a) (.int .i64 (i : Int)) = some (.int .u8 x.toNat) := aidx_str _ (by omega) (by simpa using hx)
      have e2 : aidx (.str b) (.int .i64 (i : Int)) = some (.int .u8 y.toNat) := aidx_str _ (by omega) (by simpa using hy)
      by_cases hxy : x = y
      · subst hxy
        rw [bl_same] at hno
        have e3 : ((x.toNat : Int) != (x.toNat : Int)) = false := by simp
        (try (simp -implicitDefEqProofs only [go_sem, Nat.reduceAdd, Nat.reduceSub, Nat.reduceMul, Nat.reduceLT, Nat.reduceLeDiff, Nat.reduceEqDiff, Nat.reduceBEq, Int.reduceNeg, Int.reduceAdd, Int.reduceLT, Int.reduceLE, Int.reduceToNat, Int.reduceEq, Int.reduceNe, Int.reduceBEq, Int.reduceBNe, Int.reduceMul, Int.reduceSub, reduceIte, reduceCtorEq, k1, k2, e1, e2, e3, hw, decide_true])); repeat' ((first | refine at_guard (fun hb => ?_) (fun hb => ?_) | refine ⟨fun hb => ?_, fun hb => ?_⟩ | fail) <;> (try (simp -implicitDefEqProofs only [go_sem, Nat.reduceAdd, Nat.reduceSub, Nat.reduceMul, Nat.reduceLT, Nat.reduceLeDiff, Nat.reduceEqDiff, Nat.reduceBEq, Int.reduceNeg, Int.reduceAdd, Int.reduceLT, Int.reduceLE, Int.reduceToNat, Int.reduceEq, Int.reduceNe, Int.reduceBEq, Int.reduceBNe, Int.reduceMul, Int.reduceSub, reduceIte, reduceCtorEq, k1, k2, e1, e2, e3, hw, decide_true])))
        exact at_again (n - 1) (by omega) (hI _ _ ⟨i + 1, by omega, by omega, rfl, hno⟩)
      · rw [bl_ne hxy] at hno
        have hn : ¬ x.toNat = y.toNat := fun e => hxy (UInt8.toNat_inj.1 e)
        have e3 : ((x.toNat : Int) != (y.toNat : Int)) = true := by simp; omega
        (try (simp -implicitDefEqProofs only [go_sem, Nat.reduceAdd, Nat.reduceSub, Nat.reduceMul, Nat.reduceLT, Nat.reduceLeDiff, Nat.reduceEqDiff, Nat.reduceBEq, Int.reduceNeg, Int.reduceAdd, Int.reduceLT, Int.reduceLE, Int.reduceToNat, Int.reduceEq, Int.reduceNe, Int.reduceBEq, Int.reduceBNe, Int.reduceMul, Int.reduceSub, reduceIte, reduceCtorEq, k1, k2, e1, e2, e3, decide_true])); repeat' ((first | refine at_guard (fun hb => ?_) (fun hb => ?_) | refine ⟨fun hb => ?_, fun hb => ?_⟩ | fail) <;> (try (simp -implicitDefEqProofs only [go_sem, Nat.reduceAdd, Nat.reduceSub, Nat.reduceMul, Nat.reduceLT, Nat.reduceLeDiff, Nat.reduceEqDiff, Nat.reduceBEq, Int.reduceNeg, Int.reduceAdd, Int.reduceLT, Int.reduceLE, Int.reduceToNat, Int.reduceEq, Int.reduceNe, Int.reduceBEq, Int.reduceBNe, Int.reduceMul, Int.reduceSub, reduceIte, reduceCtorEq, k1, k2, e1, e2, e3, decide_true])))
        refine h _ ⟨_, _, rfl, rfl, fitB ?_⟩
        rw [← hno, Bool.eq_iff_iff]
        simp [UInt8.lt_iff_toNat_lt]
    · have : i = b.length := by omega
      have k1 : ((i : Int) < (a.length : Int)) = True := by simp; omega
      have k2 : ((i : Int) < (b.length : Int)) = False := by simp; omega
      (try (simp -implicitDefEqProofs only [go_sem, Nat.reduceAdd, Nat.reduceSub, Nat.reduceMul, Nat.reduceLT, Nat.reduceLeDiff, Nat.reduceEqDiff, Nat.reduceBEq, Int.reduceNeg, Int.reduceAdd, Int.reduceLT, Int.reduceLE, Int.reduceToNat, Int.reduceEq, Int.reduceNe, Int.reduceBEq, Int.reduceBNe, Int.reduceMul, Int.reduceSub, reduceIte, reduceCtorEq, k1, k2, decide_true, decide_false])); repeat' ((first | refine at_guard (fun hb => ?_) (fun hb => ?_) | refine ⟨fun hb => ?_, fun hb => ?_⟩ | fail) <;> (try (simp -implicitDefEqProofs only [go_sem, Nat.reduceAdd, Nat.reduceSub, Nat.reduceMul, Nat.reduceLT, Nat.reduceLeDiff, Nat.reduceEqDiff, Nat.reduceBEq, Int.reduceNeg, Int.reduceAdd, Int.reduceLT, Int.reduceLE, Int.reduceToNat, Int.reduceEq, Int.reduceNe, Int.reduceBEq, Int.reduceBNe, Int.reduceMul, Int.reduceSub, reduceIte, reduceCtorEq, k1, k2, decide_true, decide_false])))
      refine h _ ⟨_, _, rfl, rfl, fitB ?_⟩
      rw [← hno, bl_end (.inr (by rw [List.drop_eq_nil_iff]; omega)), Bool.eq_iff_iff]
      simp
      omega
  · have : i = a.length := by omega
    have k1 : ((i : Int) < (a.length : Int)) = False := by simp; omega
    (try (simp -implicitDefEqProofs only [go_sem, Nat.reduceAdd, Nat.reduceSub, Nat.reduceMul, Nat.reduceLT, Nat.reduceLeDiff, Nat.reduceEqDiff, Nat.reduceBEq, Int.reduceNeg, Int.reduceAdd, Int.reduceLT, Int.reduceLE, Int.reduceToNat, Int.reduceEq, Int.reduceNe, Int.reduceBEq, Int.reduceBNe, Int.reduceMul, Int.reduceSub, reduceIte, reduceCtorEq, k1, decide_true, decide_false])); repeat' ((first | refine at_guard (fun hb => ?_) (fun hb => ?_) | refine ⟨fun hb => ?_, fun hb => ?_⟩ | fail) <;> (try (simp -implicitDefEqProofs only [go_sem, Nat.reduceAdd, Nat.reduceSub, Nat.reduceMul, Nat.reduceLT, Nat.reduceLeDiff, Nat.reduceEqDiff, Nat.reduceBEq, Int.reduceNeg, Int.reduceAdd, Int.reduceLT, Int.reduceLE, Int.reduceToNat, Int.reduceEq, Int.reduceNe, Int.reduceBEq, Int.reduceBNe, Int.reduceMul, Int.reduceSub, reduceIte, reduceCtorEq, k1, decide_true, decide_false])))
    refine h _ ⟨_, _, rfl, rfl, fitB ?_⟩
    rw [← hno, bl_end (.inl (by rw [List.drop_eq_nil_iff]; omega)), Bool.eq_iff_iff]
    simp
    omega
theorem ref03_Less_pc (a b : Val) (ha : a.str.length < 9223372036854775807) : PureC Try.prog G n_proctorref03_Less [valV a, valV b] (.bool (lessV a b)) := by
  have h1 := ref03_Below_pc (G := G) a.str b.str ha
  obtain ⟨k, n, s, t⟩ := a
  obtain ⟨k', n', s', t'⟩ := b
  dsimp only at *
  refine pc_proctorref03_Less (Runs.of fun Φ h => ?_)
  unfold c_proctorref03_Less
  unfold lessV at h
  dsimp only at h
  generalize Op.bytesLess s s' = r at *
  (try (simp -implicitDefEqProofs only [go_sem, Nat.reduceAdd, Nat.reduceSub, Nat.reduceMul, Nat.reduceLT, Nat.reduceLeDiff, Nat.reduceEqDiff, Nat.reduceBEq, Int.reduceNeg, Int.reduceAdd, Int.reduceLT, Int.reduceLE, Int.reduceToNat, Int.reduceEq, Int.reduceNe, Int.reduceBEq, Int.reduceBNe, Int.reduceMul, Int.reduceSub, reduceIte, reduceCtorEq, valV])); repeat' ((first | refine at_guard (fun hb => ?_) (fun hb => ?_) | refine ⟨fun hb => ?_, fun hb => ?_⟩ | refine at_call (h1) rfl rfl ?_ | fail) <;> (try (simp -implicitDefEqProofs only [go_sem, Nat.reduceAdd, Nat.reduceSub, Nat.reduceMul, Nat.reduceLT, Nat.reduceLeDiff, Nat.reduceEqDiff, Nat.reduceBEq, Int.reduceNeg, Int.reduceAdd, Int.reduceLT, Int.reduceLE, Int.reduceToNat, Int.reduceEq, Int.reduceNe, Int.reduceBEq, Int.reduceBNe, Int.reduceMul, Int.reduceSub, reduceIte, reduceCtorEq, valV])))
  all_goals
    refine h _ ⟨_, _, rfl, rfl, fit_eq ?_⟩
    clear h h1
    simp_all
end Go.Proofs.Ytjkdpahaingjjaa.Ab
namespace Go.Proofs.Ytjkdpahaingjjaa.Ab
open Go
set_option linter.unusedSimpArgs false
set_option maxHeartbeats 4000000
variable {G : Nat → Option AV}
theorem slices_Index_int_int_pc (l : List Int) (v : Int) (hl : l.length < 9223372036854775807) : PureC Try.prog G n_slices_Index_int_int [.seq 1 (l.map iv), iv v] (iv (idxF (fun x => v == x) l)) := by
  refine pc_slices_Index_int_int (Runs.of fun Φ h => ?_)
  unfold c_slices_Index_int_int
  simp -implicitDefEqProofs only [go_sem, Nat.reduceAdd, Nat.reduceSub, Nat.reduceMul, Nat.reduceLT, Nat.reduceLeDiff, Nat.reduceEqDiff, Nat.reduceBEq, Int.reduceNeg, Int.reduceAdd, Int.reduceLT, Int.reduceLE, Int.reduceToNat, Int.reduceEq, Int.reduceNe, Int.reduceBEq, Int.reduceBNe, Int.reduceMul, Int.reduceSub, reduceIte, reduceCtorEq, List.length_map]
  refine at_loop (fun n st => ∃ i : Nat, i + n = l.length ∧ st = ⟨19, [(0, .seq 1 (l.map iv)), (1, iv v), (7, iv l.length), (8, iv i)], []⟩ ∧ ∀ j x, j < i → l[j]? = some x → (v == x) = false) l.length ⟨0, by simp, rfl, fun j x hj => by omega⟩ ?_
  rintro I hI n st ⟨i, hi, rfl, hno⟩
  simp -implicitDefEqProofs only [go_sem, Nat.reduceAdd, Nat.reduceSub, Nat.reduceMul, Nat.reduceLT, Nat.reduceLeDiff, Nat.reduceEqDiff, Nat.reduceBEq, Int.reduceNeg, Int.reduceAdd, Int.reduceLT, Int.reduceLE, Int.reduceToNat, Int.reduceEq, Int.reduceNe, Int.reduceBEq, Int.reduceBNe, Int.reduceMul, Int.reduceSub, reduceIte, reduceCtorEq]
  refine ⟨fun hlt => ?_, fun hge => ?_⟩
  · have hlt' : i < l.length := by omega
    obtain ⟨x, hx, hm⟩ := at_some hlt'
    have hw := wrap_succ hlt' (by omega)
    have fin : (v == x) = false → again I n ⟨19, [(0, .seq 1 (l.map iv)), (1, iv v), (7, iv l.length), (8, iv (i + 1 : Nat))], []⟩ := fun hv => at_again (n - 1) (by omega) (hI _ _ ⟨i + 1, by omega, rfl, fun j y hj hy => by
        by_cases e : j = i
        · subst e; rw [hx] at hy; cases hy; exact hv
        · exact hno j y (by omega) hy⟩)
    simp -implicitDefEqProofs only [go_sem, Nat.reduceAdd, Nat.reduceSub, Nat.reduceMul, Nat.reduceLT, Nat.reduceLeDiff, Nat.reduceEqDiff, Nat.reduceBEq, Int.reduceNeg, Int.reduceAdd, Int.reduceLT, Int.reduceLE, Int.reduceToNat, Int.reduceEq, Int.reduceNe, Int.reduceBEq, Int.reduceBNe, Int.reduceMul, Int.reduceSub, reduceIte, reduceCtorEq, aiaddr_map hx]
    refine ⟨fun hb => ?_, fun hb => ?_⟩
    · have hv : (v == x) = true := by simpa using hb
      exact h _ ⟨_, _, rfl, rfl, fitI (idxF_at hx hv hno).symm⟩
    · have hv : (v == x) = false := by simpa using hb
      simp -implicitDefEqProofs only [go_sem, Nat.reduceAdd, Nat.reduceSub, Nat.reduceMul, Nat.reduceLT, Nat.reduceLeDiff, Nat.reduceEqDiff, Nat.reduceBEq, Int.reduceNeg, Int.reduceAdd, Int.reduceLT, Int.reduceLE, Int.reduceToNat, Int.reduceEq, Int.reduceNe, Int.reduceBEq, Int.reduceBNe, Int.reduceMul, Int.reduceSub, reduceIte, reduceCtorEq, hw]
      exact fin hv
  · have : i = l.length := by omega
    subst this
    exact h _ ⟨_, _, rfl, rfl, fitI (idxF_none hno).symm⟩
theorem slices_Contains_int_int_pc (l : List Int) (v : Int) (hl : l.length < 9223372036854775807) : PureC Try.prog G n_slices_Contains_int_int [.seq 1 (l.map iv), iv v] (.bool (l.any fun x => v == x)) := by
  refine pc_slices_Contains_int_int (Runs.of fun Φ h => ?_)
  unfold c_slices_Contains_int_int
  simp -implicitDefEqProofs only [go_sem, Nat.reduceAdd, Nat.reduceSub, Nat.reduceMul, Nat.reduceLT, Nat.reduceLeDiff, Nat.reduceEqDiff, Nat.reduceBEq, Int.reduceNeg, Int.reduceAdd, Int.reduceLT, Int.reduceLE, Int.reduceToNat, Int.reduceEq, Int.reduceNe, Int.reduceBEq, Int.reduceBNe, Int.reduceMul, Int.reduceSub, reduceIte, reduceCtorEq]
  refine at_call (slices_Index_int_int_pc l v hl) rfl rfl ?_
  simp -implicitDefEqProofs only [go_sem, Nat.reduceAdd, Nat.reduceSub, Nat.reduceMul, Nat.reduceLT, Nat.reduceLeDiff, Nat.reduceEqDiff, Nat.reduceBEq, Int.reduceNeg, Int.reduceAdd, Int.reduceLT, Int.reduceLE, Int.reduceToNat, Int.reduceEq, Int.reduceNe, Int.reduceBEq, Int.reduceBNe, Int.reduceMul, Int.reduceSub, reduceIte, reduceCtorEq]
  exact h _ ⟨_, _, rfl, rfl, fitB (idxF_any _ _)⟩
end Go.Proofs.Ytjkdpahaingjjaa.Ab
namespace Go.Proofs.Ytjkdpahaingjjaa.Ab
open Go
/-- A letter, a digit or _. -/
def nb (c : UInt8) : Bool := c.toNat == 95 || (decide (48 ≤ c.toNat) && decide (c.toNat ≤ 57) || (decide (65 ≤ c.toNat) && decide (c.toNat ≤ 90) || decide (97 ≤ c.toNat) && decide (c.toNat ≤ 122)))
end Go.Proofs.Ytjkdpahaingjjaa.Ab
namespace Go.Proofs.Ytjkdpahaingjjaa.Ab
open Go
set_option linter.unusedSimpArgs false
set_option maxHeartbeats 4000000
variable {G : Nat → Option AV}
end Go.Proofs.Ytjkdpahaingjjaa.Ab
namespace Go.Proofs.Ytjkdpahaingjjaa.Ab
open Go
set_option linter.unusedSimpArgs false
set_option maxHeartbeats 4000000
variable {G : Nat → Option AV}
theorem aidx_at {s : Str} {i : Nat} {c : UInt8} (h : s[i]? = some c) : aidx (.str s) (.int .i64 (i : Int)) = some (.int .u8 c.toNat) := by
  have h0 : ¬ (i : Int) < 0 := by omega
  simp [aidx, h]
end Go.Proofs.Ytjkdpahaingjjaa.Ab
namespace Go.Proofs.Ytjkdpahaingjjaa.Ab
open Go
set_option linter.unusedSimpArgs false
set_option maxHeartbeats 4000000
variable {G : Nat → Option AV}
end Go.Proofs.Ytjkdpahaingjjaa.Ab
namespace Go.Proofs.Ytjkdpahaingjjaa.Ab
open Go
set_option linter.unusedSimpArgs false
set_option maxHeartbeats 4000000
variable {G : Nat → Option AV}
structure ExT where
  kind : Int
  depth : Int
  from_ : Int
deriving DecidableEq
abbrev e0 : ExT := ⟨0, 0, 0⟩
end Go.Proofs.Ytjkdpahaingjjaa.Ab
namespace Go.Proofs.Ytjkdpahaingjjaa.Ab
open Go
set_option linter.unusedSimpArgs false
set_option maxHeartbeats 4000000
variable {G : Nat → Option AV}
theorem aiaddr_arr {H : List (Nat × Box)} {sz i k m n : Nat} (hn : n < m) : aiaddr H sz (.arr i k m) (.int .i64 (n : Int)) = (hget H i).bind fun b => if b.sz = sz then some (.ref i (k + n) 0) else none := by
  simp only [aiaddr]
  cases hget H i with
  | none => rfl
  | some b => simp [show (n : Int) < m by omega]
end Go.Proofs.Ytjkdpahaingjjaa.Ab
