/-
  The functions' abstract code: all of it. num, proctorref01: sums, differences, products, quotients. num.Mul, proctorref01.Mul: products. value, proctorref03: values. num.Op, value.truth, text, Less, Op: what operators make of values. proctorref03: the order of texts and values, what operators make of values. No claim is proved here.
-/
import Derived.Test.YtjbcfpkibnhodaaGreatDoorUAcR1
import Derived.Test.YtjbcfpkibnhodaaGreatDoorUAcR2
import Derived.Test.YtjbcfpkibnhodaaGreatDoorUAcR3
import Derived.Test.YtjbcfpkibnhodaaGreatDoorUAcR4
import Derived.Test.YtjbcfpkibnhodaaGreatDoorUAcR0
import Derived.Shelf.Bits.Mul64
import Derived.Test.YtjbcfpkibnhodaaGreatDoorProg
namespace Go.Proofs.YtjbcfpkibnhodaaGreatDoor.Ab
end Go.Proofs.YtjbcfpkibnhodaaGreatDoor.Ab
namespace Go.Proofs.YtjbcfpkibnhodaaGreatDoor.Ab
open Go
set_option linter.unusedSimpArgs false
set_option maxHeartbeats 4000000
variable {G : Nat → Option AV}
def in64 (n : Int) : Bool := decide (-9223372036854775808 ≤ n) && decide (n ≤ 9223372036854775807)
theorem in64_iff {n : Int} : in64 n = true ↔ -9223372036854775808 ≤ n ∧ n ≤ 9223372036854775807 := by simp [in64]
def ovR (n : Int) : Int × Int := if in64 n = true then (n, 0) else (0, 6)
def t2 (r : Int × Int) : AV := .tup [iv r.1, iv r.2]
def divR (a b : Int) : Int × Int := if b = 0 then (0, 7) else ovR (a.tdiv b)
def modR (a b : Int) : Int × Int := if b = 0 then (0, 7) else (a.tmod b, 0)
end Go.Proofs.YtjbcfpkibnhodaaGreatDoor.Ab
namespace Go.Proofs.YtjbcfpkibnhodaaGreatDoor.Ab
open Go Go.RowKit
set_option linter.unusedSimpArgs false
set_option maxHeartbeats 4000000
set_option maxRecDepth 100000
variable {G : Nat → Option AV}
end Go.Proofs.YtjbcfpkibnhodaaGreatDoor.Ab
namespace Go.Proofs.YtjbcfpkibnhodaaGreatDoor.Ab
open Go
set_option linter.unusedSimpArgs false
set_option maxHeartbeats 4000000
variable {G : Nat → Option AV}
structure Val where
  kind : Int
  int : Int
  str : Str
  bool : Bool
deriving DecidableEq
abbrev v0 : Val := ⟨0, 0, [], false⟩
def valV (v : Val) : AV := .agg [iv v.kind, iv v.int, .str v.str, .bool v.bool]
theorem value_Int_pc (n : Int) : PureC Tryz.prog G n_value_Int [iv n] (valV ⟨1, n, [], false⟩) := by
  refine pc_value_Int (Runs.of fun Φ h => ?_)
  unfold c_value_Int
  simp -implicitDefEqProofs only [go_sem]
  exact h _ ⟨_, _, rfl, rfl, .refl _⟩
theorem value_Str_pc (s : Str) : PureC Tryz.prog G n_value_Str [.str s] (valV ⟨2, 0, s, false⟩) := by
  refine pc_value_Str (Runs.of fun Φ h => ?_)
  unfold c_value_Str
  simp -implicitDefEqProofs only [go_sem]
  exact h _ ⟨_, _, rfl, rfl, .refl _⟩
theorem value_Bool_pc (b : Bool) : PureC Tryz.prog G n_value_Bool [.bool b] (valV ⟨3, 0, [], b⟩) := by
  refine pc_value_Bool (Runs.of fun Φ h => ?_)
  unfold c_value_Bool
  simp -implicitDefEqProofs only [go_sem]
  exact h _ ⟨_, _, rfl, rfl, .refl _⟩
def Val.ok (v : Val) : Bool :=
  if v.kind = 1 then v.str == [] && !v.bool else if v.kind = 2 then v.int == 0 && (!v.bool && decide ((v.str.length : Int) ≤ 4096)) else decide (v.kind = 3) && (v.int == 0 && v.str == [])
theorem value_Right_pc (v : Val) : PureC Tryz.prog G n_value_Right [valV v] (.bool v.ok) := by
  obtain ⟨k, n, s, b⟩ := v
  refine pc_value_Right (Runs.of fun Φ h => ?_)
  unfold c_value_Right
  repeat' (first | (simp -implicitDefEqProofs only [go_sem, valV]) | refine at_guard (fun hb => ?_) (fun hb => ?_) | refine ⟨fun hb => ?_, fun hb => ?_⟩ | refine at_call (value_Int_pc _) rfl rfl ?_ | refine at_call (value_Str_pc _) rfl rfl ?_ | refine at_call (value_Bool_pc _) rfl rfl ?_ | fail)
  all_goals (refine h _ ⟨_, _, rfl, rfl, fit_eq ?_⟩; clear h; first | rfl | simp_all [Val.ok])
theorem ref03_Right_pc (v : Val) : PureC Tryz.prog G n_proctorref03_Right [valV v] (.bool v.ok) := by
  obtain ⟨k, n, s, b⟩ := v
  refine pc_proctorref03_Right (Runs.of fun Φ h => ?_)
  unfold c_proctorref03_Right
  repeat' (first | (simp -implicitDefEqProofs only [go_sem, valV]) | refine at_guard (fun hb => ?_) (fun hb => ?_) | refine ⟨fun hb => ?_, fun hb => ?_⟩ | fail)
  all_goals (refine h _ ⟨_, _, rfl, rfl, fit_eq ?_⟩; clear h; first | rfl | simp_all [Val.ok])
def kindName (k : Int) : Str := if k = 1 then [105, 110, 116] else if k = 2 then [115, 116, 114, 105, 110, 103] else if k = 3 then [98, 111, 111, 108] else []
theorem value_Name_pc (k : Int) : PureC Tryz.prog G n_value_Name [iv k] (.str (kindName k)) := by
  refine pc_value_Name (Runs.of fun Φ h => ?_)
  unfold c_value_Name
  repeat' (first | (simp -implicitDefEqProofs only [go_sem]) | refine at_guard (fun hb => ?_) (fun hb => ?_) | refine ⟨fun hb => ?_, fun hb => ?_⟩ | fail)
  all_goals (refine h _ ⟨_, _, rfl, rfl, fit_eq ?_⟩; clear h; first | rfl | simp_all [kindName])
theorem value_when_pc (b : Bool) (k : Int) : PureC Tryz.prog G n_value_when [.bool b, iv k] (iv (if b then k else 0)) := by
  refine pc_value_when (Runs.of fun Φ h => ?_)
  unfold c_value_when
  repeat' (first | (simp -implicitDefEqProofs only [go_sem]) | refine at_guard (fun hb => ?_) (fun hb => ?_) | refine ⟨fun hb => ?_, fun hb => ?_⟩ | fail)
  all_goals (refine h _ ⟨_, _, rfl, rfl, fit_eq ?_⟩; clear h; first | rfl | simp_all)
def opKind (op a b : Int) : Int :=
  if op = 4 then (if a = 3 then 3 else 0)
  else if op = 5 then (if a = 1 then 1 else 0)
  else if op = 6 ∨ op = 7 then (if a = 3 ∧ b = a then 3 else 0)
  else if op = 9 ∨ op = 10 ∨ op = 11 ∨ op = 12 then (if a = 1 ∧ b = a then a else 0)
  else if op = 8 then (if (a = 1 ∨ a = 2) ∧ b = a then a else 0)
  else if op = 13 ∨ op = 14 then (if kindName a ≠ [] ∧ b = a then 3 else 0)
  else if op = 15 ∨ op = 16 then (if (a = 1 ∨ a = 2) ∧ b = a then 3 else 0)
  else 0
theorem value_Type_pc (op a b : Int) : PureC Tryz.prog G n_value_Type [iv op, iv a, iv b] (iv (opKind op a b)) := by
  refine pc_value_Type (Runs.of fun Φ h => ?_)
  unfold c_value_Type
  repeat' (first | (simp -implicitDefEqProofs only [go_sem]) | refine at_guard (fun hb => ?_) (fun hb => ?_) | refine ⟨fun hb => ?_, fun hb => ?_⟩ | refine at_call (value_when_pc _ _) rfl rfl ?_ | refine at_call (value_Name_pc _) rfl rfl ?_ | fail)
  all_goals (refine h _ ⟨_, _, rfl, rfl, fit_eq ?_⟩; clear h; simp_all [opKind])
end Go.Proofs.YtjbcfpkibnhodaaGreatDoor.Ab
namespace Go.Proofs.YtjbcfpkibnhodaaGreatDoor.Ab
open Go
set_option linter.unusedSimpArgs false
set_option maxHeartbeats 4000000
set_option maxRecDepth 100000
variable {G : Nat → Option AV}
def numR (op a b : Int) : Int × Int :=
  if op = 5 then ovR (0 - a) else if op = 9 then ovR (a - b) else if op = 8 then ovR (a + b) else if op = 10 then ovR (a * b) else if op = 11 then divR a b else if op = 12 then modR a b else (0, 1)
def textR (s : Str) : Val × Int := if (4096 : Int) < s.length then (v0, 3) else (⟨2, 0, s, false⟩, 0)
def lessV (a b : Val) : Bool := if ¬ a.kind = b.kind then decide (a.kind < b.kind) else if a.kind = 1 then decide (a.int < b.int) else if a.kind = 2 then Op.bytesLess a.str b.str else !a.bool && b.bool
def opR (op : Int) (a b : Val) : Val × Int :=
  if op < 4 ∨ 16 < op then (v0, 1) else if opKind op a.kind b.kind = 0 then (v0, 8)
  else if op = 4 then (⟨3, 0, [], !a.bool⟩, 0) else if op = 6 then (⟨3, 0, [], a.bool && b.bool⟩, 0) else if op = 7 then (⟨3, 0, [], a.bool || b.bool⟩, 0)
  else if op = 13 then (⟨3, 0, [], a == b⟩, 0) else if op = 14 then (⟨3, 0, [], !(a == b)⟩, 0) else if op = 15 then (⟨3, 0, [], lessV a b⟩, 0) else if op = 16 then (⟨3, 0, [], !lessV b a⟩, 0)
  else if a.kind = 2 then textR (a.str ++ b.str)
  else if (numR op a.int b.int).2 = 0 then (⟨1, (numR op a.int b.int).1, [], false⟩, 0) else (v0, (numR op a.int b.int).2)
end Go.Proofs.YtjbcfpkibnhodaaGreatDoor.Ab
namespace Go.Proofs.YtjbcfpkibnhodaaGreatDoor.Ab
open Go
set_option linter.unusedSimpArgs false
set_option maxHeartbeats 4000000
set_option maxRecDepth 100000
variable {G : Nat → Option AV}
theorem bl_same (x : UInt8) (s t : Str) : Op.bytesLess (x :: s) (x :: t) = Op.bytesLess s t := by simp [Op.bytesLess]
theorem bl_ne {x y : UInt8} (h : ¬ x = y) (s t : Str) : Op.bytesLess (x :: s) (y :: t) = decide (x < y) := by simp [Op.bytesLess, h]
theorem bl_end {s t : Str} (h : s = [] ∨ t = []) : Op.bytesLess s t = decide ((s.length : Int) < t.length) := by
  rcases h with rfl | rfl
  · cases t <;> simp [Op.bytesLess] <;> omega
  · cases s <;> simp [Op.bytesLess] <;> omega
theorem drop_at {α : Type} {l : List α} {i : Nat} {x : α} (h : l[i]? = some x) : l.drop i = x :: l.drop (i + 1) := by
  obtain ⟨hlt, rfl⟩ := List.getElem?_eq_some_iff.1 h
  exact List.drop_eq_getElem_cons hlt
theorem ref03_Below_pc (a b : Str) (ha : a.length < 9223372036854775807) : PureC Tryz.prog G n_proctorref03_Below [.str a, .str b] (.bool (Op.bytesLess a b)) := by
  refine pc_proctorref03_Below (Runs.of fun Φ h => ?_)
  unfold c_proctorref03_Below
  simp -implicitDefEqProofs only [go_sem]
  refine at_loop (fun n st => ∃ i : Nat, i + n = a.length ∧ i ≤ b.length ∧ st = ⟨37, [(0, .str a), (1, .str b), (5, iv i)], []⟩ ∧ Op.bytesLess (a.drop i) (b.drop i) = Op.bytesLess a b) a.length ⟨0, by simp, Nat.zero_le _, rfl, rfl⟩ ?_
  rintro I hI n st ⟨i, hi, hib, rfl, hno⟩
  have hle : i ≤ a.length := by omega
  by_cases h1 : i < a.length
  · obtain ⟨x, hx, _⟩ := at_some h1
    have hw := wrap_succ h1 (by omega)
    by_cases h2 : i < b.length
    · obtain ⟨y, hy, _⟩ := at_some h2
      rw [drop_at hx, drop_at hy] at hno
      have k1 : ((i : Int) < (a.length : Int)) = True := by simp; omega
      have k2 : ((i : Int) < (b.length : Int)) = True := by simp; omega
      have e1 : aidx (.str a) (.int .i64 (i : Int)) = some (.int .u8 x.toNat) := aidx_str _ (by omega) (by simpa using hx)
      have e2 : aidx (.str b) (.int .i64 (i : Int)) = some (.int .u8 y.toNat) := aidx_str _ (by omega) (by simpa using hy)
      by_cases hxy : x = y
      · subst hxy
        rw [bl_same] at hno
        have e3 : ((x.toNat : Int) != (x.toNat : Int)) = false := by simp
        repeat' (first | (simp -implicitDefEqProofs only [go_sem, k1, k2, e1, e2, e3, hw, decide_true]) | refine at_guard (fun hb => ?_) (fun hb => ?_) | refine ⟨fun hb => ?_, fun hb => ?_⟩ | fail)
        exact at_again (n - 1) (by omega) (hI _ _ ⟨i + 1, by omega, by omega, rfl, hno⟩)
      · rw [bl_ne hxy] at hno
        have hn : ¬ x.toNat = y.toNat := fun e => hxy (UInt8.toNat_inj.1 e)
        have e3 : ((x.toNat : Int) != (y.toNat : Int)) = true := by simp; omega
        repeat' (first | (simp -implicitDefEqProofs only [go_sem, k1, k2, e1, e2, e3, decide_true]) | refine at_guard (fun hb => ?_) (fun hb => ?_) | refine ⟨fun hb => ?_, fun hb => ?_⟩ | fail)
        refine h _ ⟨_, _, rfl, rfl, fitB ?_⟩
        rw [← hno, Bool.eq_iff_iff]
        simp [UInt8.lt_iff_toNat_lt]
    · have : i = b.length := by omega
      have k1 : ((i : Int) < (a.length : Int)) = True := by simp; omega
      have k2 : ((i : Int) < (b.length : Int)) = False := by simp; omega
      repeat' (first | (simp -implicitDefEqProofs only [go_sem, k1, k2, decide_true, decide_false]) | refine at_guard (fun hb => ?_) (fun hb => ?_) | refine ⟨fun hb => ?_, fun hb => ?_⟩ | fail)
      refine h _ ⟨_, _, rfl, rfl, fitB ?_⟩
      rw [← hno, bl_end (.inr (by rw [List.drop_eq_nil_iff]; omega)), Bool.eq_iff_iff]
      simp
      omega
  · have : i = a.length := by omega
    have k1 : ((i : Int) < (a.length : Int)) = False := by simp; omega
    repeat' (first | (simp -implicitDefEqProofs only [go_sem, k1, decide_true, decide_false]) | refine at_guard (fun hb => ?_) (fun hb => ?_) | refine ⟨fun hb => ?_, fun hb => ?_⟩ | fail)
    refine h _ ⟨_, _, rfl, rfl, fitB ?_⟩
    rw [← hno, bl_end (.inl (by rw [List.drop_eq_nil_iff]; omega)), Bool.eq_iff_iff]
    simp
    omega
theorem ref03_Less_pc (a b : Val) (ha : a.str.length < 9223372036854775807) : PureC Tryz.prog G n_proctorref03_Less [valV a, valV b] (.bool (lessV a b)) := by
  have h1 := ref03_Below_pc (G := G) a.str b.str ha
  obtain ⟨k, n, s, t⟩ := a
  obtain ⟨k', n', s', t'⟩ := b
  dsimp only at *
  refine pc_proctorref03_Less (Runs.of fun Φ h => ?_)
  unfold c_proctorref03_Less
  unfold lessV at h
  dsimp only at h
  generalize Op.bytesLess s s' = r at *
  repeat' (first | (simp -implicitDefEqProofs only [go_sem, valV]) | refine at_guard (fun hb => ?_) (fun hb => ?_) | refine ⟨fun hb => ?_, fun hb => ?_⟩ | refine at_call (h1) rfl rfl ?_ | fail)
  all_goals
    refine h _ ⟨_, _, rfl, rfl, fit_eq ?_⟩
    clear h h1
    simp_all
end Go.Proofs.YtjbcfpkibnhodaaGreatDoor.Ab
