/-
  num.Op, value.truth, text, Less, Op: what operators make of values. No claim is proved here.
-/
import Derived.Test.YtdfdiglnpekcpabDoorWV2
import Derived.Test.YtdfdiglnpekcpabDoorWD1
namespace Go.Proofs.YtdfdiglnpekcpabDoor.Ab
open Nat renaming reduceAdd → zq0, reduceSub → zq1, reduceMul → zq2, reduceLT → zq3, reduceLeDiff → zq4, reduceEqDiff → zq5, reduceBEq → zq6
open Int renaming reduceNeg → zq7, reduceAdd → zq8, reduceLT → zq9, reduceLE → zq10, reduceToNat → zq11, reduceEq → zq12, reduceNe → zq13, reduceBEq → zq14, reduceBNe → zq15, reduceMul → zq16, reduceSub → zq17
open Go
set_option linter.unusedSimpArgs false
set_option maxHeartbeats 4000000
set_option maxRecDepth 100000
variable {G : Nat → Option AV}
def numR (op a b : Int) : Int × Int :=
  if op = 5 then ovR (0 - a) else if op = 9 then ovR (a - b) else if op = 8 then ovR (a + b) else if op = 10 then ovR (a * b) else if op = 11 then divR a b else if op = 12 then modR a b else (0, 1)
theorem num_Op_pc (op a b : Int) (ha : i64 a) (hb : i64 b) : PureC Tryd.prog G n_num_Op [iv op, iv a, iv b] (t2 (numR op a b)) := by
  have h1 := num_Sub_pc (G := G) 0 a (by unfold i64; omega) ha
  have h2 := num_Sub_pc (G := G) a b ha hb
  have h3 := num_Add_pc (G := G) a b ha hb
  have h4 := num_Mul_pc (G := G) a b ha hb
  have h5 := num_Div_pc (G := G) a b ha
  have h6 := num_Mod_pc (G := G) a b
  refine pc_num_Op (Runs.of fun Φ h => ?_)
  unfold c_num_Op
  unfold numR at h
  generalize ovR (0 - a) = r1 at *
  generalize ovR (a - b) = r2 at *
  generalize ovR (a + b) = r3 at *
  generalize ovR (a * b) = r4 at *
  generalize divR a b = r5 at *
  generalize modR a b = r6 at *
  unfold t2 at *
  (try (simp -implicitDefEqProofs only [go_sem, zq0, zq1, zq2, zq3, zq4, zq5, zq6, zq7, zq8, zq9, zq10, zq11, zq12, zq13, zq14, zq15, zq16, zq17, reduceIte, reduceCtorEq])); repeat' ((first | refine at_guard (fun hb => ?_) (fun hb => ?_) | refine ⟨fun hb => ?_, fun hb => ?_⟩ | refine at_call (h1) rfl rfl ?_ | refine at_call (h2) rfl rfl ?_ | refine at_call (h3) rfl rfl ?_ | refine at_call (h4) rfl rfl ?_ | refine at_call (h5) rfl rfl ?_ | refine at_call (h6) rfl rfl ?_ | fail) <;> (try (simp -implicitDefEqProofs only [go_sem, zq0, zq1, zq2, zq3, zq4, zq5, zq6, zq7, zq8, zq9, zq10, zq11, zq12, zq13, zq14, zq15, zq16, zq17, reduceIte, reduceCtorEq])))
  all_goals
    refine h _ ⟨_, _, rfl, rfl, fit_eq ?_⟩
    clear h h1 h2 h3 h4 h5 h6
    simp_all
def vt (r : Val × Int) : AV := .tup [valV r.1, iv r.2]
theorem value_truth_pc (b : Bool) : PureC Tryd.prog G n_value_truth [.bool b] (vt (⟨3, 0, [], b⟩, 0)) := by
  have h1 := value_Bool_pc (G := G) b
  refine pc_value_truth (Runs.of fun Φ h => ?_)
  unfold c_value_truth
  (try (simp -implicitDefEqProofs only [go_sem, zq0, zq1, zq2, zq3, zq4, zq5, zq6, zq7, zq8, zq9, zq10, zq11, zq12, zq13, zq14, zq15, zq16, zq17, reduceIte, reduceCtorEq, valV])); repeat' ((first | refine at_guard (fun hb => ?_) (fun hb => ?_) | refine ⟨fun hb => ?_, fun hb => ?_⟩ | refine at_call (h1) rfl rfl ?_ | fail) <;> (try (simp -implicitDefEqProofs only [go_sem, zq0, zq1, zq2, zq3, zq4, zq5, zq6, zq7, zq8, zq9, zq10, zq11, zq12, zq13, zq14, zq15, zq16, zq17, reduceIte, reduceCtorEq, valV])))
  exact h _ ⟨_, _, rfl, rfl, .refl _⟩
def textR (s : Str) : Val × Int := if (4096 : Int) < s.length then (v0, 3) else (⟨2, 0, s, false⟩, 0)
theorem value_text_pc (s : Str) : PureC Tryd.prog G n_value_text [.str s] (vt (textR s)) := by
  have h1 := value_Str_pc (G := G) s
  refine pc_value_text (Runs.of fun Φ h => ?_)
  unfold c_value_text
  unfold textR at h
  by_cases hl : (4096 : Int) < s.length
  · rw [if_pos hl] at h
    (try (simp -implicitDefEqProofs only [go_sem, zq0, zq1, zq2, zq3, zq4, zq5, zq6, zq7, zq8, zq9, zq10, zq11, zq12, zq13, zq14, zq15, zq16, zq17, reduceIte, reduceCtorEq, valV, hl])); repeat' ((first | refine at_guard (fun hb => ?_) (fun hb => ?_) | refine ⟨fun hb => ?_, fun hb => ?_⟩ | refine at_call (h1) rfl rfl ?_ | fail) <;> (try (simp -implicitDefEqProofs only [go_sem, zq0, zq1, zq2, zq3, zq4, zq5, zq6, zq7, zq8, zq9, zq10, zq11, zq12, zq13, zq14, zq15, zq16, zq17, reduceIte, reduceCtorEq, valV, hl])))
    all_goals first | exact h _ ⟨_, _, rfl, rfl, .refl _⟩ | (exfalso; simp at *; omega)
  · rw [if_neg hl] at h
    (try (simp -implicitDefEqProofs only [go_sem, zq0, zq1, zq2, zq3, zq4, zq5, zq6, zq7, zq8, zq9, zq10, zq11, zq12, zq13, zq14, zq15, zq16, zq17, reduceIte, reduceCtorEq, valV, hl])); repeat' ((first | refine at_guard (fun hb => ?_) (fun hb => ?_) | refine ⟨fun hb => ?_, fun hb => ?_⟩ | refine at_call (h1) rfl rfl ?_ | fail) <;> (try (simp -implicitDefEqProofs only [go_sem, zq0, zq1, zq2, zq3, zq4, zq5, zq6, zq7, zq8, zq9, zq10, zq11, zq12, zq13, zq14, zq15, zq16, zq17, reduceIte, reduceCtorEq, valV, hl])))
    all_goals first | exact h _ ⟨_, _, rfl, rfl, .refl _⟩ | (exfalso; simp at *; omega)
def lessV (a b : Val) : Bool := if ¬ a.kind = b.kind then decide (a.kind < b.kind) else if a.kind = 1 then decide (a.int < b.int) else if a.kind = 2 then Op.bytesLess a.str b.str else !a.bool && b.bool
theorem value_Less_pc (a b : Val) : PureC Tryd.prog G n_value_Less [valV a, valV b] (.bool (lessV a b)) := by
  obtain ⟨k, n, s, t⟩ := a
  obtain ⟨k', n', s', t'⟩ := b
  refine pc_value_Less (Runs.of fun Φ h => ?_)
  unfold c_value_Less
  unfold lessV at h
  (try (simp -implicitDefEqProofs only [go_sem, zq0, zq1, zq2, zq3, zq4, zq5, zq6, zq7, zq8, zq9, zq10, zq11, zq12, zq13, zq14, zq15, zq16, zq17, reduceIte, reduceCtorEq, valV])); repeat' ((first | refine at_guard (fun hb => ?_) (fun hb => ?_) | refine ⟨fun hb => ?_, fun hb => ?_⟩ | fail) <;> (try (simp -implicitDefEqProofs only [go_sem, zq0, zq1, zq2, zq3, zq4, zq5, zq6, zq7, zq8, zq9, zq10, zq11, zq12, zq13, zq14, zq15, zq16, zq17, reduceIte, reduceCtorEq, valV])))
  all_goals
    refine h _ ⟨_, _, rfl, rfl, fit_eq ?_⟩
    clear h
    simp_all
/-- What an operator makes of values. -/
def opR (op : Int) (a b : Val) : Val × Int :=
  if op < 4 ∨ 16 < op then (v0, 1) else if opKind op a.kind b.kind = 0 then (v0, 8)
  else if op = 4 then (⟨3, 0, [], !a.bool⟩, 0) else if op = 6 then (⟨3, 0, [], a.bool && b.bool⟩, 0) else if op = 7 then (⟨3, 0, [], a.bool || b.bool⟩, 0)
  else if op = 13 then (⟨3, 0, [], a == b⟩, 0) else if op = 14 then (⟨3, 0, [], !(a == b)⟩, 0) else if op = 15 then (⟨3, 0, [], lessV a b⟩, 0) else if op = 16 then (⟨3, 0, [], !lessV b a⟩, 0)
  else if a.kind = 2 then textR (a.str ++ b.str)
  else if (numR op a.int b.int).2 = 0 then (⟨1, (numR op a.int b.int).1, [], false⟩, 0) else (v0, (numR op a.int b.int).2)
theorem val_beq (k n : Int) (s : Str) (t : Bool) (k' n' : Int) (s' : Str) (t' : Bool) : ((⟨k, n, s, t⟩ : Val) == ⟨k', n', s', t'⟩) = (k == k' && (n == n' && (s == s' && t == t'))) := by
  rw [Bool.eq_iff_iff]
  simp
theorem value_Op_pc (op : Int) (a b : Val) (ha : i64 a.int) (hb : i64 b.int) (hl : a.str.length + b.str.length ≤ 1000000) : PureC Tryd.prog G n_value_Op [iv op, valV a, valV b] (vt (opR op a b)) := by
  have hT := value_Type_pc (G := G) op a.kind b.kind
  have hL1 := value_Less_pc (G := G) a b
  have hL2 := value_Less_pc (G := G) b a
  have hX := value_text_pc (G := G) (a.str ++ b.str)
  have hN := num_Op_pc (G := G) op a.int b.int ha hb
  have hI := value_Int_pc (G := G) (numR op a.int b.int).1
  obtain ⟨k, n, s, t⟩ := a
  obtain ⟨k', n', s', t'⟩ := b
  dsimp only at *
  have hadd : abin .add (.str s) (.str s') = some (.str (s ++ s')) := abin_adds (by omega)
  clear ha hb hl
  refine pc_value_Op (Runs.of fun Φ h => ?_)
  unfold c_value_Op
  unfold opR at h
  rw [val_beq] at h
  dsimp only at h
  generalize opKind op k k' = ok at *
  generalize lessV ⟨k, n, s, t⟩ ⟨k', n', s', t'⟩ = l1 at *
  generalize lessV ⟨k', n', s', t'⟩ ⟨k, n, s, t⟩ = l2 at *
  generalize textR (s ++ s') = x at *
  generalize numR op n n' = r at *
  obtain ⟨r1, r2⟩ := r
  obtain ⟨⟨x1, x2, x3, x4⟩, x5⟩ := x
  unfold vt t2 at *
  simp only [valV] at hL1 hL2 hX hI
  by_cases hop : op < 4 ∨ 16 < op
  · rw [if_pos hop] at h
    rcases hop with hop | hop
    · (try (simp -implicitDefEqProofs only [go_sem, zq0, zq1, zq2, zq3, zq4, zq5, zq6, zq7, zq8, zq9, zq10, zq11, zq12, zq13, zq14, zq15, zq16, zq17, reduceIte, reduceCtorEq, valV, hop, decide_eq_true_eq])); repeat' ((first | refine at_guard (fun hb => ?_) (fun hb => ?_) | refine ⟨fun hb => ?_, fun hb => ?_⟩ | fail) <;> (try (simp -implicitDefEqProofs only [go_sem, zq0, zq1, zq2, zq3, zq4, zq5, zq6, zq7, zq8, zq9, zq10, zq11, zq12, zq13, zq14, zq15, zq16, zq17, reduceIte, reduceCtorEq, valV, hop, decide_eq_true_eq])))
      all_goals first | exact h _ ⟨_, _, rfl, rfl, .refl _⟩ | (exfalso; simp at *; omega)
    · have hop' : ¬ op < 4 := by omega
      (try (simp -implicitDefEqProofs only [go_sem, zq0, zq1, zq2, zq3, zq4, zq5, zq6, zq7, zq8, zq9, zq10, zq11, zq12, zq13, zq14, zq15, zq16, zq17, reduceIte, reduceCtorEq, valV, hop, hop', decide_eq_true_eq])); repeat' ((first | refine at_guard (fun hb => ?_) (fun hb => ?_) | refine ⟨fun hb => ?_, fun hb => ?_⟩ | fail) <;> (try (simp -implicitDefEqProofs only [go_sem, zq0, zq1, zq2, zq3, zq4, zq5, zq6, zq7, zq8, zq9, zq10, zq11, zq12, zq13, zq14, zq15, zq16, zq17, reduceIte, reduceCtorEq, valV, hop, hop', decide_eq_true_eq])))
      all_goals first | exact h _ ⟨_, _, rfl, rfl, .refl _⟩ | (exfalso; simp at *; omega)
  rw [if_neg hop] at h
  by_cases hok : ok = 0
  · subst hok
    rw [if_pos rfl] at h
    (try (simp -implicitDefEqProofs only [go_sem, zq0, zq1, zq2, zq3, zq4, zq5, zq6, zq7, zq8, zq9, zq10, zq11, zq12, zq13, zq14, zq15, zq16, zq17, reduceIte, reduceCtorEq, valV])); repeat' ((first | refine at_guard (fun hb => ?_) (fun hb => ?_) | refine ⟨fun hb => ?_, fun hb => ?_⟩ | refine at_call (hT) rfl rfl ?_ | fail) <;> (try (simp -implicitDefEqProofs only [go_sem, zq0, zq1, zq2, zq3, zq4, zq5, zq6, zq7, zq8, zq9, zq10, zq11, zq12, zq13, zq14, zq15, zq16, zq17, reduceIte, reduceCtorEq, valV])))
    all_goals first | exact h _ ⟨_, _, rfl, rfl, .refl _⟩ | (exfalso; simp at *; omega)
  rw [if_neg hok] at h
  have hok' : (ok == 0) = false := by simpa using hok
  have hop' : op = 4 ∨ op = 6 ∨ op = 7 ∨ op = 13 ∨ op = 14 ∨ op = 15 ∨ op = 16 ∨ (op = 5 ∨ op = 8 ∨ op = 9 ∨ op = 10 ∨ op = 11 ∨ op = 12) := by omega
  clear hop
  rcases hop' with rfl | rfl | rfl | rfl | rfl | rfl | rfl | hop
  · (try (simp -implicitDefEqProofs only [go_sem, zq0, zq1, zq2, zq3, zq4, zq5, zq6, zq7, zq8, zq9, zq10, zq11, zq12, zq13, zq14, zq15, zq16, zq17, reduceIte, reduceCtorEq, valV, hok', aeqs, leafEq, aeqA, andO])); repeat' ((first | refine at_guard (fun hb => ?_) (fun hb => ?_) | refine ⟨fun hb => ?_, fun hb => ?_⟩ | refine at_call (hT) rfl rfl ?_ | refine at_call (value_truth_pc _) rfl rfl ?_ | fail) <;> (try (simp -implicitDefEqProofs only [go_sem, zq0, zq1, zq2, zq3, zq4, zq5, zq6, zq7, zq8, zq9, zq10, zq11, zq12, zq13, zq14, zq15, zq16, zq17, reduceIte, reduceCtorEq, valV, hok', aeqs, leafEq, aeqA, andO])))
    exact h _ ⟨_, _, rfl, rfl, .refl _⟩
  · cases t <;> ((try (simp -implicitDefEqProofs only [go_sem, zq0, zq1, zq2, zq3, zq4, zq5, zq6, zq7, zq8, zq9, zq10, zq11, zq12, zq13, zq14, zq15, zq16, zq17, reduceIte, reduceCtorEq, valV, hok', aeqs, leafEq, aeqA, andO])); repeat' ((first | refine at_guard (fun hb => ?_) (fun hb => ?_) | refine ⟨fun hb => ?_, fun hb => ?_⟩ | refine at_call (hT) rfl rfl ?_ | refine at_call (value_truth_pc _) rfl rfl ?_ | fail) <;> (try (simp -implicitDefEqProofs only [go_sem, zq0, zq1, zq2, zq3, zq4, zq5, zq6, zq7, zq8, zq9, zq10, zq11, zq12, zq13, zq14, zq15, zq16, zq17, reduceIte, reduceCtorEq, valV, hok', aeqs, leafEq, aeqA, andO])))) <;> exact h _ ⟨_, _, rfl, rfl, .refl _⟩
  · cases t <;> ((try (simp -implicitDefEqProofs only [go_sem, zq0, zq1, zq2, zq3, zq4, zq5, zq6, zq7, zq8, zq9, zq10, zq11, zq12, zq13, zq14, zq15, zq16, zq17, reduceIte, reduceCtorEq, valV, hok', aeqs, leafEq, aeqA, andO])); repeat' ((first | refine at_guard (fun hb => ?_) (fun hb => ?_) | refine ⟨fun hb => ?_, fun hb => ?_⟩ | refine at_call (hT) rfl rfl ?_ | refine at_call (value_truth_pc _) rfl rfl ?_ | fail) <;> (try (simp -implicitDefEqProofs only [go_sem, zq0, zq1, zq2, zq3, zq4, zq5, zq6, zq7, zq8, zq9, zq10, zq11, zq12, zq13, zq14, zq15, zq16, zq17, reduceIte, reduceCtorEq, valV, hok', aeqs, leafEq, aeqA, andO])))) <;> exact h _ ⟨_, _, rfl, rfl, .refl _⟩
  · (try (simp -implicitDefEqProofs only [go_sem, zq0, zq1, zq2, zq3, zq4, zq5, zq6, zq7, zq8, zq9, zq10, zq11, zq12, zq13, zq14, zq15, zq16, zq17, reduceIte, reduceCtorEq, valV, hok', aeqs, leafEq, aeqA, andO])); repeat' ((first | refine at_guard (fun hb => ?_) (fun hb => ?_) | refine ⟨fun hb => ?_, fun hb => ?_⟩ | refine at_call (hT) rfl rfl ?_ | refine at_call (value_truth_pc _) rfl rfl ?_ | fail) <;> (try (simp -implicitDefEqProofs only [go_sem, zq0, zq1, zq2, zq3, zq4, zq5, zq6, zq7, zq8, zq9, zq10, zq11, zq12, zq13, zq14, zq15, zq16, zq17, reduceIte, reduceCtorEq, valV, hok', aeqs, leafEq, aeqA, andO])))
    exact h _ ⟨_, _, rfl, rfl, fit_eq (by simp [valV])⟩
  · (try (simp -implicitDefEqProofs only [go_sem, zq0, zq1, zq2, zq3, zq4, zq5, zq6, zq7, zq8, zq9, zq10, zq11, zq12, zq13, zq14, zq15, zq16, zq17, reduceIte, reduceCtorEq, valV, hok', aeqs, leafEq, aeqA, andO])); repeat' ((first | refine at_guard (fun hb => ?_) (fun hb => ?_) | refine ⟨fun hb => ?_, fun hb => ?_⟩ | refine at_call (hT) rfl rfl ?_ | refine at_call (value_truth_pc _) rfl rfl ?_ | fail) <;> (try (simp -implicitDefEqProofs only [go_sem, zq0, zq1, zq2, zq3, zq4, zq5, zq6, zq7, zq8, zq9, zq10, zq11, zq12, zq13, zq14, zq15, zq16, zq17, reduceIte, reduceCtorEq, valV, hok', aeqs, leafEq, aeqA, andO])))
    exact h _ ⟨_, _, rfl, rfl, fit_eq (by simp [valV])⟩
  · (try (simp -implicitDefEqProofs only [go_sem, zq0, zq1, zq2, zq3, zq4, zq5, zq6, zq7, zq8, zq9, zq10, zq11, zq12, zq13, zq14, zq15, zq16, zq17, reduceIte, reduceCtorEq, valV, hok'])); repeat' ((first | refine at_guard (fun hb => ?_) (fun hb => ?_) | refine ⟨fun hb => ?_, fun hb => ?_⟩ | refine at_call (hT) rfl rfl ?_ | refine at_call (hL1) rfl rfl ?_ | refine at_call (value_truth_pc _) rfl rfl ?_ | fail) <;> (try (simp -implicitDefEqProofs only [go_sem, zq0, zq1, zq2, zq3, zq4, zq5, zq6, zq7, zq8, zq9, zq10, zq11, zq12, zq13, zq14, zq15, zq16, zq17, reduceIte, reduceCtorEq, valV, hok'])))
    exact h _ ⟨_, _, rfl, rfl, .refl _⟩
  · (try (simp -implicitDefEqProofs only [go_sem, zq0, zq1, zq2, zq3, zq4, zq5, zq6, zq7, zq8, zq9, zq10, zq11, zq12, zq13, zq14, zq15, zq16, zq17, reduceIte, reduceCtorEq, valV, hok'])); repeat' ((first | refine at_guard (fun hb => ?_) (fun hb => ?_) | refine ⟨fun hb => ?_, fun hb => ?_⟩ | refine at_call (hT) rfl rfl ?_ | refine at_call (hL2) rfl rfl ?_ | refine at_call (value_truth_pc _) rfl rfl ?_ | fail) <;> (try (simp -implicitDefEqProofs only [go_sem, zq0, zq1, zq2, zq3, zq4, zq5, zq6, zq7, zq8, zq9, zq10, zq11, zq12, zq13, zq14, zq15, zq16, zq17, reduceIte, reduceCtorEq, valV, hok'])))
    exact h _ ⟨_, _, rfl, rfl, .refl _⟩
  · have hs : ¬ op = 4 ∧ ¬ op = 6 ∧ ¬ op = 7 ∧ ¬ op = 13 ∧ ¬ op = 14 ∧ ¬ op = 15 ∧ ¬ op = 16 := by omega
    obtain ⟨q1, q2, q3, q4, q5, q6, q7⟩ := hs
    rw [if_neg q1, if_neg q2, if_neg q3, if_neg q4, if_neg q5, if_neg q6, if_neg q7] at h
    by_cases hk2 : k = 2
    · subst hk2
      rw [if_pos rfl] at h
      rcases hop with rfl | rfl | rfl | rfl | rfl | rfl
      all_goals
        (try (simp -implicitDefEqProofs only [go_sem, zq0, zq1, zq2, zq3, zq4, zq5, zq6, zq7, zq8, zq9, zq10, zq11, zq12, zq13, zq14, zq15, zq16, zq17, reduceIte, reduceCtorEq, valV, hok', hadd])); repeat' ((first | refine at_guard (fun hb => ?_) (fun hb => ?_) | refine ⟨fun hb => ?_, fun hb => ?_⟩ | refine at_call (hT) rfl rfl ?_ | refine at_call (hX) rfl rfl ?_ | fail) <;> (try (simp -implicitDefEqProofs only [go_sem, zq0, zq1, zq2, zq3, zq4, zq5, zq6, zq7, zq8, zq9, zq10, zq11, zq12, zq13, zq14, zq15, zq16, zq17, reduceIte, reduceCtorEq, valV, hok', hadd])))
        exact h _ ⟨_, _, rfl, rfl, .refl _⟩
    · rw [if_neg hk2] at h
      have hk2' : (k == 2) = false := by simpa using hk2
      by_cases hr : r2 = 0
      · subst hr
        rw [if_pos rfl] at h
        rcases hop with rfl | rfl | rfl | rfl | rfl | rfl
        all_goals
          (try (simp -implicitDefEqProofs only [go_sem, zq0, zq1, zq2, zq3, zq4, zq5, zq6, zq7, zq8, zq9, zq10, zq11, zq12, zq13, zq14, zq15, zq16, zq17, reduceIte, reduceCtorEq, valV, hok', hk2'])); repeat' ((first | refine at_guard (fun hb => ?_) (fun hb => ?_) | refine ⟨fun hb => ?_, fun hb => ?_⟩ | refine at_call (hT) rfl rfl ?_ | refine at_call (hN) rfl rfl ?_ | refine at_call (hI) rfl rfl ?_ | fail) <;> (try (simp -implicitDefEqProofs only [go_sem, zq0, zq1, zq2, zq3, zq4, zq5, zq6, zq7, zq8, zq9, zq10, zq11, zq12, zq13, zq14, zq15, zq16, zq17, reduceIte, reduceCtorEq, valV, hok', hk2'])))
          exact h _ ⟨_, _, rfl, rfl, .refl _⟩
      · rw [if_neg hr] at h
        have hr' : (r2 != 0) = true := by simpa using hr
        rcases hop with rfl | rfl | rfl | rfl | rfl | rfl
        all_goals
          (try (simp -implicitDefEqProofs only [go_sem, zq0, zq1, zq2, zq3, zq4, zq5, zq6, zq7, zq8, zq9, zq10, zq11, zq12, zq13, zq14, zq15, zq16, zq17, reduceIte, reduceCtorEq, valV, hok', hk2', hr'])); repeat' ((first | refine at_guard (fun hb => ?_) (fun hb => ?_) | refine ⟨fun hb => ?_, fun hb => ?_⟩ | refine at_call (hT) rfl rfl ?_ | refine at_call (hN) rfl rfl ?_ | fail) <;> (try (simp -implicitDefEqProofs only [go_sem, zq0, zq1, zq2, zq3, zq4, zq5, zq6, zq7, zq8, zq9, zq10, zq11, zq12, zq13, zq14, zq15, zq16, zq17, reduceIte, reduceCtorEq, valV, hok', hk2', hr'])))
          exact h _ ⟨_, _, rfl, rfl, .refl _⟩
end Go.Proofs.YtdfdiglnpekcpabDoor.Ab
