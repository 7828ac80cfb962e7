/-
  No claim is proved here: the abstract code lies in AcR. num, proctorref01: sums, differences, products, quotients. DERIVED: THE SHELF's CONTRACTS AT THIS DUMP, IN PLAIN WORDS (tools/lay-plain.mjs out of 'TrymShelf.lean', which tools/lay-shelf.mjs wrote): THE SAME DECLARATIONS UNDER THE SAME NAMES: 'import', 'namespace', 'open', 'def', 'theorem' AND NOTHING ELSE: no command of the shelf's: FOR A HAND-IN. Each laying: the table of numbers ('.._ren') and one theorem, a field a fact of the dump's own or the kernel's comparison; each contract: ONE APPLICATION. No claim is proved here.
-/
import Derived.Test.YtdfdiglnpekcpabDoorQAcR
import Derived.Test.YtdfdiglnpekcpabDoorQN0
import Derived.Shelf.Bits.Mul64
import Derived.Test.YtdfdiglnpekcpabDoorProg
namespace Go.Proofs.YtdfdiglnpekcpabDoor.Ab
end Go.Proofs.YtdfdiglnpekcpabDoor.Ab
namespace Go.Proofs.YtdfdiglnpekcpabDoor.Ab
open Go
set_option linter.unusedSimpArgs false
set_option maxHeartbeats 4000000
variable {G : Nat → Option AV}
def in64 (n : Int) : Bool := decide (-9223372036854775808 ≤ n) && decide (n ≤ 9223372036854775807)
theorem in64_iff {n : Int} : in64 n = true ↔ -9223372036854775808 ≤ n ∧ n ≤ 9223372036854775807 := by simp [in64]
/-- A number, or that it goes over. -/
def ovR (n : Int) : Int × Int := if in64 n = true then (n, 0) else (0, 6)
def okR (n : Int) : Int × Bool := if in64 n = true then (n, true) else (0, false)
def t2 (r : Int × Int) : AV := .tup [iv r.1, iv r.2]
def t2b (r : Int × Bool) : AV := .tup [iv r.1, .bool r.2]
theorem wrap_far {n : Int} (h1 : -27670116110564327424 ≤ n) (h2 : n < 27670116110564327424) : (in64 n = true ∧ IntKind.i64.wrap n = n ∧ -9223372036854775808 ≤ n ∧ n ≤ 9223372036854775807) ∨ (9223372036854775807 < n ∧ in64 n = false ∧ IntKind.i64.wrap n = n - 18446744073709551616) ∨ (n < -9223372036854775808 ∧ in64 n = false ∧ IntKind.i64.wrap n = n + 18446744073709551616) := by
  have e1 : (2 : Int) ^ IntKind.i64.bits = 18446744073709551616 := rfl
  have e2 : (2 : Int) ^ (IntKind.i64.bits - 1) = 9223372036854775808 := rfl
  have e3 : IntKind.i64.signed = true := rfl
  by_cases h : in64 n = true
  · have := in64_iff.1 h
    exact .inl ⟨h, wrap_i64 this.1 this.2, this.1, this.2⟩
  · have hf : in64 n = false := by simpa using h
    have : ¬ (-9223372036854775808 ≤ n ∧ n ≤ 9223372036854775807) := fun e => h (in64_iff.2 e)
    by_cases hp : 9223372036854775807 < n
    · refine .inr (.inl ⟨hp, hf, ?_⟩)
      unfold IntKind.wrap
      simp only [e1, e2, e3, Bool.true_and, decide_eq_true_eq]
      split <;> omega
    · refine .inr (.inr ⟨by omega, hf, ?_⟩)
      unfold IntKind.wrap
      simp only [e1, e2, e3, Bool.true_and, decide_eq_true_eq]
      split <;> omega
theorem num_Add_pc (a b : Int) (ha : i64 a) (hb : i64 b) : PureC Tryd.prog G n_num_Add [iv a, iv b] (t2 (ovR (a + b))) := by
  unfold i64 at ha hb
  have hw := wrap_far (n := a + b) (by omega) (by omega)
  refine pc_num_Add (Runs.of fun Φ h => ?_)
  unfold c_num_Add
  unfold ovR at h
  (try (simp -implicitDefEqProofs only [go_sem, Nat.reduceAdd, Nat.reduceSub, Nat.reduceMul, Nat.reduceLT, Nat.reduceLeDiff, Nat.reduceEqDiff, Nat.reduceBEq, Int.reduceNeg, Int.reduceAdd, Int.reduceLT, Int.reduceLE, Int.reduceToNat, Int.reduceEq, Int.reduceNe, Int.reduceBEq, Int.reduceBNe, Int.reduceMul, Int.reduceSub, reduceIte, reduceCtorEq])); repeat' ((first | refine at_guard (fun hb => ?_) (fun hb => ?_) | refine ⟨fun hb => ?_, fun hb => ?_⟩ | fail) <;> (try (simp -implicitDefEqProofs only [go_sem, Nat.reduceAdd, Nat.reduceSub, Nat.reduceMul, Nat.reduceLT, Nat.reduceLeDiff, Nat.reduceEqDiff, Nat.reduceBEq, Int.reduceNeg, Int.reduceAdd, Int.reduceLT, Int.reduceLE, Int.reduceToNat, Int.reduceEq, Int.reduceNe, Int.reduceBEq, Int.reduceBNe, Int.reduceMul, Int.reduceSub, reduceIte, reduceCtorEq])))
  all_goals
    refine h _ ⟨_, _, rfl, rfl, fit_eq ?_⟩
    clear h
    try generalize IntKind.i64.wrap (a + b) = c at *
    try generalize in64 (a + b) = y at *
    rcases hw with ⟨rfl, rfl, _, _⟩ | ⟨_, rfl, rfl⟩ | ⟨_, rfl, rfl⟩
    all_goals first | rfl | (exfalso; simp at *; omega)
theorem num_Sub_pc (a b : Int) (ha : i64 a) (hb : i64 b) : PureC Tryd.prog G n_num_Sub [iv a, iv b] (t2 (ovR (a - b))) := by
  unfold i64 at ha hb
  have hw := wrap_far (n := a - b) (by omega) (by omega)
  refine pc_num_Sub (Runs.of fun Φ h => ?_)
  unfold c_num_Sub
  unfold ovR at h
  (try (simp -implicitDefEqProofs only [go_sem, Nat.reduceAdd, Nat.reduceSub, Nat.reduceMul, Nat.reduceLT, Nat.reduceLeDiff, Nat.reduceEqDiff, Nat.reduceBEq, Int.reduceNeg, Int.reduceAdd, Int.reduceLT, Int.reduceLE, Int.reduceToNat, Int.reduceEq, Int.reduceNe, Int.reduceBEq, Int.reduceBNe, Int.reduceMul, Int.reduceSub, reduceIte, reduceCtorEq])); repeat' ((first | refine at_guard (fun hb => ?_) (fun hb => ?_) | refine ⟨fun hb => ?_, fun hb => ?_⟩ | fail) <;> (try (simp -implicitDefEqProofs only [go_sem, Nat.reduceAdd, Nat.reduceSub, Nat.reduceMul, Nat.reduceLT, Nat.reduceLeDiff, Nat.reduceEqDiff, Nat.reduceBEq, Int.reduceNeg, Int.reduceAdd, Int.reduceLT, Int.reduceLE, Int.reduceToNat, Int.reduceEq, Int.reduceNe, Int.reduceBEq, Int.reduceBNe, Int.reduceMul, Int.reduceSub, reduceIte, reduceCtorEq])))
  all_goals
    refine h _ ⟨_, _, rfl, rfl, fit_eq ?_⟩
    clear h
    try generalize IntKind.i64.wrap (a - b) = c at *
    try generalize in64 (a - b) = y at *
    rcases hw with ⟨rfl, rfl, _, _⟩ | ⟨_, rfl, rfl⟩ | ⟨_, rfl, rfl⟩
    all_goals first | rfl | (exfalso; simp at *; omega)
theorem num_Neg_pc (a : Int) (ha : i64 a) : PureC Tryd.prog G n_num_Neg [iv a] (t2 (ovR (-a))) := by
  have hc := num_Sub_pc (G := G) 0 a (by unfold i64; omega) ha
  rw [show (0 : Int) - a = -a by omega] at hc
  refine pc_num_Neg (Runs.of fun Φ h => ?_)
  unfold c_num_Neg
  unfold t2 at *
  generalize ovR (-a) = r at *
  (try (simp -implicitDefEqProofs only [go_sem, Nat.reduceAdd, Nat.reduceSub, Nat.reduceMul, Nat.reduceLT, Nat.reduceLeDiff, Nat.reduceEqDiff, Nat.reduceBEq, Int.reduceNeg, Int.reduceAdd, Int.reduceLT, Int.reduceLE, Int.reduceToNat, Int.reduceEq, Int.reduceNe, Int.reduceBEq, Int.reduceBNe, Int.reduceMul, Int.reduceSub, reduceIte, reduceCtorEq])); repeat' ((first | refine at_guard (fun hb => ?_) (fun hb => ?_) | refine ⟨fun hb => ?_, fun hb => ?_⟩ | refine at_call (hc) rfl rfl ?_ | fail) <;> (try (simp -implicitDefEqProofs only [go_sem, Nat.reduceAdd, Nat.reduceSub, Nat.reduceMul, Nat.reduceLT, Nat.reduceLeDiff, Nat.reduceEqDiff, Nat.reduceBEq, Int.reduceNeg, Int.reduceAdd, Int.reduceLT, Int.reduceLE, Int.reduceToNat, Int.reduceEq, Int.reduceNe, Int.reduceBEq, Int.reduceBNe, Int.reduceMul, Int.reduceSub, reduceIte, reduceCtorEq])))
  all_goals (refine h _ ⟨_, _, rfl, rfl, fit_eq ?_⟩; clear h; first | rfl | simp_all)
theorem ref01_Add_pc (a b : Int) (ha : i64 a) (hb : i64 b) : PureC Tryd.prog G n_proctorref01_Add [iv a, iv b] (t2b (okR (a + b))) := by
  unfold i64 at ha hb
  have hw := wrap_far (n := a + b) (by omega) (by omega)
  have h1 : 0 < b → IntKind.i64.wrap (9223372036854775807 - b) = 9223372036854775807 - b := fun h => wrap_i64 (by omega) (by omega)
  have h2 : b < 0 → IntKind.i64.wrap (-9223372036854775808 - b) = -9223372036854775808 - b := fun h => wrap_i64 (by omega) (by omega)
  refine pc_proctorref01_Add (Runs.of fun Φ h => ?_)
  unfold c_proctorref01_Add
  unfold okR at h
  (try (simp -implicitDefEqProofs only [go_sem, Nat.reduceAdd, Nat.reduceSub, Nat.reduceMul, Nat.reduceLT, Nat.reduceLeDiff, Nat.reduceEqDiff, Nat.reduceBEq, Int.reduceNeg, Int.reduceAdd, Int.reduceLT, Int.reduceLE, Int.reduceToNat, Int.reduceEq, Int.reduceNe, Int.reduceBEq, Int.reduceBNe, Int.reduceMul, Int.reduceSub, reduceIte, reduceCtorEq])); repeat' ((first | refine at_guard (fun hb => ?_) (fun hb => ?_) | refine ⟨fun hb => ?_, fun hb => ?_⟩ | fail) <;> (try (simp -implicitDefEqProofs only [go_sem, Nat.reduceAdd, Nat.reduceSub, Nat.reduceMul, Nat.reduceLT, Nat.reduceLeDiff, Nat.reduceEqDiff, Nat.reduceBEq, Int.reduceNeg, Int.reduceAdd, Int.reduceLT, Int.reduceLE, Int.reduceToNat, Int.reduceEq, Int.reduceNe, Int.reduceBEq, Int.reduceBNe, Int.reduceMul, Int.reduceSub, reduceIte, reduceCtorEq])))
  all_goals
    refine h _ ⟨_, _, rfl, rfl, fit_eq ?_⟩
    clear h
    try generalize IntKind.i64.wrap (a + b) = c at *
    try generalize in64 (a + b) = y at *
    try generalize IntKind.i64.wrap (9223372036854775807 - b) = c1 at *
    try generalize IntKind.i64.wrap (-9223372036854775808 - b) = c2 at *
    rcases hw with ⟨rfl, rfl, _, _⟩ | ⟨_, rfl, rfl⟩ | ⟨_, rfl, rfl⟩
    all_goals first | rfl | (exfalso; simp at *; omega)
theorem ref01_Sub_pc (a b : Int) (ha : i64 a) (hb : i64 b) : PureC Tryd.prog G n_proctorref01_Sub [iv a, iv b] (t2b (okR (a - b))) := by
  unfold i64 at ha hb
  have hw := wrap_far (n := a - b) (by omega) (by omega)
  have h1 : b < 0 → IntKind.i64.wrap (9223372036854775807 + b) = 9223372036854775807 + b := fun h => wrap_i64 (by omega) (by omega)
  have h2 : 0 < b → IntKind.i64.wrap (-9223372036854775808 + b) = -9223372036854775808 + b := fun h => wrap_i64 (by omega) (by omega)
  refine pc_proctorref01_Sub (Runs.of fun Φ h => ?_)
  unfold c_proctorref01_Sub
  unfold okR at h
  (try (simp -implicitDefEqProofs only [go_sem, Nat.reduceAdd, Nat.reduceSub, Nat.reduceMul, Nat.reduceLT, Nat.reduceLeDiff, Nat.reduceEqDiff, Nat.reduceBEq, Int.reduceNeg, Int.reduceAdd, Int.reduceLT, Int.reduceLE, Int.reduceToNat, Int.reduceEq, Int.reduceNe, Int.reduceBEq, Int.reduceBNe, Int.reduceMul, Int.reduceSub, reduceIte, reduceCtorEq])); repeat' ((first | refine at_guard (fun hb => ?_) (fun hb => ?_) | refine ⟨fun hb => ?_, fun hb => ?_⟩ | fail) <;> (try (simp -implicitDefEqProofs only [go_sem, Nat.reduceAdd, Nat.reduceSub, Nat.reduceMul, Nat.reduceLT, Nat.reduceLeDiff, Nat.reduceEqDiff, Nat.reduceBEq, Int.reduceNeg, Int.reduceAdd, Int.reduceLT, Int.reduceLE, Int.reduceToNat, Int.reduceEq, Int.reduceNe, Int.reduceBEq, Int.reduceBNe, Int.reduceMul, Int.reduceSub, reduceIte, reduceCtorEq])))
  all_goals
    refine h _ ⟨_, _, rfl, rfl, fit_eq ?_⟩
    clear h
    try generalize IntKind.i64.wrap (a - b) = c at *
    try generalize in64 (a - b) = y at *
    try generalize IntKind.i64.wrap (9223372036854775807 + b) = c1 at *
    try generalize IntKind.i64.wrap (-9223372036854775808 + b) = c2 at *
    rcases hw with ⟨rfl, rfl, _, _⟩ | ⟨_, rfl, rfl⟩ | ⟨_, rfl, rfl⟩
    all_goals first | rfl | (exfalso; simp at *; omega)
theorem tdiv_abs (a b : Int) : (a.tdiv b).natAbs ≤ a.natAbs := by rw [Int.natAbs_tdiv]; exact Nat.div_le_self _ _
theorem tdiv_small {a b : Int} (ha : i64 a) (h1 : b ≠ -1) : in64 (a.tdiv b) = true := by
  have h := tdiv_abs a b
  unfold i64 at ha
  rw [in64_iff]
  by_cases hm : a.tdiv b ≤ 9223372036854775807
  · omega
  · have he : a.natAbs = 9223372036854775808 := by omega
    have ht : (a.tdiv b).natAbs = 9223372036854775808 := by omega
    rw [Int.natAbs_tdiv, he] at ht
    have hb : b.natAbs = 1 := by
      rcases Nat.lt_or_ge 1 b.natAbs with h2 | h2
      · have := Nat.div_lt_self (n := 9223372036854775808) (k := b.natAbs) (by omega) h2
        change 9223372036854775808 / b.natAbs = _ at ht
        omega
      · rcases Nat.eq_zero_or_pos b.natAbs with h0 | h0
        · change 9223372036854775808 / b.natAbs = _ at ht
          rw [h0] at ht; simp at ht
        · omega
    have : b = 1 := by omega
    subst this
    rw [Int.tdiv_one] at hm ⊢
    omega
theorem tmod_small {a b : Int} (ha : i64 a) : i64 (a.tmod b) := by
  have h : (a.tmod b).natAbs ≤ a.natAbs := by rw [Int.natAbs_tmod]; exact Nat.mod_le _ _
  unfold i64 at *
  by_cases h0 : 0 ≤ a
  · have := Int.tmod_nonneg b h0
    omega
  · have := Int.tmod_nonneg b (show 0 ≤ -a by omega)
    rw [Int.neg_tmod] at this
    omega
def divR (a b : Int) : Int × Int := if b = 0 then (0, 7) else ovR (a.tdiv b)
def modR (a b : Int) : Int × Int := if b = 0 then (0, 7) else (a.tmod b, 0)
theorem tdiv_neg1 (a : Int) : a.tdiv (-1) = -a := by rw [Int.tdiv_neg, Int.tdiv_one]
theorem tmod_neg1 (a : Int) : a.tmod (-1) = 0 := by rw [Int.tmod_neg, Int.tmod_one]
theorem num_Div_pc (a b : Int) (ha : i64 a) : PureC Tryd.prog G n_num_Div [iv a, iv b] (t2 (divR a b)) := by
  have hn := num_Neg_pc (G := G) a ha
  have hq : b ≠ -1 → IntKind.i64.wrap (a.tdiv b) = a.tdiv b := fun h => by have := in64_iff.1 (tdiv_small ha h); exact wrap_i64 this.1 this.2
  have hk : b ≠ -1 → in64 (a.tdiv b) = true := fun h => tdiv_small ha h
  have h1 := tdiv_neg1 a
  refine pc_num_Div (Runs.of fun Φ h => ?_)
  unfold c_num_Div
  unfold divR at h
  unfold t2 at *
  by_cases h0 : b = 0
  · subst h0
    (try (simp -implicitDefEqProofs only [go_sem, Nat.reduceAdd, Nat.reduceSub, Nat.reduceMul, Nat.reduceLT, Nat.reduceLeDiff, Nat.reduceEqDiff, Nat.reduceBEq, Int.reduceNeg, Int.reduceAdd, Int.reduceLT, Int.reduceLE, Int.reduceToNat, Int.reduceEq, Int.reduceNe, Int.reduceBEq, Int.reduceBNe, Int.reduceMul, Int.reduceSub, reduceIte, reduceCtorEq])); repeat' ((first | refine at_guard (fun hb => ?_) (fun hb => ?_) | refine ⟨fun hb => ?_, fun hb => ?_⟩ | fail) <;> (try (simp -implicitDefEqProofs only [go_sem, Nat.reduceAdd, Nat.reduceSub, Nat.reduceMul, Nat.reduceLT, Nat.reduceLeDiff, Nat.reduceEqDiff, Nat.reduceBEq, Int.reduceNeg, Int.reduceAdd, Int.reduceLT, Int.reduceLE, Int.reduceToNat, Int.reduceEq, Int.reduceNe, Int.reduceBEq, Int.reduceBNe, Int.reduceMul, Int.reduceSub, reduceIte, reduceCtorEq])))
    exact h _ ⟨_, _, rfl, rfl, .refl _⟩
  by_cases hb : b = -1
  · subst hb
    rw [h1] at h
    generalize ovR (-a) = r at *
    (try (simp -implicitDefEqProofs only [go_sem, Nat.reduceAdd, Nat.reduceSub, Nat.reduceMul, Nat.reduceLT, Nat.reduceLeDiff, Nat.reduceEqDiff, Nat.reduceBEq, Int.reduceNeg, Int.reduceAdd, Int.reduceLT, Int.reduceLE, Int.reduceToNat, Int.reduceEq, Int.reduceNe, Int.reduceBEq, Int.reduceBNe, Int.reduceMul, Int.reduceSub, reduceIte, reduceCtorEq])); repeat' ((first | refine at_guard (fun hb => ?_) (fun hb => ?_) | refine ⟨fun hb => ?_, fun hb => ?_⟩ | refine at_call (hn) rfl rfl ?_ | fail) <;> (try (simp -implicitDefEqProofs only [go_sem, Nat.reduceAdd, Nat.reduceSub, Nat.reduceMul, Nat.reduceLT, Nat.reduceLeDiff, Nat.reduceEqDiff, Nat.reduceBEq, Int.reduceNeg, Int.reduceAdd, Int.reduceLT, Int.reduceLE, Int.reduceToNat, Int.reduceEq, Int.reduceNe, Int.reduceBEq, Int.reduceBNe, Int.reduceMul, Int.reduceSub, reduceIte, reduceCtorEq])))
    all_goals (refine h _ ⟨_, _, rfl, rfl, fit_eq ?_⟩; clear h; first | rfl | simp_all)
  · have hq := hq hb
    have hk := hk hb
    (try (simp -implicitDefEqProofs only [go_sem, Nat.reduceAdd, Nat.reduceSub, Nat.reduceMul, Nat.reduceLT, Nat.reduceLeDiff, Nat.reduceEqDiff, Nat.reduceBEq, Int.reduceNeg, Int.reduceAdd, Int.reduceLT, Int.reduceLE, Int.reduceToNat, Int.reduceEq, Int.reduceNe, Int.reduceBEq, Int.reduceBNe, Int.reduceMul, Int.reduceSub, reduceIte, reduceCtorEq, abin_quo _ _ _ h0, hq])); repeat' ((first | refine at_guard (fun hb => ?_) (fun hb => ?_) | refine ⟨fun hb => ?_, fun hb => ?_⟩ | fail) <;> (try (simp -implicitDefEqProofs only [go_sem, Nat.reduceAdd, Nat.reduceSub, Nat.reduceMul, Nat.reduceLT, Nat.reduceLeDiff, Nat.reduceEqDiff, Nat.reduceBEq, Int.reduceNeg, Int.reduceAdd, Int.reduceLT, Int.reduceLE, Int.reduceToNat, Int.reduceEq, Int.reduceNe, Int.reduceBEq, Int.reduceBNe, Int.reduceMul, Int.reduceSub, reduceIte, reduceCtorEq, abin_quo _ _ _ h0, hq])))
    all_goals first | (exfalso; simp at *; omega) | (refine h _ ⟨_, _, rfl, rfl, fit_eq ?_⟩; simp [h0, ovR, hk])
theorem num_Mod_pc (a b : Int) : PureC Tryd.prog G n_num_Mod [iv a, iv b] (t2 (modR a b)) := by
  have h1 := tmod_neg1 a
  refine pc_num_Mod (Runs.of fun Φ h => ?_)
  unfold c_num_Mod
  unfold modR at h
  unfold t2 at *
  by_cases h0 : b = 0
  · subst h0
    (try (simp -implicitDefEqProofs only [go_sem, Nat.reduceAdd, Nat.reduceSub, Nat.reduceMul, Nat.reduceLT, Nat.reduceLeDiff, Nat.reduceEqDiff, Nat.reduceBEq, Int.reduceNeg, Int.reduceAdd, Int.reduceLT, Int.reduceLE, Int.reduceToNat, Int.reduceEq, Int.reduceNe, Int.reduceBEq, Int.reduceBNe, Int.reduceMul, Int.reduceSub, reduceIte, reduceCtorEq])); repeat' ((first | refine at_guard (fun hb => ?_) (fun hb => ?_) | refine ⟨fun hb => ?_, fun hb => ?_⟩ | fail) <;> (try (simp -implicitDefEqProofs only [go_sem, Nat.reduceAdd, Nat.reduceSub, Nat.reduceMul, Nat.reduceLT, Nat.reduceLeDiff, Nat.reduceEqDiff, Nat.reduceBEq, Int.reduceNeg, Int.reduceAdd, Int.reduceLT, Int.reduceLE, Int.reduceToNat, Int.reduceEq, Int.reduceNe, Int.reduceBEq, Int.reduceBNe, Int.reduceMul, Int.reduceSub, reduceIte, reduceCtorEq])))
    exact h _ ⟨_, _, rfl, rfl, .refl _⟩
  by_cases hb : b = -1
  · subst hb
    rw [h1] at h
    (try (simp -implicitDefEqProofs only [go_sem, Nat.reduceAdd, Nat.reduceSub, Nat.reduceMul, Nat.reduceLT, Nat.reduceLeDiff, Nat.reduceEqDiff, Nat.reduceBEq, Int.reduceNeg, Int.reduceAdd, Int.reduceLT, Int.reduceLE, Int.reduceToNat, Int.reduceEq, Int.reduceNe, Int.reduceBEq, Int.reduceBNe, Int.reduceMul, Int.reduceSub, reduceIte, reduceCtorEq])); repeat' ((first | refine at_guard (fun hb => ?_) (fun hb => ?_) | refine ⟨fun hb => ?_, fun hb => ?_⟩ | fail) <;> (try (simp -implicitDefEqProofs only [go_sem, Nat.reduceAdd, Nat.reduceSub, Nat.reduceMul, Nat.reduceLT, Nat.reduceLeDiff, Nat.reduceEqDiff, Nat.reduceBEq, Int.reduceNeg, Int.reduceAdd, Int.reduceLT, Int.reduceLE, Int.reduceToNat, Int.reduceEq, Int.reduceNe, Int.reduceBEq, Int.reduceBNe, Int.reduceMul, Int.reduceSub, reduceIte, reduceCtorEq])))
    all_goals (refine h _ ⟨_, _, rfl, rfl, fit_eq ?_⟩; clear h; first | rfl | simp_all)
  · (try (simp -implicitDefEqProofs only [go_sem, Nat.reduceAdd, Nat.reduceSub, Nat.reduceMul, Nat.reduceLT, Nat.reduceLeDiff, Nat.reduceEqDiff, Nat.reduceBEq, Int.reduceNeg, Int.reduceAdd, Int.reduceLT, Int.reduceLE, Int.reduceToNat, Int.reduceEq, Int.reduceNe, Int.reduceBEq, Int.reduceBNe, Int.reduceMul, Int.reduceSub, reduceIte, reduceCtorEq, abin_rem _ _ _ h0])); repeat' ((first | refine at_guard (fun hb => ?_) (fun hb => ?_) | refine ⟨fun hb => ?_, fun hb => ?_⟩ | fail) <;> (try (simp -implicitDefEqProofs only [go_sem, Nat.reduceAdd, Nat.reduceSub, Nat.reduceMul, Nat.reduceLT, Nat.reduceLeDiff, Nat.reduceEqDiff, Nat.reduceBEq, Int.reduceNeg, Int.reduceAdd, Int.reduceLT, Int.reduceLE, Int.reduceToNat, Int.reduceEq, Int.reduceNe, Int.reduceBEq, Int.reduceBNe, Int.reduceMul, Int.reduceSub, reduceIte, reduceCtorEq, abin_rem _ _ _ h0])))
    all_goals first | (exfalso; simp at *; omega) | (refine h _ ⟨_, _, rfl, rfl, fit_eq ?_⟩; simp [h0])
/-- Quotient, rest, error. -/
def dmR (a b : Int) : Int × Int × Int := if b = 0 then (0, 0, 7) else if in64 (a.tdiv b) = true then (a.tdiv b, a.tmod b, 0) else (0, 0, 6)
theorem ref01_Div_pc (a b : Int) (ha : i64 a) : PureC Tryd.prog G n_proctorref01_Div [iv a, iv b] (.tup [iv (dmR a b).1, iv (dmR a b).2.1, iv (dmR a b).2.2]) := by
  have hn := ref01_Sub_pc (G := G) 0 a (by unfold i64; omega) ha
  rw [show (0 : Int) - a = -a by omega] at hn
  have hq : b ≠ -1 → IntKind.i64.wrap (a.tdiv b) = a.tdiv b := fun h => by have := in64_iff.1 (tdiv_small ha h); exact wrap_i64 this.1 this.2
  have hk : b ≠ -1 → in64 (a.tdiv b) = true := fun h => tdiv_small ha h
  have h1 := tdiv_neg1 a
  have h2 := tmod_neg1 a
  refine pc_proctorref01_Div (Runs.of fun Φ h => ?_)
  unfold c_proctorref01_Div
  unfold dmR at h
  unfold t2b at *
  by_cases h0 : b = 0
  · subst h0
    (try (simp -implicitDefEqProofs only [go_sem, Nat.reduceAdd, Nat.reduceSub, Nat.reduceMul, Nat.reduceLT, Nat.reduceLeDiff, Nat.reduceEqDiff, Nat.reduceBEq, Int.reduceNeg, Int.reduceAdd, Int.reduceLT, Int.reduceLE, Int.reduceToNat, Int.reduceEq, Int.reduceNe, Int.reduceBEq, Int.reduceBNe, Int.reduceMul, Int.reduceSub, reduceIte, reduceCtorEq])); repeat' ((first | refine at_guard (fun hb => ?_) (fun hb => ?_) | refine ⟨fun hb => ?_, fun hb => ?_⟩ | fail) <;> (try (simp -implicitDefEqProofs only [go_sem, Nat.reduceAdd, Nat.reduceSub, Nat.reduceMul, Nat.reduceLT, Nat.reduceLeDiff, Nat.reduceEqDiff, Nat.reduceBEq, Int.reduceNeg, Int.reduceAdd, Int.reduceLT, Int.reduceLE, Int.reduceToNat, Int.reduceEq, Int.reduceNe, Int.reduceBEq, Int.reduceBNe, Int.reduceMul, Int.reduceSub, reduceIte, reduceCtorEq])))
    exact h _ ⟨_, _, rfl, rfl, .refl _⟩
  by_cases hb : b = -1
  · subst hb
    rw [h1, h2] at h
    unfold okR at hn
    generalize in64 (-a) = r at *
    cases r
    all_goals
      (try (simp -implicitDefEqProofs only [go_sem, Nat.reduceAdd, Nat.reduceSub, Nat.reduceMul, Nat.reduceLT, Nat.reduceLeDiff, Nat.reduceEqDiff, Nat.reduceBEq, Int.reduceNeg, Int.reduceAdd, Int.reduceLT, Int.reduceLE, Int.reduceToNat, Int.reduceEq, Int.reduceNe, Int.reduceBEq, Int.reduceBNe, Int.reduceMul, Int.reduceSub, reduceIte, reduceCtorEq])); repeat' ((first | refine at_guard (fun hb => ?_) (fun hb => ?_) | refine ⟨fun hb => ?_, fun hb => ?_⟩ | refine at_call (hn) rfl rfl ?_ | fail) <;> (try (simp -implicitDefEqProofs only [go_sem, Nat.reduceAdd, Nat.reduceSub, Nat.reduceMul, Nat.reduceLT, Nat.reduceLeDiff, Nat.reduceEqDiff, Nat.reduceBEq, Int.reduceNeg, Int.reduceAdd, Int.reduceLT, Int.reduceLE, Int.reduceToNat, Int.reduceEq, Int.reduceNe, Int.reduceBEq, Int.reduceBNe, Int.reduceMul, Int.reduceSub, reduceIte, reduceCtorEq])))
      all_goals (refine h _ ⟨_, _, rfl, rfl, fit_eq ?_⟩; clear h; first | rfl | simp_all)
  · have hq := hq hb
    have hk := hk hb
    (try (simp -implicitDefEqProofs only [go_sem, Nat.reduceAdd, Nat.reduceSub, Nat.reduceMul, Nat.reduceLT, Nat.reduceLeDiff, Nat.reduceEqDiff, Nat.reduceBEq, Int.reduceNeg, Int.reduceAdd, Int.reduceLT, Int.reduceLE, Int.reduceToNat, Int.reduceEq, Int.reduceNe, Int.reduceBEq, Int.reduceBNe, Int.reduceMul, Int.reduceSub, reduceIte, reduceCtorEq, abin_quo _ _ _ h0, abin_rem _ _ _ h0, hq])); repeat' ((first | refine at_guard (fun hb => ?_) (fun hb => ?_) | refine ⟨fun hb => ?_, fun hb => ?_⟩ | fail) <;> (try (simp -implicitDefEqProofs only [go_sem, Nat.reduceAdd, Nat.reduceSub, Nat.reduceMul, Nat.reduceLT, Nat.reduceLeDiff, Nat.reduceEqDiff, Nat.reduceBEq, Int.reduceNeg, Int.reduceAdd, Int.reduceLT, Int.reduceLE, Int.reduceToNat, Int.reduceEq, Int.reduceNe, Int.reduceBEq, Int.reduceBNe, Int.reduceMul, Int.reduceSub, reduceIte, reduceCtorEq, abin_quo _ _ _ h0, abin_rem _ _ _ h0, hq])))
    all_goals first | (exfalso; simp at *; omega) | (refine h _ ⟨_, _, rfl, rfl, fit_eq ?_⟩; simp [h0, hk])
end Go.Proofs.YtdfdiglnpekcpabDoor.Ab
namespace Go.Proofs
open Go.Shelf
def Tryd.lays264_ren : Go.Shelf.Ren := ⟨fun | 264 => 138 | n => n, fun | 53 => 196 | 46 => 118 | n => n, fun | n => n⟩
theorem Tryd.lays264 : Go.Proofs.Lays.n264 Tryd.prog Tryd.lays264_ren := {
  mixed := by kernel_rfl
  f264 := Tryd.func138.trans (congrArg some (by kernel_rfl))
  t46 := Tryd.underlying118
  a46 := Tryd.isAgg118
  z46 := Tryd.sizeOf118
  v46 := Tryd.zeroValue118
  t53 := Tryd.underlying196
  a53 := Tryd.isAgg196
  z53 := Tryd.sizeOf196
  v53 := Tryd.zeroValue196 }
open Go.RowKit Go.Lib in
theorem Tryd.bits_Mul64 (x y : Nat) (hx : x < 18446744073709551616) (hy : y < 18446744073709551616) (w : World) :
    Calls Tryd.prog 138 #[.int .u64 x, .int .u64 y] w fun e w' => e = .returned (.tuple #[.int .u64 ((x * y / 18446744073709551616 : Nat) : Int), .int .u64 ((x * y % 18446744073709551616 : Nat) : Int)]) ∧ w' = w := Any.bits_Mul64 Tryd.lays264 x y hx hy w
end Go.Proofs
