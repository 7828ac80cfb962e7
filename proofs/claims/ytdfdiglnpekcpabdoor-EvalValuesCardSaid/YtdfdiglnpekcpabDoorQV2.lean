/-
  num.Mul, proctorref01.Mul: products. No claim is proved here.
-/
import Derived.Test.YtdfdiglnpekcpabDoorQShelfM
namespace Go.Proofs.YtdfdiglnpekcpabDoor.Ab
open Go Go.RowKit
set_option linter.unusedSimpArgs false
set_option maxHeartbeats 4000000
set_option maxRecDepth 100000
variable {G : Nat → Option AV}
theorem argsR_two {w : World} {F : Nat → Prop} {c d : AV} {vs : Array Value} (h : ArgsR w F [c, d] vs) : ∃ v u, vs = #[v, u] ∧ Rd w F noNames c v ∧ Rd w F noNames d u := by
  obtain ⟨hs, hr⟩ := h
  obtain ⟨l⟩ := vs
  match l, hs with
  | [v, u], _ => exact ⟨v, u, rfl, hr 0 c v rfl rfl, hr 1 d u rfl rfl⟩
theorem bits_Mul64_pc (x y : Nat) (hx : x < 18446744073709551616) (hy : y < 18446744073709551616) : PureC Tryd.prog G n_math_bits_Mul64 [.int .u64 x, .int .u64 y] (.tup [.int .u64 ((x * y / 18446744073709551616 : Nat) : Int), .int .u64 ((x * y % 18446744073709551616 : Nat) : Int)]) := by
  intro w F vs hg ha
  obtain ⟨v, u, rfl, h1, h2⟩ := argsR_two ha
  cases h1
  cases h2
  refine (Tryd.bits_Mul64 x y hx hy w).mono ?_
  rintro e w' ⟨rfl, rfl⟩
  refine ⟨_, F, rfl, fun b h => h, fun b h => .inl h, hg.1, ?_, Below.refl _ _⟩
  refine Rd.tup _ [_, _] [_, _] rfl fun j c u hc hu => ?_
  match j, hc, hu with
  | 0, hc, hu => cases hc; cases hu; exact .int _ _ _
  | 1, hc, hu => cases hc; cases hu; exact .int _ _ _
theorem wrap_u64 (n : Int) : IntKind.u64.wrap n = n % 18446744073709551616 := by
  unfold IntKind.wrap
  have e1 : (2 : Int) ^ IntKind.u64.bits = 18446744073709551616 := rfl
  have e3 : IntKind.u64.signed = false := rfl
  simp only [e1, e3, Bool.false_and, Bool.false_eq_true, if_false]
theorem num_size_pc (a : Int) (ha : i64 a) : PureC Tryd.prog G n_num_size [iv a] (.int .u64 (a.natAbs : Int)) := by
  unfold i64 at ha
  refine pc_num_size (Runs.of fun Φ h => ?_)
  unfold c_num_size
  by_cases h0 : a < 0
  · have e1 : IntKind.u64.wrap a = a + 18446744073709551616 := by rw [wrap_u64]; omega
    have e2 : IntKind.u64.wrap (0 - (a + 18446744073709551616)) = (a.natAbs : Int) := by rw [wrap_u64]; omega
    have e3 : IntKind.u64.wrap (-(a + 18446744073709551616)) = (a.natAbs : Int) := by rw [wrap_u64]; omega
    (try (simp -implicitDefEqProofs only [go_sem, Nat.reduceAdd, Nat.reduceSub, Nat.reduceMul, Nat.reduceLT, Nat.reduceLeDiff, Nat.reduceEqDiff, Nat.reduceBEq, Int.reduceNeg, Int.reduceAdd, Int.reduceLT, Int.reduceLE, Int.reduceToNat, Int.reduceEq, Int.reduceNe, Int.reduceBEq, Int.reduceBNe, Int.reduceMul, Int.reduceSub, reduceIte, reduceCtorEq, h0, e1, e2, e3])); repeat' ((first | refine at_guard (fun hb => ?_) (fun hb => ?_) | refine ⟨fun hb => ?_, fun hb => ?_⟩ | fail) <;> (try (simp -implicitDefEqProofs only [go_sem, Nat.reduceAdd, Nat.reduceSub, Nat.reduceMul, Nat.reduceLT, Nat.reduceLeDiff, Nat.reduceEqDiff, Nat.reduceBEq, Int.reduceNeg, Int.reduceAdd, Int.reduceLT, Int.reduceLE, Int.reduceToNat, Int.reduceEq, Int.reduceNe, Int.reduceBEq, Int.reduceBNe, Int.reduceMul, Int.reduceSub, reduceIte, reduceCtorEq, h0, e1, e2, e3])))
    all_goals first | (exfalso; simp at *; omega) | exact h _ ⟨_, _, rfl, rfl, .refl _⟩
  · have e1 : IntKind.u64.wrap a = (a.natAbs : Int) := by rw [wrap_u64]; omega
    (try (simp -implicitDefEqProofs only [go_sem, Nat.reduceAdd, Nat.reduceSub, Nat.reduceMul, Nat.reduceLT, Nat.reduceLeDiff, Nat.reduceEqDiff, Nat.reduceBEq, Int.reduceNeg, Int.reduceAdd, Int.reduceLT, Int.reduceLE, Int.reduceToNat, Int.reduceEq, Int.reduceNe, Int.reduceBEq, Int.reduceBNe, Int.reduceMul, Int.reduceSub, reduceIte, reduceCtorEq, h0, e1])); repeat' ((first | refine at_guard (fun hb => ?_) (fun hb => ?_) | refine ⟨fun hb => ?_, fun hb => ?_⟩ | fail) <;> (try (simp -implicitDefEqProofs only [go_sem, Nat.reduceAdd, Nat.reduceSub, Nat.reduceMul, Nat.reduceLT, Nat.reduceLeDiff, Nat.reduceEqDiff, Nat.reduceBEq, Int.reduceNeg, Int.reduceAdd, Int.reduceLT, Int.reduceLE, Int.reduceToNat, Int.reduceEq, Int.reduceNe, Int.reduceBEq, Int.reduceBNe, Int.reduceMul, Int.reduceSub, reduceIte, reduceCtorEq, h0, e1])))
    all_goals first | (exfalso; simp at *; omega) | exact h _ ⟨_, _, rfl, rfl, .refl _⟩
theorem num_Mul_pc (a b : Int) (ha : i64 a) (hb : i64 b) : PureC Tryd.prog G n_num_Mul [iv a, iv b] (t2 (ovR (a * b))) := by
  have hs1 := num_size_pc (G := G) a ha
  have hs2 := num_size_pc (G := G) b hb
  unfold i64 at ha hb
  have hm := bits_Mul64_pc (G := G) a.natAbs b.natAbs (by omega) (by omega)
  have hab : (a * b).natAbs = a.natAbs * b.natAbs := Int.natAbs_mul a b
  have hle : a.natAbs * b.natAbs ≤ 9223372036854775808 * 9223372036854775808 := Nat.mul_le_mul (by omega) (by omega)
  have hsg : (a < 0 ∧ b < 0 → 0 ≤ a * b) ∧ (¬ a < 0 ∧ ¬ b < 0 → 0 ≤ a * b) ∧ (a < 0 ∧ ¬ b < 0 → a * b ≤ 0) ∧ (¬ a < 0 ∧ b < 0 → a * b ≤ 0) :=
    ⟨fun h => Int.mul_nonneg_of_nonpos_of_nonpos (by omega) (by omega), fun h => Int.mul_nonneg (by omega) (by omega), fun h => Int.mul_nonpos_of_nonpos_of_nonneg (by omega) (by omega), fun h => Int.mul_nonpos_of_nonneg_of_nonpos (by omega) (by omega)⟩
  refine pc_num_Mul (Runs.of fun Φ h => ?_)
  unfold c_num_Mul
  unfold ovR at h
  have hin : in64 (a * b) = (decide (-9223372036854775808 ≤ a * b) && decide (a * b ≤ 9223372036854775807)) := rfl
  rw [hin] at h
  generalize a * b = m at *
  rw [← hab] at hm hle
  clear hab
  have k1 : (m.natAbs / 18446744073709551616 : Nat) = 0 → m.natAbs % 18446744073709551616 = m.natAbs := fun h => by omega
  generalize hhi : m.natAbs / 18446744073709551616 = hi at *
  generalize hlo : m.natAbs % 18446744073709551616 = lo at *
  have hlt : lo < 18446744073709551616 := by omega
  have hc := wrap_far (n := (lo : Int)) (by omega) (by omega)
  generalize hcw : IntKind.i64.wrap (lo : Int) = c at *
  have hcb : -9223372036854775808 ≤ c ∧ c ≤ 9223372036854775807 := by
    rcases hc with ⟨_, e1, h1, h2⟩ | ⟨h1, _, e1⟩ | ⟨h1, _, e1⟩ <;> omega
  have he := wrap_far (n := -c) (by omega) (by omega)
  generalize hew : IntKind.i64.wrap (-c) = e at *
  have hew' : IntKind.i64.wrap (0 - c) = e := by rw [Int.zero_sub]; exact hew
  have hE : lo ≤ 9223372036854775808 → e = -(lo : Int) := fun hl => by
    rcases hc with ⟨_, e1, h1, h2⟩ | ⟨h1, _, e1⟩ | ⟨h1, _, e1⟩ <;> rcases he with ⟨_, e2, h3, h4⟩ | ⟨h3, _, e2⟩ | ⟨h3, _, e2⟩ <;> omega
  have hC : lo ≤ 9223372036854775807 → c = (lo : Int) := fun hl => by
    rcases hc with ⟨_, e1, h1, h2⟩ | ⟨h1, _, e1⟩ | ⟨h1, _, e1⟩ <;> omega
  have hM : (0 ≤ m → (m.natAbs : Int) = m) ∧ (m ≤ 0 → (m.natAbs : Int) = -m) := by omega
  clear hc he hcb hin hle
  (try (simp -implicitDefEqProofs only [go_sem, Nat.reduceAdd, Nat.reduceSub, Nat.reduceMul, Nat.reduceLT, Nat.reduceLeDiff, Nat.reduceEqDiff, Nat.reduceBEq, Int.reduceNeg, Int.reduceAdd, Int.reduceLT, Int.reduceLE, Int.reduceToNat, Int.reduceEq, Int.reduceNe, Int.reduceBEq, Int.reduceBNe, Int.reduceMul, Int.reduceSub, reduceIte, reduceCtorEq, hcw, hew, hew'])); repeat' ((first | refine at_guard (fun hb => ?_) (fun hb => ?_) | refine ⟨fun hb => ?_, fun hb => ?_⟩ | refine at_call (hs1) rfl rfl ?_ | refine at_call (hs2) rfl rfl ?_ | refine at_call (hm) rfl rfl ?_ | fail) <;> (try (simp -implicitDefEqProofs only [go_sem, Nat.reduceAdd, Nat.reduceSub, Nat.reduceMul, Nat.reduceLT, Nat.reduceLeDiff, Nat.reduceEqDiff, Nat.reduceBEq, Int.reduceNeg, Int.reduceAdd, Int.reduceLT, Int.reduceLE, Int.reduceToNat, Int.reduceEq, Int.reduceNe, Int.reduceBEq, Int.reduceBNe, Int.reduceMul, Int.reduceSub, reduceIte, reduceCtorEq, hcw, hew, hew'])))
  all_goals
    refine h _ ⟨_, _, rfl, rfl, fit_eq ?_⟩
    clear h hs1 hs2 hm hcw hew hew'
    unfold t2
    split
    all_goals
      simp at *
      try omega
theorem nat_tdiv (x d : Nat) : (x : Int).tdiv (d : Int) = ((x / d : Nat) : Int) := rfl
theorem mul_tests {a b : Int} (h : ¬ a = 0 ∧ ¬ b = 0) :
    (0 < a → 0 < b → ∃ q : Int, (9223372036854775807 : Int).tdiv b = q ∧ 0 ≤ q ∧ q ≤ 9223372036854775807 ∧ (q < a ↔ 9223372036854775807 < a * b) ∧ 0 ≤ a * b) ∧
    (0 < a → b < 0 → ∃ q : Int, (-9223372036854775808 : Int).tdiv a = q ∧ -9223372036854775808 ≤ q ∧ q ≤ 0 ∧ (b < q ↔ a * b < -9223372036854775808) ∧ a * b ≤ 0) ∧
    (a < 0 → 0 < b → ∃ q : Int, (-9223372036854775808 : Int).tdiv b = q ∧ -9223372036854775808 ≤ q ∧ q ≤ 0 ∧ (a < q ↔ a * b < -9223372036854775808) ∧ a * b ≤ 0) ∧
    (a < 0 → b < 0 → ∃ q : Int, (9223372036854775807 : Int).tdiv b = q ∧ -9223372036854775807 ≤ q ∧ q ≤ 0 ∧ (a < q ↔ 9223372036854775807 < a * b) ∧ 0 ≤ a * b) := by
  have key : ∀ (X n d : Nat), 0 < d → (X / d < n ↔ X < n * d) := fun X n d hd => Nat.div_lt_iff_lt_mul hd
  have le : ∀ X d : Nat, X / d ≤ X := Nat.div_le_self
  have pos : ∀ x : Int, 0 < x → ∃ n : Nat, x = (n : Int) ∧ 0 < n := fun x hx => ⟨x.toNat, by omega, by omega⟩
  have neg : ∀ x : Int, x < 0 → ∃ n : Nat, x = -(n : Int) ∧ 0 < n := fun x hx => ⟨(-x).toNat, by omega, by omega⟩
  refine ⟨fun ha hb => ?_, fun ha hb => ?_, fun ha hb => ?_, fun ha hb => ?_⟩
  · obtain ⟨n, rfl, hn⟩ := pos a ha
    obtain ⟨d, rfl, hd⟩ := pos b hb
    have k := key 9223372036854775807 n d hd
    have l := le 9223372036854775807 d
    have e : ((n : Int) * (d : Int)) = ((n * d : Nat) : Int) := by simp
    rw [e]
    generalize n * d = m at *
    refine ⟨_, nat_tdiv 9223372036854775807 d, ?_⟩
    generalize 9223372036854775807 / d = q at *
    omega
  · obtain ⟨n, rfl, hn⟩ := pos a ha
    obtain ⟨d, rfl, hd⟩ := neg b hb
    have k := key 9223372036854775808 d n hn
    have l := le 9223372036854775808 n
    have e : ((n : Int) * -(d : Int)) = -((d * n : Nat) : Int) := by rw [Int.mul_neg, Nat.mul_comm]; simp
    rw [e]
    generalize d * n = m at *
    refine ⟨_, (by rw [show (-9223372036854775808 : Int) = -((9223372036854775808 : Nat) : Int) from rfl, Int.neg_tdiv, nat_tdiv]), ?_⟩
    generalize 9223372036854775808 / n = q at *
    omega
  · obtain ⟨n, rfl, hn⟩ := neg a ha
    obtain ⟨d, rfl, hd⟩ := pos b hb
    have k := key 9223372036854775808 n d hd
    have l := le 9223372036854775808 d
    have e : (-(n : Int) * (d : Int)) = -((n * d : Nat) : Int) := by rw [Int.neg_mul]; simp
    rw [e]
    generalize n * d = m at *
    refine ⟨_, (by rw [show (-9223372036854775808 : Int) = -((9223372036854775808 : Nat) : Int) from rfl, Int.neg_tdiv, nat_tdiv]), ?_⟩
    generalize 9223372036854775808 / d = q at *
    omega
  · obtain ⟨n, rfl, hn⟩ := neg a ha
    obtain ⟨d, rfl, hd⟩ := neg b hb
    have k := key 9223372036854775807 n d hd
    have l := le 9223372036854775807 d
    have e : (-(n : Int) * -(d : Int)) = ((n * d : Nat) : Int) := by rw [Int.neg_mul_neg]; simp
    rw [e]
    generalize n * d = m at *
    refine ⟨_, (by rw [show (9223372036854775807 : Int) = ((9223372036854775807 : Nat) : Int) from rfl, Int.tdiv_neg, nat_tdiv]), ?_⟩
    generalize 9223372036854775807 / d = q at *
    omega
theorem ref01_Mul_pc (a b : Int) (ha : i64 a) (hb : i64 b) : PureC Tryd.prog G n_proctorref01_Mul [iv a, iv b] (t2b (okR (a * b))) := by
  have hz : i64 0 := by unfold i64; omega
  have hs1 := ref01_Sub_pc (G := G) 0 b hz hb
  have hs2 := ref01_Sub_pc (G := G) 0 a hz ha
  unfold i64 at ha hb
  refine pc_proctorref01_Mul (Runs.of fun Φ h => ?_)
  unfold c_proctorref01_Mul
  unfold t2b at *
  by_cases a0 : a = 0
  · subst a0
    rw [Int.zero_mul] at h
    (try (simp -implicitDefEqProofs only [go_sem, Nat.reduceAdd, Nat.reduceSub, Nat.reduceMul, Nat.reduceLT, Nat.reduceLeDiff, Nat.reduceEqDiff, Nat.reduceBEq, Int.reduceNeg, Int.reduceAdd, Int.reduceLT, Int.reduceLE, Int.reduceToNat, Int.reduceEq, Int.reduceNe, Int.reduceBEq, Int.reduceBNe, Int.reduceMul, Int.reduceSub, reduceIte, reduceCtorEq])); repeat' ((first | refine at_guard (fun hb => ?_) (fun hb => ?_) | refine ⟨fun hb => ?_, fun hb => ?_⟩ | fail) <;> (try (simp -implicitDefEqProofs only [go_sem, Nat.reduceAdd, Nat.reduceSub, Nat.reduceMul, Nat.reduceLT, Nat.reduceLeDiff, Nat.reduceEqDiff, Nat.reduceBEq, Int.reduceNeg, Int.reduceAdd, Int.reduceLT, Int.reduceLE, Int.reduceToNat, Int.reduceEq, Int.reduceNe, Int.reduceBEq, Int.reduceBNe, Int.reduceMul, Int.reduceSub, reduceIte, reduceCtorEq])))
    all_goals first | (exfalso; simp at *; done) | exact h _ ⟨_, _, rfl, rfl, .refl _⟩
  by_cases b0 : b = 0
  · subst b0
    rw [Int.mul_zero] at h
    have e0 : (a == 0) = false := by simpa using a0
    (try (simp -implicitDefEqProofs only [go_sem, Nat.reduceAdd, Nat.reduceSub, Nat.reduceMul, Nat.reduceLT, Nat.reduceLeDiff, Nat.reduceEqDiff, Nat.reduceBEq, Int.reduceNeg, Int.reduceAdd, Int.reduceLT, Int.reduceLE, Int.reduceToNat, Int.reduceEq, Int.reduceNe, Int.reduceBEq, Int.reduceBNe, Int.reduceMul, Int.reduceSub, reduceIte, reduceCtorEq, e0])); repeat' ((first | refine at_guard (fun hb => ?_) (fun hb => ?_) | refine ⟨fun hb => ?_, fun hb => ?_⟩ | fail) <;> (try (simp -implicitDefEqProofs only [go_sem, Nat.reduceAdd, Nat.reduceSub, Nat.reduceMul, Nat.reduceLT, Nat.reduceLeDiff, Nat.reduceEqDiff, Nat.reduceBEq, Int.reduceNeg, Int.reduceAdd, Int.reduceLT, Int.reduceLE, Int.reduceToNat, Int.reduceEq, Int.reduceNe, Int.reduceBEq, Int.reduceBNe, Int.reduceMul, Int.reduceSub, reduceIte, reduceCtorEq, e0])))
    all_goals first | (exfalso; simp at *; done) | exact h _ ⟨_, _, rfl, rfl, .refl _⟩
  have e0 : (a == 0) = false := by simpa using a0
  have e1 : (b == 0) = false := by simpa using b0
  by_cases a1 : a = -1
  · subst a1
    rw [show (-1 : Int) * b = 0 - b by omega] at h
    generalize okR (0 - b) = r at *
    (try (simp -implicitDefEqProofs only [go_sem, Nat.reduceAdd, Nat.reduceSub, Nat.reduceMul, Nat.reduceLT, Nat.reduceLeDiff, Nat.reduceEqDiff, Nat.reduceBEq, Int.reduceNeg, Int.reduceAdd, Int.reduceLT, Int.reduceLE, Int.reduceToNat, Int.reduceEq, Int.reduceNe, Int.reduceBEq, Int.reduceBNe, Int.reduceMul, Int.reduceSub, reduceIte, reduceCtorEq, e1])); repeat' ((first | refine at_guard (fun hb => ?_) (fun hb => ?_) | refine ⟨fun hb => ?_, fun hb => ?_⟩ | refine at_call (hs1) rfl rfl ?_ | fail) <;> (try (simp -implicitDefEqProofs only [go_sem, Nat.reduceAdd, Nat.reduceSub, Nat.reduceMul, Nat.reduceLT, Nat.reduceLeDiff, Nat.reduceEqDiff, Nat.reduceBEq, Int.reduceNeg, Int.reduceAdd, Int.reduceLT, Int.reduceLE, Int.reduceToNat, Int.reduceEq, Int.reduceNe, Int.reduceBEq, Int.reduceBNe, Int.reduceMul, Int.reduceSub, reduceIte, reduceCtorEq, e1])))
    all_goals first | (exfalso; simp at *; done) | exact h _ ⟨_, _, rfl, rfl, .refl _⟩
  by_cases b1 : b = -1
  · subst b1
    rw [show a * (-1 : Int) = 0 - a by omega] at h
    have e2 : (a == -1) = false := by simpa using a1
    generalize okR (0 - a) = r at *
    (try (simp -implicitDefEqProofs only [go_sem, Nat.reduceAdd, Nat.reduceSub, Nat.reduceMul, Nat.reduceLT, Nat.reduceLeDiff, Nat.reduceEqDiff, Nat.reduceBEq, Int.reduceNeg, Int.reduceAdd, Int.reduceLT, Int.reduceLE, Int.reduceToNat, Int.reduceEq, Int.reduceNe, Int.reduceBEq, Int.reduceBNe, Int.reduceMul, Int.reduceSub, reduceIte, reduceCtorEq, e0, e2])); repeat' ((first | refine at_guard (fun hb => ?_) (fun hb => ?_) | refine ⟨fun hb => ?_, fun hb => ?_⟩ | refine at_call (hs2) rfl rfl ?_ | fail) <;> (try (simp -implicitDefEqProofs only [go_sem, Nat.reduceAdd, Nat.reduceSub, Nat.reduceMul, Nat.reduceLT, Nat.reduceLeDiff, Nat.reduceEqDiff, Nat.reduceBEq, Int.reduceNeg, Int.reduceAdd, Int.reduceLT, Int.reduceLE, Int.reduceToNat, Int.reduceEq, Int.reduceNe, Int.reduceBEq, Int.reduceBNe, Int.reduceMul, Int.reduceSub, reduceIte, reduceCtorEq, e0, e2])))
    all_goals first | (exfalso; simp at *; done) | exact h _ ⟨_, _, rfl, rfl, .refl _⟩
  have e2 : (a == -1) = false := by simpa using a1
  have e3 : (b == -1) = false := by simpa using b1
  clear hs1 hs2
  have hm : ∀ m : Int, -9223372036854775808 ≤ m → m ≤ 9223372036854775807 → okR m = (m, true) ∧ IntKind.i64.wrap m = m := fun m h1 h2 => ⟨by unfold okR; rw [if_pos (in64_iff.2 ⟨h1, h2⟩)], wrap_i64 h1 h2⟩
  have hn : ∀ m : Int, (m < -9223372036854775808 ∨ 9223372036854775807 < m) → okR m = (0, false) := fun m h => by
    unfold okR
    rw [if_neg (fun e => by have := in64_iff.1 e; omega)]
  by_cases sa : 0 < a
  · by_cases sb : 0 < b
    · obtain ⟨q, hq, q1, q2, q3, q4⟩ := (mul_tests ⟨a0, b0⟩).1 sa sb
      have n1 : ¬ a < 0 := by omega
      have n2 : ¬ b < 0 := by omega
      have hw : IntKind.i64.wrap q = q := wrap_i64 (by omega) (by omega)
      generalize hmm : a * b = m at *
      by_cases hov : q < a
      · rw [hn m (by omega)] at h
        (try (simp -implicitDefEqProofs only [go_sem, Nat.reduceAdd, Nat.reduceSub, Nat.reduceMul, Nat.reduceLT, Nat.reduceLeDiff, Nat.reduceEqDiff, Nat.reduceBEq, Int.reduceNeg, Int.reduceAdd, Int.reduceLT, Int.reduceLE, Int.reduceToNat, Int.reduceEq, Int.reduceNe, Int.reduceBEq, Int.reduceBNe, Int.reduceMul, Int.reduceSub, reduceIte, reduceCtorEq, e0, e1, e2, e3, sa, sb, n1, n2, abin_quo _ _ _ b0, abin_quo _ _ _ a0, hq, hw, hov, hmm])); repeat' ((first | refine at_guard (fun hb => ?_) (fun hb => ?_) | refine ⟨fun hb => ?_, fun hb => ?_⟩ | fail) <;> (try (simp -implicitDefEqProofs only [go_sem, Nat.reduceAdd, Nat.reduceSub, Nat.reduceMul, Nat.reduceLT, Nat.reduceLeDiff, Nat.reduceEqDiff, Nat.reduceBEq, Int.reduceNeg, Int.reduceAdd, Int.reduceLT, Int.reduceLE, Int.reduceToNat, Int.reduceEq, Int.reduceNe, Int.reduceBEq, Int.reduceBNe, Int.reduceMul, Int.reduceSub, reduceIte, reduceCtorEq, e0, e1, e2, e3, sa, sb, n1, n2, abin_quo _ _ _ b0, abin_quo _ _ _ a0, hq, hw, hov, hmm])))
        all_goals first | (exfalso; simp at *; done) | exact h _ ⟨_, _, rfl, rfl, .refl _⟩
      · obtain ⟨k1, k2⟩ := hm m (by omega) (by omega)
        rw [k1] at h
        (try (simp -implicitDefEqProofs only [go_sem, Nat.reduceAdd, Nat.reduceSub, Nat.reduceMul, Nat.reduceLT, Nat.reduceLeDiff, Nat.reduceEqDiff, Nat.reduceBEq, Int.reduceNeg, Int.reduceAdd, Int.reduceLT, Int.reduceLE, Int.reduceToNat, Int.reduceEq, Int.reduceNe, Int.reduceBEq, Int.reduceBNe, Int.reduceMul, Int.reduceSub, reduceIte, reduceCtorEq, e0, e1, e2, e3, sa, sb, n1, n2, abin_quo _ _ _ b0, abin_quo _ _ _ a0, hq, hw, hov, hmm, k2])); repeat' ((first | refine at_guard (fun hb => ?_) (fun hb => ?_) | refine ⟨fun hb => ?_, fun hb => ?_⟩ | fail) <;> (try (simp -implicitDefEqProofs only [go_sem, Nat.reduceAdd, Nat.reduceSub, Nat.reduceMul, Nat.reduceLT, Nat.reduceLeDiff, Nat.reduceEqDiff, Nat.reduceBEq, Int.reduceNeg, Int.reduceAdd, Int.reduceLT, Int.reduceLE, Int.reduceToNat, Int.reduceEq, Int.reduceNe, Int.reduceBEq, Int.reduceBNe, Int.reduceMul, Int.reduceSub, reduceIte, reduceCtorEq, e0, e1, e2, e3, sa, sb, n1, n2, abin_quo _ _ _ b0, abin_quo _ _ _ a0, hq, hw, hov, hmm, k2])))
        all_goals first | (exfalso; simp at *; done) | exact h _ ⟨_, _, rfl, rfl, .refl _⟩
    · replace sb : b < 0 := by omega
      obtain ⟨q, hq, q1, q2, q3, q4⟩ := (mul_tests ⟨a0, b0⟩).2.1 sa sb
      have n1 : ¬ a < 0 := by omega
      have n2 : ¬ 0 < b := by omega
      have hw : IntKind.i64.wrap q = q := wrap_i64 (by omega) (by omega)
      generalize hmm : a * b = m at *
      by_cases hov : b < q
      · rw [hn m (by omega)] at h
        (try (simp -implicitDefEqProofs only [go_sem, Nat.reduceAdd, Nat.reduceSub, Nat.reduceMul, Nat.reduceLT, Nat.reduceLeDiff, Nat.reduceEqDiff, Nat.reduceBEq, Int.reduceNeg, Int.reduceAdd, Int.reduceLT, Int.reduceLE, Int.reduceToNat, Int.reduceEq, Int.reduceNe, Int.reduceBEq, Int.reduceBNe, Int.reduceMul, Int.reduceSub, reduceIte, reduceCtorEq, e0, e1, e2, e3, sa, sb, n1, n2, abin_quo _ _ _ b0, abin_quo _ _ _ a0, hq, hw, hov, hmm])); repeat' ((first | refine at_guard (fun hb => ?_) (fun hb => ?_) | refine ⟨fun hb => ?_, fun hb => ?_⟩ | fail) <;> (try (simp -implicitDefEqProofs only [go_sem, Nat.reduceAdd, Nat.reduceSub, Nat.reduceMul, Nat.reduceLT, Nat.reduceLeDiff, Nat.reduceEqDiff, Nat.reduceBEq, Int.reduceNeg, Int.reduceAdd, Int.reduceLT, Int.reduceLE, Int.reduceToNat, Int.reduceEq, Int.reduceNe, Int.reduceBEq, Int.reduceBNe, Int.reduceMul, Int.reduceSub, reduceIte, reduceCtorEq, e0, e1, e2, e3, sa, sb, n1, n2, abin_quo _ _ _ b0, abin_quo _ _ _ a0, hq, hw, hov, hmm])))
        all_goals first | (exfalso; simp at *; done) | exact h _ ⟨_, _, rfl, rfl, .refl _⟩
      · obtain ⟨k1, k2⟩ := hm m (by omega) (by omega)
        rw [k1] at h
        (try (simp -implicitDefEqProofs only [go_sem, Nat.reduceAdd, Nat.reduceSub, Nat.reduceMul, Nat.reduceLT, Nat.reduceLeDiff, Nat.reduceEqDiff, Nat.reduceBEq, Int.reduceNeg, Int.reduceAdd, Int.reduceLT, Int.reduceLE, Int.reduceToNat, Int.reduceEq, Int.reduceNe, Int.reduceBEq, Int.reduceBNe, Int.reduceMul, Int.reduceSub, reduceIte, reduceCtorEq, e0, e1, e2, e3, sa, sb, n1, n2, abin_quo _ _ _ b0, abin_quo _ _ _ a0, hq, hw, hov, hmm, k2])); repeat' ((first | refine at_guard (fun hb => ?_) (fun hb => ?_) | refine ⟨fun hb => ?_, fun hb => ?_⟩ | fail) <;> (try (simp -implicitDefEqProofs only [go_sem, Nat.reduceAdd, Nat.reduceSub, Nat.reduceMul, Nat.reduceLT, Nat.reduceLeDiff, Nat.reduceEqDiff, Nat.reduceBEq, Int.reduceNeg, Int.reduceAdd, Int.reduceLT, Int.reduceLE, Int.reduceToNat, Int.reduceEq, Int.reduceNe, Int.reduceBEq, Int.reduceBNe, Int.reduceMul, Int.reduceSub, reduceIte, reduceCtorEq, e0, e1, e2, e3, sa, sb, n1, n2, abin_quo _ _ _ b0, abin_quo _ _ _ a0, hq, hw, hov, hmm, k2])))
        all_goals first | (exfalso; simp at *; done) | exact h _ ⟨_, _, rfl, rfl, .refl _⟩
  · replace sa : a < 0 := by omega
    by_cases sb : 0 < b
    · obtain ⟨q, hq, q1, q2, q3, q4⟩ := (mul_tests ⟨a0, b0⟩).2.2.1 sa sb
      have n1 : ¬ 0 < a := by omega
      have n2 : ¬ b < 0 := by omega
      have hw : IntKind.i64.wrap q = q := wrap_i64 (by omega) (by omega)
      generalize hmm : a * b = m at *
      by_cases hov : a < q
      · rw [hn m (by omega)] at h
        (try (simp -implicitDefEqProofs only [go_sem, Nat.reduceAdd, Nat.reduceSub, Nat.reduceMul, Nat.reduceLT, Nat.reduceLeDiff, Nat.reduceEqDiff, Nat.reduceBEq, Int.reduceNeg, Int.reduceAdd, Int.reduceLT, Int.reduceLE, Int.reduceToNat, Int.reduceEq, Int.reduceNe, Int.reduceBEq, Int.reduceBNe, Int.reduceMul, Int.reduceSub, reduceIte, reduceCtorEq, e0, e1, e2, e3, sa, sb, n1, n2, abin_quo _ _ _ b0, abin_quo _ _ _ a0, hq, hw, hov, hmm])); repeat' ((first | refine at_guard (fun hb => ?_) (fun hb => ?_) | refine ⟨fun hb => ?_, fun hb => ?_⟩ | fail) <;> (try (simp -implicitDefEqProofs only [go_sem, Nat.reduceAdd, Nat.reduceSub, Nat.reduceMul, Nat.reduceLT, Nat.reduceLeDiff, Nat.reduceEqDiff, Nat.reduceBEq, Int.reduceNeg, Int.reduceAdd, Int.reduceLT, Int.reduceLE, Int.reduceToNat, Int.reduceEq, Int.reduceNe, Int.reduceBEq, Int.reduceBNe, Int.reduceMul, Int.reduceSub, reduceIte, reduceCtorEq, e0, e1, e2, e3, sa, sb, n1, n2, abin_quo _ _ _ b0, abin_quo _ _ _ a0, hq, hw, hov, hmm])))
        all_goals first | (exfalso; simp at *; done) | exact h _ ⟨_, _, rfl, rfl, .refl _⟩
      · obtain ⟨k1, k2⟩ := hm m (by omega) (by omega)
        rw [k1] at h
        (try (simp -implicitDefEqProofs only [go_sem, Nat.reduceAdd, Nat.reduceSub, Nat.reduceMul, Nat.reduceLT, Nat.reduceLeDiff, Nat.reduceEqDiff, Nat.reduceBEq, Int.reduceNeg, Int.reduceAdd, Int.reduceLT, Int.reduceLE, Int.reduceToNat, Int.reduceEq, Int.reduceNe, Int.reduceBEq, Int.reduceBNe, Int.reduceMul, Int.reduceSub, reduceIte, reduceCtorEq, e0, e1, e2, e3, sa, sb, n1, n2, abin_quo _ _ _ b0, abin_quo _ _ _ a0, hq, hw, hov, hmm, k2])); repeat' ((first | refine at_guard (fun hb => ?_) (fun hb => ?_) | refine ⟨fun hb => ?_, fun hb => ?_⟩ | fail) <;> (try (simp -implicitDefEqProofs only [go_sem, Nat.reduceAdd, Nat.reduceSub, Nat.reduceMul, Nat.reduceLT, Nat.reduceLeDiff, Nat.reduceEqDiff, Nat.reduceBEq, Int.reduceNeg, Int.reduceAdd, Int.reduceLT, Int.reduceLE, Int.reduceToNat, Int.reduceEq, Int.reduceNe, Int.reduceBEq, Int.reduceBNe, Int.reduceMul, Int.reduceSub, reduceIte, reduceCtorEq, e0, e1, e2, e3, sa, sb, n1, n2, abin_quo _ _ _ b0, abin_quo _ _ _ a0, hq, hw, hov, hmm, k2])))
        all_goals first | (exfalso; simp at *; done) | exact h _ ⟨_, _, rfl, rfl, .refl _⟩
    · replace sb : b < 0 := by omega
      obtain ⟨q, hq, q1, q2, q3, q4⟩ := (mul_tests ⟨a0, b0⟩).2.2.2 sa sb
      have n1 : ¬ 0 < a := by omega
      have n2 : ¬ 0 < b := by omega
      have hw : IntKind.i64.wrap q = q := wrap_i64 (by omega) (by omega)
      generalize hmm : a * b = m at *
      by_cases hov : a < q
      · rw [hn m (by omega)] at h
        (try (simp -implicitDefEqProofs only [go_sem, Nat.reduceAdd, Nat.reduceSub, Nat.reduceMul, Nat.reduceLT, Nat.reduceLeDiff, Nat.reduceEqDiff, Nat.reduceBEq, Int.reduceNeg, Int.reduceAdd, Int.reduceLT, Int.reduceLE, Int.reduceToNat, Int.reduceEq, Int.reduceNe, Int.reduceBEq, Int.reduceBNe, Int.reduceMul, Int.reduceSub, reduceIte, reduceCtorEq, e0, e1, e2, e3, sa, sb, n1, n2, abin_quo _ _ _ b0, abin_quo _ _ _ a0, hq, hw, hov, hmm])); repeat' ((first | refine at_guard (fun hb => ?_) (fun hb => ?_) | refine ⟨fun hb => ?_, fun hb => ?_⟩ | fail) <;> (try (simp -implicitDefEqProofs only [go_sem, Nat.reduceAdd, Nat.reduceSub, Nat.reduceMul, Nat.reduceLT, Nat.reduceLeDiff, Nat.reduceEqDiff, Nat.reduceBEq, Int.reduceNeg, Int.reduceAdd, Int.reduceLT, Int.reduceLE, Int.reduceToNat, Int.reduceEq, Int.reduceNe, Int.reduceBEq, Int.reduceBNe, Int.reduceMul, Int.reduceSub, reduceIte, reduceCtorEq, e0, e1, e2, e3, sa, sb, n1, n2, abin_quo _ _ _ b0, abin_quo _ _ _ a0, hq, hw, hov, hmm])))
        all_goals first | (exfalso; simp at *; done) | exact h _ ⟨_, _, rfl, rfl, .refl _⟩
      · obtain ⟨k1, k2⟩ := hm m (by omega) (by omega)
        rw [k1] at h
        (try (simp -implicitDefEqProofs only [go_sem, Nat.reduceAdd, Nat.reduceSub, Nat.reduceMul, Nat.reduceLT, Nat.reduceLeDiff, Nat.reduceEqDiff, Nat.reduceBEq, Int.reduceNeg, Int.reduceAdd, Int.reduceLT, Int.reduceLE, Int.reduceToNat, Int.reduceEq, Int.reduceNe, Int.reduceBEq, Int.reduceBNe, Int.reduceMul, Int.reduceSub, reduceIte, reduceCtorEq, e0, e1, e2, e3, sa, sb, n1, n2, abin_quo _ _ _ b0, abin_quo _ _ _ a0, hq, hw, hov, hmm, k2])); repeat' ((first | refine at_guard (fun hb => ?_) (fun hb => ?_) | refine ⟨fun hb => ?_, fun hb => ?_⟩ | fail) <;> (try (simp -implicitDefEqProofs only [go_sem, Nat.reduceAdd, Nat.reduceSub, Nat.reduceMul, Nat.reduceLT, Nat.reduceLeDiff, Nat.reduceEqDiff, Nat.reduceBEq, Int.reduceNeg, Int.reduceAdd, Int.reduceLT, Int.reduceLE, Int.reduceToNat, Int.reduceEq, Int.reduceNe, Int.reduceBEq, Int.reduceBNe, Int.reduceMul, Int.reduceSub, reduceIte, reduceCtorEq, e0, e1, e2, e3, sa, sb, n1, n2, abin_quo _ _ _ b0, abin_quo _ _ _ a0, hq, hw, hov, hmm, k2])))
        all_goals first | (exfalso; simp at *; done) | exact h _ ⟨_, _, rfl, rfl, .refl _⟩
end Go.Proofs.YtdfdiglnpekcpabDoor.Ab
